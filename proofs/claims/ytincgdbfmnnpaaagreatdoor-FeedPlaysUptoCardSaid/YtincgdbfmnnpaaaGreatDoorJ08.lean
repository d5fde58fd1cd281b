/- A part of the proof: Next, Next2, Next3, Next4, Piece, AllLaw, All, Place. -/
import Derived.Test.YtincgdbfmnnpaaaGreatDoorJ07
import Derived.Test.YtincgdbfmnnpaaaGreatDoorJ01
/- feed.Feed.Next: the first ways. -/
namespace Go.Proofs.YtincgdbfmnnpaaaGreatDoor
open Go.RowKit
theorem NSt.failed {w : World} {a : Nat} {fc fc' : List Value} {T : TypeId} {wr w' : World} (h : NSt w a fc T wr) {l : List UInt8} {mode : Int} {out : NOut} {er : Int → Value} {e : Ending} (hp : NextPost wr a l mode out er fc' T e w') : NSt w a fc' T w' :=
  ⟨⟨hp.grown.os.trans h.grown.os, hp.grown.tape.trans h.grown.tape, hp.grown.output.trans h.grown.output, Nat.le_trans h.grown.size hp.grown.size, fun k hk hne => (hp.grown.block k (Nat.lt_of_lt_of_le hk h.grown.size) hne).trans (h.grown.block k hk hne)⟩,
    (hp.grown.block _ (heap_lt h.res) (fun e => by injection e with e; have := h.lt; omega)).trans h.res, hp.fd, h.lt⟩
set_option maxRecDepth 100000 in
set_option maxHeartbeats 4000000 in
theorem gn_bad (a : Nat) (s : ByteArray) (limit mode : Int) (c : Int) (w : World) (hf : FeedAt w a s limit mode (.iface 31 (.int .i64 c))) :
    Calls Tryz.prog 11 #[.pointer (some ⟨a, 0, none⟩)] w fun e w' => NextPost w a s.data.toList mode (.wait) errV (gfc s limit mode (.iface 31 (.int .i64 c))) 57 e w' := by
  have hst : NSt w a _ 57 (w.alloc (.cells #[.int .i64 0, .bool false, .int .i64 0, .slice none 0 0, .slice none 0 0, .string ⟨#[]⟩, .string ⟨#[]⟩] 42)) := ns_start hf
  obtain ⟨c0, c1, c2, c3⟩ := hst.cells4
  have HST := Lib.hid hst
  clear hst hf
  go_enter Tryz.func11, Tryz.ntmps11
  go_wp2_with fail
  refine bodyPost_ret (results_cell2 Tryz.results11 _ _ w.heap.size (pz7 ⟨#[]⟩) _ rfl (range_of_heap HST.out.res) Tryz.underlying42 rfl pieceinfo) rfl ?_
  exact next_wait HST.out rfl
set_option maxRecDepth 100000 in
set_option maxHeartbeats 4000000 in
theorem gn_short (a : Nat) (s : ByteArray) (limit mode : Int) (w : World) (hf : FeedAt w a s limit mode .nilIface) (h48 : s.size < 48) :
    Calls Tryz.prog 11 #[.pointer (some ⟨a, 0, none⟩)] w fun e w' => NextPost w a s.data.toList mode (.wait) errV (gfc s limit mode .nilIface) 57 e w' := by
  have hst : NSt w a _ 57 (w.alloc (.cells #[.int .i64 0, .bool false, .int .i64 0, .slice none 0 0, .slice none 0 0, .string ⟨#[]⟩, .string ⟨#[]⟩] 42)) := ns_start hf
  obtain ⟨c0, c1, c2, c3⟩ := hst.cells4
  have HST := Lib.hid hst
  have hd : decide (s.size < 48) = true := decide_eq_true h48
  clear hst hf
  go_enter Tryz.func11, Tryz.ntmps11
  go_wp2_with fail
  refine bodyPost_ret (results_cell2 Tryz.results11 _ _ w.heap.size (pz7 ⟨#[]⟩) _ rfl (range_of_heap HST.out.res) Tryz.underlying42 rfl pieceinfo) rfl ?_
  exact next_wait HST.out rfl
set_option maxRecDepth 100000 in
set_option maxHeartbeats 4000000 in
theorem gn_limit (a : Nat) (s : ByteArray) (limit mode : Int) (w : World) (hf : FeedAt w a s limit mode .nilIface) (h48 : 48 ≤ s.size) (hl : limit < dlen s.data.toList) :
    Calls Tryz.prog 11 #[.pointer (some ⟨a, 0, none⟩)] w fun e w' => NextPost w a s.data.toList mode (.fail 4) errV (gfc ⟨#[]⟩ limit mode (.iface 31 (.int .i64 4))) 57 e w' := by
  have hst : NSt w a _ 57 (w.alloc (.cells #[.int .i64 0, .bool false, .int .i64 0, .slice none 0 0, .slice none 0 0, .string ⟨#[]⟩, .string ⟨#[]⟩] 42)) := ns_start hf
  obtain ⟨c0, c1, c2, c3⟩ := hst.cells4
  have HST := Lib.hid hst
  have hd : decide (s.size < 48) = false := decide_eq_false (by omega)
  have hi5 : (5 : Int) < (s.size : Int) := by omega
  have hi6 : (6 : Int) < (s.size : Int) := by omega
  have hi7 : (7 : Int) < (s.size : Int) := by omega
  have h5 := byte_lt (s[5]'(by omega))
  have h6 := byte_lt (s[6]'(by omega))
  have h7 := byte_lt (s[7]'(by omega))
  obtain ⟨D, hD⟩ : ∃ D, D = dlen s.data.toList := ⟨_, rfl⟩
  have e3 : bits .or .i64 (bits .or .i64 (((s[5]'(by omega)).toNat : Int) * 65536) (((s[6]'(by omega)).toNat : Int) * 256)) ((s[7]'(by omega)).toNat : Int) = (D : Int) := by
    rw [or3, hD, dlen_eq s h48]
  rw [← hD] at hl
  have q1 : IntKind.i64.wrap ((s[5]'(by omega)).toNat : Int) = (s[5]'(by omega)).toNat := IntWalk.i64_in _ (by omega)
  have q2 : IntKind.i64.wrap ((s[6]'(by omega)).toNat : Int) = (s[6]'(by omega)).toNat := IntWalk.i64_in _ (by omega)
  have q3 : IntKind.i64.wrap ((s[7]'(by omega)).toNat : Int) = (s[7]'(by omega)).toNat := IntWalk.i64_in _ (by omega)
  have q5 : IntKind.i64.wrap (((s[5]'(by omega)).toNat : Int) * 65536) = (s[5]'(by omega)).toNat * 65536 := IntWalk.i64_in _ (by omega)
  have q6 : IntKind.i64.wrap (((s[6]'(by omega)).toNat : Int) * 256) = (s[6]'(by omega)).toNat * 256 := IntWalk.i64_in _ (by omega)
  clear hst hf hD
  go_enter Tryz.func11, Tryz.ntmps11
  go_wp2_with fail
  go_quiet (fail)
  have hst := HST.out.later (below_drewN (Below.refl _ _) nq)
  clear c0 c1 c2 c3 HST q1 q2 q3 q5 q6 e3
  obtain ⟨c0, c1, c2, c3⟩ := hst.cells4
  have HST := Lib.hid hst
  clear hst
  go_wp2_with fail
  refine (fail_any a s limit mode 4 .nilIface s.data.toList _ HST.out.fd (by decide)).mono ?_
  rintro e w2 hp
  have hst := HST.out.failed hp
  obtain ⟨v, rfl, rfl⟩ := hp.val
  have HF := Lib.hid hst
  clear hst hp c0 c1 c2 c3
  go_wp2_with (refine wpList_store_row rfl 42 _ _ rfl w.heap.size #[.int .i64 0, .bool false, .int .i64 0, .slice none 0 0, .slice none 0 0, .string ⟨#[]⟩, .string ⟨#[]⟩] rfl rfl 42 _ HF.out.res pieceinfo rfl (by simp [Value.oneCell']) ?_)
  refine bodyPost_ret (results_cell2 Tryz.results11 _ _ w.heap.size (pz7 ⟨#[]⟩) _ rfl (range_of_heap (setRow_heap _ _ _ _ _ _ HF.out.res)) Tryz.underlying42 rfl pieceinfo) rfl ?_
  exact next_done HF.out rfl rfl rfl
end Go.Proofs.YtincgdbfmnnpaaaGreatDoor

/- feed.Feed.Next: a PDU is there, or not yet. -/
namespace Go.Proofs.YtincgdbfmnnpaaaGreatDoor
open Go.RowKit
theorem pr_good (s : ByteArray) (mode : Int) (hs : s.size ≤ 140737488355328) (h0 : pduErr s.data.toList mode = 0) (w : World) (hw : Laid w) (he : ErrTy w) : Calls Tryz.prog 21 #[.string s, .int .i64 mode] w fun e w' =>
    ∃ A1 n1 c1 A2 n2 c2 zz, e = .returned (.tuple #[.agg #[.int .i64 (headOp (s.data.toList.take 48)), .bool (headNow (s.data.toList.take 48)), .int .i64 ((s.data.toList.take 48).getD 1 0).toNat, .slice A1 n1 c1, .slice A2 n2 c2, .string (bs (unpad (pduRest s.data.toList mode) (dlen s.data.toList)).1)], .int .i64 zz, .nilIface]) ∧ Below w.heap.size w w' ∧
      w'.ownsRow w.heap.size 60 1 (.slice A1 n1 c1) (headVals (s.data.toList.take 48)).length (headVals (s.data.toList.take 48)) ∧
      w'.ownsRow w.heap.size 62 2 (.slice A2 n2 c2) (ahsAll (((pduAll s.data.toList mode).take (pduEnd s.data.toList)).drop 48)).1.length (ahsV (ahsAll (((pduAll s.data.toList mode).take (pduEnd s.data.toList)).drop 48)).1) := by
  refine (pr_any s mode w hw he hs).mono ?_
  rintro e w' ⟨hb, ⟨-, v, rfl, v1, v2, rfl, h1, h2⟩ | ⟨h, -⟩⟩
  · obtain ⟨A1, n1, c1, rfl⟩ := own_slice h1
    obtain ⟨A2, n2, c2, rfl⟩ := own_slice h2
    exact ⟨A1, n1, c1, A2, n2, c2, _, rfl, hb, h1, h2⟩
  · exact absurd h0 h
theorem pr_bad (s : ByteArray) (mode c : Int) (hs : s.size ≤ 140737488355328) (hc : pduErr s.data.toList mode = c) (h0 : c ≠ 0) (w : World) (hw : Laid w) (he : ErrTy w) : Calls Tryz.prog 21 #[.string s, .int .i64 mode] w fun e w' =>
    e = .returned (.tuple #[.agg #[.int .i64 0, .bool false, .int .i64 0, .slice none 0 0, .slice none 0 0, .string ⟨#[]⟩], .int .i64 0, .iface 31 (.int .i64 c)]) ∧ Below w.heap.size w w' := by
  refine (pr_any s mode w hw he hs).mono ?_
  rintro e w' ⟨hb, ⟨h, -⟩ | ⟨-, rfl⟩⟩
  · exact absurd (hc.symm.trans h) h0
  · rw [hc, errV_ne h0]; exact ⟨rfl, hb⟩
set_option maxRecDepth 100000 in
set_option maxHeartbeats 4000000 in
theorem gn_wait (a : Nat) (s : ByteArray) (limit mode : Int) (w : World) (hf : FeedAt w a s limit mode .nilIface) (hs : s.size ≤ 140737488355328) (h48 : 48 ≤ s.size) (hl : ¬ limit < dlen s.data.toList) (hz : (s.size : Int) < (pduSize s.data.toList mode).1) :
    Calls Tryz.prog 11 #[.pointer (some ⟨a, 0, none⟩)] w fun e w' => NextPost w a s.data.toList mode (.wait) errV (gfc s limit mode .nilIface) 57 e w' := by
  have hst : NSt w a _ 57 (w.alloc (.cells #[.int .i64 0, .bool false, .int .i64 0, .slice none 0 0, .slice none 0 0, .string ⟨#[]⟩, .string ⟨#[]⟩] 42)) := ns_start hf
  obtain ⟨c0, c1, c2, c3⟩ := hst.cells4
  have HST := Lib.hid hst
  have hd : decide (s.size < 48) = false := decide_eq_false (by omega)
  have hi5 : (5 : Int) < (s.size : Int) := by omega
  have hi6 : (6 : Int) < (s.size : Int) := by omega
  have hi7 : (7 : Int) < (s.size : Int) := by omega
  have h5 := byte_lt (s[5]'(by omega))
  have h6 := byte_lt (s[6]'(by omega))
  have h7 := byte_lt (s[7]'(by omega))
  obtain ⟨D, hD⟩ : ∃ D, D = dlen s.data.toList := ⟨_, rfl⟩
  have e3 : bits .or .i64 (bits .or .i64 (((s[5]'(by omega)).toNat : Int) * 65536) (((s[6]'(by omega)).toNat : Int) * 256)) ((s[7]'(by omega)).toNat : Int) = (D : Int) := by
    rw [or3, hD, dlen_eq s h48]
  rw [← hD] at hl
  have q1 : IntKind.i64.wrap ((s[5]'(by omega)).toNat : Int) = (s[5]'(by omega)).toNat := IntWalk.i64_in _ (by omega)
  have q2 : IntKind.i64.wrap ((s[6]'(by omega)).toNat : Int) = (s[6]'(by omega)).toNat := IntWalk.i64_in _ (by omega)
  have q3 : IntKind.i64.wrap ((s[7]'(by omega)).toNat : Int) = (s[7]'(by omega)).toNat := IntWalk.i64_in _ (by omega)
  have q5 : IntKind.i64.wrap (((s[5]'(by omega)).toNat : Int) * 65536) = (s[5]'(by omega)).toNat * 65536 := IntWalk.i64_in _ (by omega)
  have q6 : IntKind.i64.wrap (((s[6]'(by omega)).toNat : Int) * 256) = (s[6]'(by omega)).toNat * 256 := IntWalk.i64_in _ (by omega)
  have hZ := fun w => (size_any s mode w hs).mono (fun e w' hh => (⟨hh.1, by obtain ⟨k, h2⟩ := hh.2; rw [h2]; exact below_drewN (Below.refl _ _) k⟩ : e = .returned (.tuple #[.int .i64 (pduSize s.data.toList mode).1, errV (pduSize s.data.toList mode).2]) ∧ Below w.heap.size w w'))
  obtain ⟨ze, hze⟩ : ∃ ze, ze = errV (pduSize s.data.toList mode).2 := ⟨_, rfl⟩
  obtain ⟨z, hzz⟩ : ∃ z, z = (pduSize s.data.toList mode).1 := ⟨_, rfl⟩
  rw [← hzz, ← hze] at hZ
  rw [← hzz] at hz
  have HZ := Lib.hid hZ
  clear hst hf hD hZ hzz hze
  go_enter Tryz.func11, Tryz.ntmps11
  go_wp2_with fail
  go_quiet (fail)
  have hst := HST.out.later (below_drewN (Below.refl _ _) nq)
  have hbz := below_drewN ((Below.refl w.heap.size w).alloc (Nat.le_refl _) (.cells #[.int .i64 0, .bool false, .int .i64 0, .slice none 0 0, .slice none 0 0, .string ⟨#[]⟩, .string ⟨#[]⟩] 42)) nq
  clear c0 c1 c2 c3 HST q1 q2 q3 q5 q6 e3
  generalize World.drewN _ nq = wz at hst hbz ⊢
  obtain ⟨c0, c1, c2, c3⟩ := hst.cells4
  have HST := Lib.hid hst
  have HBZ := Lib.hid hbz
  clear hst hbz
  go_wp2_with fail
  go_region_held3 (fun w' => w'.cell? ⟨a, 0, none⟩ = some (.string s) ∧ w'.cell? ⟨a, 2, none⟩ = some (.int .i64 mode)) (go_keep) ((go_at_call 20; refine (HZ.out _).mono ?_; rintro e w6 ⟨rfl, hb6⟩; have hbb := below_undrew hb6; have hst6 := HST.out.later hbb; have hbw := HBZ.out.trans (hbb.mono HBZ.out.size); have x0 := hst6.cells4.1; have x2 := hst6.cells4.2.2.1; have HST6 := Lib.hid hst6; have HBW := Lib.hid hbw; clear hst6 hb6 hbb hbw))
  clear c0 c1 c2 c3
  go_wp2_with (refine wpList_store_row rfl 42 _ _ rfl w.heap.size #[.int .i64 0, .bool false, .int .i64 0, .slice none 0 0, .slice none 0 0, .string ⟨#[]⟩, .string ⟨#[]⟩] rfl rfl 42 _ HST6.out.res pieceinfo rfl (by simp [Value.oneCell']) ?_)
  refine bodyPost_ret (results_cell2 Tryz.results11 _ _ w.heap.size (pz7 ⟨#[]⟩) _ rfl (range_of_heap (setRow_heap _ _ _ _ _ _ HST6.out.res)) Tryz.underlying42 rfl pieceinfo) rfl ?_
  exact next_done HST6.out rfl rfl rfl
set_option maxRecDepth 100000 in
set_option maxHeartbeats 4000000 in
theorem gn_good (a : Nat) (s : ByteArray) (limit mode : Int) (z : Nat) (w : World) (hf : FeedAt w a s limit mode .nilIface) (hw : Laid w) (he : ErrTy w) (hs : s.size ≤ 140737488355328) (h48 : 48 ≤ s.size) (hl : ¬ limit < dlen s.data.toList) (hzz : (z : Int) = (pduSize s.data.toList mode).1) (hz : z ≤ s.size) (h0 : pduErr (s.data.toList.take z) mode = 0) :
    Calls Tryz.prog 11 #[.pointer (some ⟨a, 0, none⟩)] w fun e w' => NextPost w a s.data.toList mode (.good z) errV (gfc (bs (s.data.toList.drop z)) limit mode .nilIface) 57 e w' := by
  have hst : NSt w a _ 57 (w.alloc (.cells #[.int .i64 0, .bool false, .int .i64 0, .slice none 0 0, .slice none 0 0, .string ⟨#[]⟩, .string ⟨#[]⟩] 42)) := ns_start hf
  obtain ⟨c0, c1, c2, c3⟩ := hst.cells4
  have HST := Lib.hid hst
  have hd : decide (s.size < 48) = false := decide_eq_false (by omega)
  have hi5 : (5 : Int) < (s.size : Int) := by omega
  have hi6 : (6 : Int) < (s.size : Int) := by omega
  have hi7 : (7 : Int) < (s.size : Int) := by omega
  have h5 := byte_lt (s[5]'(by omega))
  have h6 := byte_lt (s[6]'(by omega))
  have h7 := byte_lt (s[7]'(by omega))
  obtain ⟨D, hD⟩ : ∃ D, D = dlen s.data.toList := ⟨_, rfl⟩
  have e3 : bits .or .i64 (bits .or .i64 (((s[5]'(by omega)).toNat : Int) * 65536) (((s[6]'(by omega)).toNat : Int) * 256)) ((s[7]'(by omega)).toNat : Int) = (D : Int) := by
    rw [or3, hD, dlen_eq s h48]
  rw [← hD] at hl
  have q1 : IntKind.i64.wrap ((s[5]'(by omega)).toNat : Int) = (s[5]'(by omega)).toNat := IntWalk.i64_in _ (by omega)
  have q2 : IntKind.i64.wrap ((s[6]'(by omega)).toNat : Int) = (s[6]'(by omega)).toNat := IntWalk.i64_in _ (by omega)
  have q3 : IntKind.i64.wrap ((s[7]'(by omega)).toNat : Int) = (s[7]'(by omega)).toNat := IntWalk.i64_in _ (by omega)
  have q5 : IntKind.i64.wrap (((s[5]'(by omega)).toNat : Int) * 65536) = (s[5]'(by omega)).toNat * 65536 := IntWalk.i64_in _ (by omega)
  have q6 : IntKind.i64.wrap (((s[6]'(by omega)).toNat : Int) * 256) = (s[6]'(by omega)).toNat * 256 := IntWalk.i64_in _ (by omega)
  have hZ := fun w => (size_any s mode w hs).mono (fun e w' hh => (⟨hh.1, by obtain ⟨k, h2⟩ := hh.2; rw [h2]; exact below_drewN (Below.refl _ _) k⟩ : e = .returned (.tuple #[.int .i64 (pduSize s.data.toList mode).1, errV (pduSize s.data.toList mode).2]) ∧ Below w.heap.size w w'))
  obtain ⟨ze, hze⟩ : ∃ ze, ze = errV (pduSize s.data.toList mode).2 := ⟨_, rfl⟩
  rw [← hzz, ← hze] at hZ
  have hzi : (z : Int) ≤ (s.size : Int) := by omega
  have hnz : ¬ s.size < z := by omega
  have hpl : (s.extract 0 z).data.toList = s.data.toList.take z := by rw [Lib.extract_data]; simp
  have hR := pr_good (s.extract 0 z) mode (by rw [Lib.size_eq, hpl, List.length_take]; omega) (by rw [hpl]; exact h0)
  rw [hpl] at hR
  obtain ⟨L, hL⟩ : ∃ L, L = s.data.toList.take z := ⟨_, rfl⟩
  rw [← hL] at hR
  obtain ⟨O1, hO1⟩ : ∃ O1, O1 = headOp (L.take 48) := ⟨_, rfl⟩
  obtain ⟨O2, hO2⟩ : ∃ O2, O2 = headNow (L.take 48) := ⟨_, rfl⟩
  obtain ⟨O3, hO3⟩ : ∃ O3 : Int, O3 = (((L.take 48).getD 1 0).toNat : Int) := ⟨_, rfl⟩
  obtain ⟨t, ht⟩ : ∃ t, t = bs (unpad (pduRest L mode) (dlen L)).1 := ⟨_, rfl⟩
  rw [← hO1, ← hO2, ← hO3, ← ht] at hR
  have HR := Lib.hid hR
  have HL := Lib.hid hL
  have HO1 := Lib.hid hO1
  have HO2 := Lib.hid hO2
  have HO3 := Lib.hid hO3
  have HT := Lib.hid ht
  clear hR hL hO1 hO2 hO3 ht
  have HZ := Lib.hid hZ
  have HW := Lib.hid hw
  have HE := Lib.hid he
  clear hst hf hD hZ hzz hze hpl h0 hw he
  go_enter Tryz.func11, Tryz.ntmps11
  go_wp2_with fail
  go_quiet (fail)
  have hst := HST.out.later (below_drewN (Below.refl _ _) nq)
  have hbz := below_drewN ((Below.refl w.heap.size w).alloc (Nat.le_refl _) (.cells #[.int .i64 0, .bool false, .int .i64 0, .slice none 0 0, .slice none 0 0, .string ⟨#[]⟩, .string ⟨#[]⟩] 42)) nq
  clear c0 c1 c2 c3 HST q1 q2 q3 q5 q6 e3
  generalize World.drewN _ nq = wz at hst hbz ⊢
  obtain ⟨c0, c1, c2, c3⟩ := hst.cells4
  have HST := Lib.hid hst
  have HBZ := Lib.hid hbz
  clear hst hbz
  go_wp2_with fail
  go_region_held3 (fun w' => w'.cell? ⟨a, 0, none⟩ = some (.string s) ∧ w'.cell? ⟨a, 2, none⟩ = some (.int .i64 mode)) (go_keep) ((go_at_call 20; refine (HZ.out _).mono ?_; rintro e w6 ⟨rfl, hb6⟩; have hbb := below_undrew hb6; have hst6 := HST.out.later hbb; have hbw := HBZ.out.trans (hbb.mono HBZ.out.size); have x0 := hst6.cells4.1; have x2 := hst6.cells4.2.2.1; have HST6 := Lib.hid hst6; have HBW := Lib.hid hbw; clear hst6 hb6 hbb hbw))
  clear c0 c1 c2 c3
  obtain ⟨p, hp⟩ : ∃ p, p = w6.heap.size := ⟨_, rfl⟩
  have hsp : NSp w a (gfc s limit mode .nilIface) 57 p [.int .i64 0, .bool false, .int .i64 0, .slice none 0 0, .slice none 0 0, .string ⟨#[]⟩] (w6.alloc (.cells #[.int .i64 0, .bool false, .int .i64 0, .slice none 0 0, .slice none 0 0, .string ⟨#[]⟩] 40)) :=
    ⟨HST6.out.later ((Below.refl _ w6).alloc (Nat.le_refl _) _), by rw [hp]; exact alloc_heap_new w6 _, by rw [hp]; exact heap_lt HST6.out.res⟩
  have hpw : Below w.heap.size w (w6.alloc (.cells #[.int .i64 0, .bool false, .int .i64 0, .slice none 0 0, .slice none 0 0, .string ⟨#[]⟩] 40)) := HBW.out.alloc HBW.out.size _
  have hLA := HW.out.below hpw.drew
  have hEA := HE.out.below hpw.drew
  have hap : a ≠ p := by have := hsp.lt; have := hsp.st.lt; omega
  have hpa : ¬ p = a := fun h => hap h.symm
  have HSP := Lib.hid hsp
  have HPW := Lib.hid hpw
  have HLA := Lib.hid hLA
  have HEA := Lib.hid hEA
  have HPP := Lib.hid hp
  have HLB := Lib.hid (HW.out.below HBW.out.drew)
  have HEB := Lib.hid (HE.out.below HBW.out.drew)
  clear hsp hpw hLA hEA hp
  go_wp2_with fail
  go_region_held3 (fun w' => w'.cell? ⟨a, 0, none⟩ = some (.string s) ∧ w'.cell? ⟨a, 2, none⟩ = some (.int .i64 mode)) (go_keep) (first | (go_at_call 21; refine (HR.out _ HLA.out HEA.out).mono ?_; rintro e w7 ⟨A1, n1, k1, A2, n2, k2, zz, rfl, hb7, ho1, ho2⟩; have hst7 := HSP.out.later (below_undrew hb7); have hbw7 := HPW.out.trans ((below_undrew hb7).mono HPW.out.size); rw [← HPP.out]; obtain ⟨⟨y0, y1, y2, y3, y4, y5⟩, ⟨g0, g1, g2, g3, g4, g5⟩⟩ := pcells hst7.pb; have x0' := hst7.st.cells4.1; have x2' := hst7.st.cells4.2.2.1; have ho1' := own_mono (base' := p + 1) ho1 (heap_lt HSP.out.pb); have ho2' := own_mono (base' := p + 1) ho2 (heap_lt HSP.out.pb); have HOW1 := Lib.hid ho1'; have HOW2 := Lib.hid ho2'; clear ho1 ho2 ho1' ho2'; have HST7 := Lib.hid hst7; have HBW7 := Lib.hid hbw7; clear hst7 hb7 hbw7) | (go_at_call 21; refine (HR.out _ HLB.out HEB.out).mono ?_; rintro e w7 ⟨A1, n1, k1, A2, n2, k2, zz, rfl, hb7, ho1, ho2⟩; have hst7 := HST6.out.later (below_undrew hb7); have hbw7 := HBW.out.trans ((below_undrew hb7).mono HBW.out.size); have x0' := hst7.cells4.1; have x2' := hst7.cells4.2.2.1; have ho1' := own_mono (base' := w.heap.size + 1) ho1 (heap_lt HST6.out.res); have ho2' := own_mono (base' := w.heap.size + 1) ho2 (heap_lt HST6.out.res); have HOW1 := Lib.hid ho1'; have HOW2 := Lib.hid ho2'; clear ho1 ho2 ho1' ho2'; have HST7B := Lib.hid hst7; have HBW7 := Lib.hid hbw7; clear hst7 hb7 hbw7))
  all_goals
    first
    | (have hle : w.heap.size ≤ p := Nat.le_of_lt HSP.out.lt
       have hE' := ((((((HST7.out.setp 0 (.int .i64 O1)).setp 1 (.bool O2)).setp 2 (.int .i64 O3)).setp 3 (.slice A1 n1 k1)).setp 4 (.slice A2 n2 k2)).setp 5 (.string t))
       have hE : NSp w a (gfc s limit mode .nilIface) 57 p [.int .i64 O1, .bool O2, .int .i64 O3, .slice A1 n1 k1, .slice A2 n2 k2, .string t] _ := hE'
       have hbe := ((((((HBW7.out.setCell (p := ⟨p, 0, none⟩) hle (.int .i64 O1)).setCell (p := ⟨p, 1, none⟩) hle (.bool O2)).setCell (p := ⟨p, 2, none⟩) hle (.int .i64 O3)).setCell (p := ⟨p, 3, none⟩) hle (.slice A1 n1 k1)).setCell (p := ⟨p, 4, none⟩) hle (.slice A2 n2 k2)).setCell (p := ⟨p, 5, none⟩) hle (.string t))
       have hw1 := own_mono (base' := w.heap.size + 1) (own_set6 HOW1.out p (Nat.lt_succ_self p) (.int .i64 O1) (.bool O2) (.int .i64 O3) (.slice A1 n1 k1) (.slice A2 n2 k2) (.string t)) (by have := HSP.out.lt; omega)
       have hw2 := own_mono (base' := w.heap.size + 1) (own_set6 HOW2.out p (Nat.lt_succ_self p) (.int .i64 O1) (.bool O2) (.int .i64 O3) (.slice A1 n1 k1) (.slice A2 n2 k2) (.string t)) (by have := HSP.out.lt; omega)
       generalize (World.setCell (World.setCell (World.setCell (World.setCell (World.setCell (World.setCell w7 ⟨p, 0, none⟩ (.int .i64 O1)) ⟨p, 1, none⟩ (.bool O2)) ⟨p, 2, none⟩ (.int .i64 O3)) ⟨p, 3, none⟩ (.slice A1 n1 k1)) ⟨p, 4, none⟩ (.slice A2 n2 k2)) ⟨p, 5, none⟩ (.string t)) = wE at hE hbe hw1 hw2 ⊢
       clear y0 y1 y2 y3 y4 y5 g0 g1 g2 g3 g4 g5 x0' x2' hE' hle hap hpa HSP HPW HLA HEA HPP HLB HEB HST6 HBW HST7 HBW7 HOW1 HOW2)
    | (have hE : NSp w a (gfc s limit mode .nilIface) 57 w7.heap.size [.int .i64 O1, .bool O2, .int .i64 O3, .slice A1 n1 k1, .slice A2 n2 k2, .string t] (w7.alloc (.cells #[.int .i64 O1, .bool O2, .int .i64 O3, .slice A1 n1 k1, .slice A2 n2 k2, .string t] 40)) := ⟨HST7B.out.later ((Below.refl _ w7).alloc (Nat.le_refl _) _), alloc_heap_new w7 _, heap_lt HST7B.out.res⟩
       have hbe := HBW7.out.alloc HBW7.out.size (.cells #[.int .i64 O1, .bool O2, .int .i64 O3, .slice A1 n1 k1, .slice A2 n2 k2, .string t] 40)
       have hw1 := own_later HOW1.out ((Below.refl _ w7).alloc (Nat.le_refl _) (.cells #[.int .i64 O1, .bool O2, .int .i64 O3, .slice A1 n1 k1, .slice A2 n2 k2, .string t] 40))
       have hw2 := own_later HOW2.out ((Below.refl _ w7).alloc (Nat.le_refl _) (.cells #[.int .i64 O1, .bool O2, .int .i64 O3, .slice A1 n1 k1, .slice A2 n2 k2, .string t] 40))
       clear x0' x2' hap hpa HSP HPW HLA HEA HPP HLB HEB HST6 HBW HST7B HBW7 HOW1 HOW2 p
       generalize World.alloc w7 _ = wE at hE hbe hw1 hw2 ⊢
       obtain ⟨p, hp⟩ : ∃ p, p = w7.heap.size := ⟨_, rfl⟩
       rw [← hp] at hE ⊢
       clear hp)
  all_goals
    obtain ⟨c0, c1, c2, c3⟩ := hE.st.cells4
    clear c1 c2 c3
    have HE1 := Lib.hid hE
    have HW1 := Lib.hid hw1
    have HW2 := Lib.hid hw2
    have HBE := Lib.hid (HE.out.below hbe)
    clear hE hw1 hw2 hbe
    go_wp2_with fail
    refine (tell_any .nilIface 0 (-1) _ HBE.out (.inl ⟨rfl, rfl⟩)).mono ?_
    rintro e w8 ⟨rfl, hb8⟩
    have hE' := HE1.out.later hb8
    have hw1 := own_later HW1.out hb8
    have hw2 := own_later HW2.out hb8
    clear c0 hb8
    obtain ⟨c0, c1, c2, c3⟩ := hE'.st.cells4
    obtain ⟨f0, -, -, -⟩ := hE'.st.frz4
    obtain ⟨⟨y0, y1, y2, y3, y4, y5⟩, -⟩ := pcells hE'.pb
    have hF := hE'.set 0 (.string (s.extract z s.size))
    have HF := Lib.hid hF
    have hV1 := own_set hw1 a 0 (by have := hE'.st.lt; omega) (.string (s.extract z s.size))
    have hV2 := own_set hw2 a 0 (by have := hE'.st.lt; omega) (.string (s.extract z s.size))
    have HV1 := Lib.hid hV1
    have HV2 := Lib.hid hV2
    have hap : a ≠ p := by have := hE'.lt; have := hE'.st.lt; omega
    have hpa : ¬ p = a := fun h => hap h.symm
    clear hE' hF hV1 hV2 hw1 hw2
    go_wp2_with (refine wpList_store_row rfl 42 _ _ rfl w.heap.size #[.int .i64 O1, .bool O2, .int .i64 O3, .slice A1 n1 k1, .slice A2 n2 k2, .string t, .string ⟨#[]⟩] rfl rfl 42 _ HF.out.st.res pieceinfo rfl (by simp [Value.oneCell']) ?_)
    refine bodyPost_ret (results_cell2 Tryz.results11 _ _ w.heap.size [.int .i64 O1, .bool O2, .int .i64 O3, .slice A1 n1 k1, .slice A2 n2 k2, .string t, .string ⟨#[]⟩] _ rfl (range_of_heap (setRow_heap _ _ _ _ _ _ HF.out.st.res)) Tryz.underlying42 rfl pieceinfo) rfl ?_
    have hxx : bs (s.data.toList.drop z) = s.extract z s.size := (bs_eq (by rw [Lib.extract_data]; exact List.take_of_length_le (by rw [List.length_drop, ← Lib.size_eq]; exact Nat.le_refl _))).symm
    rw [hxx]
    refine next_done HF.out.st rfl rfl ⟨.slice A1 n1 k1, .slice A2 n2 k2, ?_, ?_, ?_⟩
    · rw [HO1.out, HO2.out, HO3.out, HT.out, HL.out]
    · rw [← HL.out]; exact own_mono (own_setRow HV1.out w.heap.size (by omega) _) (by omega)
    · rw [← HL.out]; exact own_mono (own_setRow HV2.out w.heap.size (by omega) _) (by omega)
end Go.Proofs.YtincgdbfmnnpaaaGreatDoor

/- feed.Feed.Next: a PDU that is spoilt or wrong. -/
namespace Go.Proofs.YtincgdbfmnnpaaaGreatDoor
open Go.RowKit
set_option maxRecDepth 100000 in
set_option maxHeartbeats 4000000 in
theorem gn_spoilt (a : Nat) (s : ByteArray) (limit mode : Int) (z : Nat) (w : World) (hf : FeedAt w a s limit mode .nilIface) (hw : Laid w) (he : ErrTy w) (hs : s.size ≤ 140737488355328) (h48 : 48 ≤ s.size) (hl : ¬ limit < dlen s.data.toList) (hzz : (z : Int) = (pduSize s.data.toList mode).1) (hz : z ≤ s.size) (h0 : pduErr (s.data.toList.take z) mode = 13) :
    Calls Tryz.prog 11 #[.pointer (some ⟨a, 0, none⟩)] w fun e w' => NextPost w a s.data.toList mode (.spoilt z) errV (gfc (bs (s.data.toList.drop z)) limit mode .nilIface) 57 e w' := by
  have hst : NSt w a _ 57 (w.alloc (.cells #[.int .i64 0, .bool false, .int .i64 0, .slice none 0 0, .slice none 0 0, .string ⟨#[]⟩, .string ⟨#[]⟩] 42)) := ns_start hf
  obtain ⟨c0, c1, c2, c3⟩ := hst.cells4
  have HST := Lib.hid hst
  have hd : decide (s.size < 48) = false := decide_eq_false (by omega)
  have hi5 : (5 : Int) < (s.size : Int) := by omega
  have hi6 : (6 : Int) < (s.size : Int) := by omega
  have hi7 : (7 : Int) < (s.size : Int) := by omega
  have h5 := byte_lt (s[5]'(by omega))
  have h6 := byte_lt (s[6]'(by omega))
  have h7 := byte_lt (s[7]'(by omega))
  obtain ⟨D, hD⟩ : ∃ D, D = dlen s.data.toList := ⟨_, rfl⟩
  have e3 : bits .or .i64 (bits .or .i64 (((s[5]'(by omega)).toNat : Int) * 65536) (((s[6]'(by omega)).toNat : Int) * 256)) ((s[7]'(by omega)).toNat : Int) = (D : Int) := by
    rw [or3, hD, dlen_eq s h48]
  rw [← hD] at hl
  have q1 : IntKind.i64.wrap ((s[5]'(by omega)).toNat : Int) = (s[5]'(by omega)).toNat := IntWalk.i64_in _ (by omega)
  have q2 : IntKind.i64.wrap ((s[6]'(by omega)).toNat : Int) = (s[6]'(by omega)).toNat := IntWalk.i64_in _ (by omega)
  have q3 : IntKind.i64.wrap ((s[7]'(by omega)).toNat : Int) = (s[7]'(by omega)).toNat := IntWalk.i64_in _ (by omega)
  have q5 : IntKind.i64.wrap (((s[5]'(by omega)).toNat : Int) * 65536) = (s[5]'(by omega)).toNat * 65536 := IntWalk.i64_in _ (by omega)
  have q6 : IntKind.i64.wrap (((s[6]'(by omega)).toNat : Int) * 256) = (s[6]'(by omega)).toNat * 256 := IntWalk.i64_in _ (by omega)
  have hZ := fun w => (size_any s mode w hs).mono (fun e w' hh => (⟨hh.1, by obtain ⟨k, h2⟩ := hh.2; rw [h2]; exact below_drewN (Below.refl _ _) k⟩ : e = .returned (.tuple #[.int .i64 (pduSize s.data.toList mode).1, errV (pduSize s.data.toList mode).2]) ∧ Below w.heap.size w w'))
  obtain ⟨ze, hze⟩ : ∃ ze, ze = errV (pduSize s.data.toList mode).2 := ⟨_, rfl⟩
  rw [← hzz, ← hze] at hZ
  have hzi : (z : Int) ≤ (s.size : Int) := by omega
  have hnz : ¬ s.size < z := by omega
  have hpl : (s.extract 0 z).data.toList = s.data.toList.take z := by rw [Lib.extract_data]; simp
  have hR := pr_bad (s.extract 0 z) mode 13 (by rw [Lib.size_eq, hpl, List.length_take]; omega) (by rw [hpl]; exact h0) (by decide)
  have HR := Lib.hid hR
  clear hR
  have HZ := Lib.hid hZ
  have HW := Lib.hid hw
  have HE := Lib.hid he
  clear hst hf hD hZ hzz hze hpl h0 hw he
  go_enter Tryz.func11, Tryz.ntmps11
  go_wp2_with fail
  go_quiet (fail)
  have hst := HST.out.later (below_drewN (Below.refl _ _) nq)
  have hbz := below_drewN ((Below.refl w.heap.size w).alloc (Nat.le_refl _) (.cells #[.int .i64 0, .bool false, .int .i64 0, .slice none 0 0, .slice none 0 0, .string ⟨#[]⟩, .string ⟨#[]⟩] 42)) nq
  clear c0 c1 c2 c3 HST q1 q2 q3 q5 q6 e3
  generalize World.drewN _ nq = wz at hst hbz ⊢
  obtain ⟨c0, c1, c2, c3⟩ := hst.cells4
  have HST := Lib.hid hst
  have HBZ := Lib.hid hbz
  clear hst hbz
  go_wp2_with fail
  go_region_held3 (fun w' => w'.cell? ⟨a, 0, none⟩ = some (.string s) ∧ w'.cell? ⟨a, 2, none⟩ = some (.int .i64 mode)) (go_keep) ((go_at_call 20; refine (HZ.out _).mono ?_; rintro e w6 ⟨rfl, hb6⟩; have hbb := below_undrew hb6; have hst6 := HST.out.later hbb; have hbw := HBZ.out.trans (hbb.mono HBZ.out.size); have x0 := hst6.cells4.1; have x2 := hst6.cells4.2.2.1; have HST6 := Lib.hid hst6; have HBW := Lib.hid hbw; clear hst6 hb6 hbb hbw))
  clear c0 c1 c2 c3
  obtain ⟨p, hp⟩ : ∃ p, p = w6.heap.size := ⟨_, rfl⟩
  have hsp : NSp w a (gfc s limit mode .nilIface) 57 p [.int .i64 0, .bool false, .int .i64 0, .slice none 0 0, .slice none 0 0, .string ⟨#[]⟩] (w6.alloc (.cells #[.int .i64 0, .bool false, .int .i64 0, .slice none 0 0, .slice none 0 0, .string ⟨#[]⟩] 40)) :=
    ⟨HST6.out.later ((Below.refl _ w6).alloc (Nat.le_refl _) _), by rw [hp]; exact alloc_heap_new w6 _, by rw [hp]; exact heap_lt HST6.out.res⟩
  have hpw : Below w.heap.size w (w6.alloc (.cells #[.int .i64 0, .bool false, .int .i64 0, .slice none 0 0, .slice none 0 0, .string ⟨#[]⟩] 40)) := HBW.out.alloc HBW.out.size _
  have hLA := HW.out.below hpw.drew
  have hEA := HE.out.below hpw.drew
  have hap : a ≠ p := by have := hsp.lt; have := hsp.st.lt; omega
  have hpa : ¬ p = a := fun h => hap h.symm
  have HSP := Lib.hid hsp
  have HPW := Lib.hid hpw
  have HLA := Lib.hid hLA
  have HEA := Lib.hid hEA
  have HPP := Lib.hid hp
  have HLB := Lib.hid (HW.out.below HBW.out.drew)
  have HEB := Lib.hid (HE.out.below HBW.out.drew)
  clear hsp hpw hLA hEA hp
  go_wp2_with fail
  go_region_held3 (fun w' => w'.cell? ⟨a, 0, none⟩ = some (.string s) ∧ w'.cell? ⟨a, 2, none⟩ = some (.int .i64 mode)) (go_keep) (first | (go_at_call 21; refine (HR.out _ HLA.out HEA.out).mono ?_; rintro e w7 ⟨rfl, hb7⟩; have hst7 := HSP.out.later (below_undrew hb7); have hbw7 := HPW.out.trans ((below_undrew hb7).mono HPW.out.size); rw [← HPP.out]; obtain ⟨⟨y0, y1, y2, y3, y4, y5⟩, ⟨g0, g1, g2, g3, g4, g5⟩⟩ := pcells hst7.pb; have x0' := hst7.st.cells4.1; have x2' := hst7.st.cells4.2.2.1; have HST7 := Lib.hid hst7; have HBW7 := Lib.hid hbw7; clear hst7 hb7 hbw7) | (go_at_call 21; refine (HR.out _ HLB.out HEB.out).mono ?_; rintro e w7 ⟨rfl, hb7⟩; have hst7 := HST6.out.later (below_undrew hb7); have hbw7 := HBW.out.trans ((below_undrew hb7).mono HBW.out.size); have x0' := hst7.cells4.1; have x2' := hst7.cells4.2.2.1; have HST7B := Lib.hid hst7; have HBW7 := Lib.hid hbw7; clear hst7 hb7 hbw7))
  all_goals
    first
    | (have hle : w.heap.size ≤ p := Nat.le_of_lt HSP.out.lt
       have hE' := ((((((HST7.out.setp 0 (.int .i64 0)).setp 1 (.bool false)).setp 2 (.int .i64 0)).setp 3 (.slice none 0 0)).setp 4 (.slice none 0 0)).setp 5 (.string ⟨#[]⟩))
       have hE : NSp w a (gfc s limit mode .nilIface) 57 p [.int .i64 0, .bool false, .int .i64 0, .slice none 0 0, .slice none 0 0, .string ⟨#[]⟩] _ := hE'
       have hbe := ((((((HBW7.out.setCell (p := ⟨p, 0, none⟩) hle (.int .i64 0)).setCell (p := ⟨p, 1, none⟩) hle (.bool false)).setCell (p := ⟨p, 2, none⟩) hle (.int .i64 0)).setCell (p := ⟨p, 3, none⟩) hle (.slice none 0 0)).setCell (p := ⟨p, 4, none⟩) hle (.slice none 0 0)).setCell (p := ⟨p, 5, none⟩) hle (.string ⟨#[]⟩))
       generalize (World.setCell (World.setCell (World.setCell (World.setCell (World.setCell (World.setCell w7 ⟨p, 0, none⟩ (.int .i64 0)) ⟨p, 1, none⟩ (.bool false)) ⟨p, 2, none⟩ (.int .i64 0)) ⟨p, 3, none⟩ (.slice none 0 0)) ⟨p, 4, none⟩ (.slice none 0 0)) ⟨p, 5, none⟩ (.string ⟨#[]⟩)) = wE at hE hbe ⊢
       clear y0 y1 y2 y3 y4 y5 g0 g1 g2 g3 g4 g5 x0' x2' hE' hle hap hpa HSP HPW HLA HEA HPP HLB HEB HST6 HBW HST7 HBW7)
    | (have hE : NSp w a (gfc s limit mode .nilIface) 57 w7.heap.size [.int .i64 0, .bool false, .int .i64 0, .slice none 0 0, .slice none 0 0, .string ⟨#[]⟩] (w7.alloc (.cells #[.int .i64 0, .bool false, .int .i64 0, .slice none 0 0, .slice none 0 0, .string ⟨#[]⟩] 40)) := ⟨HST7B.out.later ((Below.refl _ w7).alloc (Nat.le_refl _) _), alloc_heap_new w7 _, heap_lt HST7B.out.res⟩
       have hbe := HBW7.out.alloc HBW7.out.size (.cells #[.int .i64 0, .bool false, .int .i64 0, .slice none 0 0, .slice none 0 0, .string ⟨#[]⟩] 40)
       clear x0' x2' hap hpa HSP HPW HLA HEA HPP HLB HEB HST6 HBW HST7B HBW7 p
       generalize World.alloc w7 _ = wE at hE hbe ⊢
       obtain ⟨p, hp⟩ : ∃ p, p = w7.heap.size := ⟨_, rfl⟩
       rw [← hp] at hE ⊢
       clear hp)
  all_goals
    obtain ⟨c0, c1, c2, c3⟩ := hE.st.cells4
    clear c1 c2 c3
    have HE1 := Lib.hid hE
    have HBE := Lib.hid (HE.out.below hbe)
    clear hE hbe
    go_wp2_with fail
    refine (tell_any (.iface 31 (.int .i64 13)) 13 (-1) _ HBE.out (.inl ⟨(errV_ne (by decide)).symm, rfl⟩)).mono ?_
    rintro e w8 ⟨rfl, hb8⟩
    have hE' := HE1.out.later hb8
    clear c0 hb8
    obtain ⟨c0, c1, c2, c3⟩ := hE'.st.cells4
    obtain ⟨f0, -, -, -⟩ := hE'.st.frz4
    have hi48 : (48 : Int) ≤ (s.size : Int) := by omega
    have hF := hE'.set 0 (.string (s.extract z s.size))
    have HF := Lib.hid hF
    clear hE' hF
    go_wp2_with (refine wpList_store_row rfl 42 _ _ rfl w.heap.size #[.int .i64 0, .bool false, .int .i64 0, .slice none 0 0, .slice none 0 0, .string ⟨#[]⟩, .string (s.extract 0 48)] rfl rfl 42 _ HF.out.st.res pieceinfo rfl (by simp [Value.oneCell']) ?_)
    refine bodyPost_ret (results_cell2 Tryz.results11 _ _ w.heap.size [.int .i64 0, .bool false, .int .i64 0, .slice none 0 0, .slice none 0 0, .string ⟨#[]⟩, .string (s.extract 0 48)] _ rfl (range_of_heap (setRow_heap _ _ _ _ _ _ HF.out.st.res)) Tryz.underlying42 rfl pieceinfo) rfl ?_
    have hxx : bs (s.data.toList.drop z) = s.extract z s.size := (bs_eq (by rw [Lib.extract_data]; exact List.take_of_length_le (by rw [List.length_drop, ← Lib.size_eq]; exact Nat.le_refl _))).symm
    have hyy : bs (s.data.toList.take 48) = s.extract 0 48 := (bs_eq (by rw [Lib.extract_data]; rfl)).symm
    rw [hxx]
    refine next_done HF.out.st rfl rfl ?_
    show Value.agg _ = Value.agg (pz7 (bs (s.data.toList.take 48))).toArray
    rw [hyy]; rfl
set_option maxRecDepth 100000 in
set_option maxHeartbeats 4000000 in
theorem gn_fail (a : Nat) (s : ByteArray) (limit mode : Int) (c : Int) (z : Nat) (w : World) (hf : FeedAt w a s limit mode .nilIface) (hw : Laid w) (he : ErrTy w) (hs : s.size ≤ 140737488355328) (h48 : 48 ≤ s.size) (hl : ¬ limit < dlen s.data.toList) (hzz : (z : Int) = (pduSize s.data.toList mode).1) (hz : z ≤ s.size) (h0 : pduErr (s.data.toList.take z) mode = c) (hc0 : c ≠ 0) (hc13 : c ≠ 13) :
    Calls Tryz.prog 11 #[.pointer (some ⟨a, 0, none⟩)] w fun e w' => NextPost w a s.data.toList mode (.fail c) errV (gfc ⟨#[]⟩ limit mode (.iface 31 (.int .i64 c))) 57 e w' := by
  have hst : NSt w a _ 57 (w.alloc (.cells #[.int .i64 0, .bool false, .int .i64 0, .slice none 0 0, .slice none 0 0, .string ⟨#[]⟩, .string ⟨#[]⟩] 42)) := ns_start hf
  obtain ⟨c0, c1, c2, c3⟩ := hst.cells4
  have HST := Lib.hid hst
  have hd : decide (s.size < 48) = false := decide_eq_false (by omega)
  have hi5 : (5 : Int) < (s.size : Int) := by omega
  have hi6 : (6 : Int) < (s.size : Int) := by omega
  have hi7 : (7 : Int) < (s.size : Int) := by omega
  have h5 := byte_lt (s[5]'(by omega))
  have h6 := byte_lt (s[6]'(by omega))
  have h7 := byte_lt (s[7]'(by omega))
  obtain ⟨D, hD⟩ : ∃ D, D = dlen s.data.toList := ⟨_, rfl⟩
  have e3 : bits .or .i64 (bits .or .i64 (((s[5]'(by omega)).toNat : Int) * 65536) (((s[6]'(by omega)).toNat : Int) * 256)) ((s[7]'(by omega)).toNat : Int) = (D : Int) := by
    rw [or3, hD, dlen_eq s h48]
  rw [← hD] at hl
  have q1 : IntKind.i64.wrap ((s[5]'(by omega)).toNat : Int) = (s[5]'(by omega)).toNat := IntWalk.i64_in _ (by omega)
  have q2 : IntKind.i64.wrap ((s[6]'(by omega)).toNat : Int) = (s[6]'(by omega)).toNat := IntWalk.i64_in _ (by omega)
  have q3 : IntKind.i64.wrap ((s[7]'(by omega)).toNat : Int) = (s[7]'(by omega)).toNat := IntWalk.i64_in _ (by omega)
  have q5 : IntKind.i64.wrap (((s[5]'(by omega)).toNat : Int) * 65536) = (s[5]'(by omega)).toNat * 65536 := IntWalk.i64_in _ (by omega)
  have q6 : IntKind.i64.wrap (((s[6]'(by omega)).toNat : Int) * 256) = (s[6]'(by omega)).toNat * 256 := IntWalk.i64_in _ (by omega)
  have hZ := fun w => (size_any s mode w hs).mono (fun e w' hh => (⟨hh.1, by obtain ⟨k, h2⟩ := hh.2; rw [h2]; exact below_drewN (Below.refl _ _) k⟩ : e = .returned (.tuple #[.int .i64 (pduSize s.data.toList mode).1, errV (pduSize s.data.toList mode).2]) ∧ Below w.heap.size w w'))
  obtain ⟨ze, hze⟩ : ∃ ze, ze = errV (pduSize s.data.toList mode).2 := ⟨_, rfl⟩
  rw [← hzz, ← hze] at hZ
  have hzi : (z : Int) ≤ (s.size : Int) := by omega
  have hnz : ¬ s.size < z := by omega
  have hpl : (s.extract 0 z).data.toList = s.data.toList.take z := by rw [Lib.extract_data]; simp
  have hR := pr_bad (s.extract 0 z) mode c (by rw [Lib.size_eq, hpl, List.length_take]; omega) (by rw [hpl]; exact h0) hc0
  have HR := Lib.hid hR
  clear hR
  have HZ := Lib.hid hZ
  have HW := Lib.hid hw
  have HE := Lib.hid he
  clear hst hf hD hZ hzz hze hpl h0 hw he
  go_enter Tryz.func11, Tryz.ntmps11
  go_wp2_with fail
  go_quiet (fail)
  have hst := HST.out.later (below_drewN (Below.refl _ _) nq)
  have hbz := below_drewN ((Below.refl w.heap.size w).alloc (Nat.le_refl _) (.cells #[.int .i64 0, .bool false, .int .i64 0, .slice none 0 0, .slice none 0 0, .string ⟨#[]⟩, .string ⟨#[]⟩] 42)) nq
  clear c0 c1 c2 c3 HST q1 q2 q3 q5 q6 e3
  generalize World.drewN _ nq = wz at hst hbz ⊢
  obtain ⟨c0, c1, c2, c3⟩ := hst.cells4
  have HST := Lib.hid hst
  have HBZ := Lib.hid hbz
  clear hst hbz
  go_wp2_with fail
  go_region_held3 (fun w' => w'.cell? ⟨a, 0, none⟩ = some (.string s) ∧ w'.cell? ⟨a, 2, none⟩ = some (.int .i64 mode)) (go_keep) ((go_at_call 20; refine (HZ.out _).mono ?_; rintro e w6 ⟨rfl, hb6⟩; have hbb := below_undrew hb6; have hst6 := HST.out.later hbb; have hbw := HBZ.out.trans (hbb.mono HBZ.out.size); have x0 := hst6.cells4.1; have x2 := hst6.cells4.2.2.1; have HST6 := Lib.hid hst6; have HBW := Lib.hid hbw; clear hst6 hb6 hbb hbw))
  clear c0 c1 c2 c3
  obtain ⟨p, hp⟩ : ∃ p, p = w6.heap.size := ⟨_, rfl⟩
  have hsp : NSp w a (gfc s limit mode .nilIface) 57 p [.int .i64 0, .bool false, .int .i64 0, .slice none 0 0, .slice none 0 0, .string ⟨#[]⟩] (w6.alloc (.cells #[.int .i64 0, .bool false, .int .i64 0, .slice none 0 0, .slice none 0 0, .string ⟨#[]⟩] 40)) :=
    ⟨HST6.out.later ((Below.refl _ w6).alloc (Nat.le_refl _) _), by rw [hp]; exact alloc_heap_new w6 _, by rw [hp]; exact heap_lt HST6.out.res⟩
  have hpw : Below w.heap.size w (w6.alloc (.cells #[.int .i64 0, .bool false, .int .i64 0, .slice none 0 0, .slice none 0 0, .string ⟨#[]⟩] 40)) := HBW.out.alloc HBW.out.size _
  have hLA := HW.out.below hpw.drew
  have hEA := HE.out.below hpw.drew
  have hap : a ≠ p := by have := hsp.lt; have := hsp.st.lt; omega
  have hpa : ¬ p = a := fun h => hap h.symm
  have HSP := Lib.hid hsp
  have HPW := Lib.hid hpw
  have HLA := Lib.hid hLA
  have HEA := Lib.hid hEA
  have HPP := Lib.hid hp
  have HLB := Lib.hid (HW.out.below HBW.out.drew)
  have HEB := Lib.hid (HE.out.below HBW.out.drew)
  clear hsp hpw hLA hEA hp
  go_wp2_with fail
  go_region_held3 (fun w' => w'.cell? ⟨a, 0, none⟩ = some (.string s) ∧ w'.cell? ⟨a, 2, none⟩ = some (.int .i64 mode)) (go_keep) (first | (go_at_call 21; refine (HR.out _ HLA.out HEA.out).mono ?_; rintro e w7 ⟨rfl, hb7⟩; have hst7 := HSP.out.later (below_undrew hb7); have hbw7 := HPW.out.trans ((below_undrew hb7).mono HPW.out.size); rw [← HPP.out]; obtain ⟨⟨y0, y1, y2, y3, y4, y5⟩, ⟨g0, g1, g2, g3, g4, g5⟩⟩ := pcells hst7.pb; have x0' := hst7.st.cells4.1; have x2' := hst7.st.cells4.2.2.1; have HST7 := Lib.hid hst7; have HBW7 := Lib.hid hbw7; clear hst7 hb7 hbw7) | (go_at_call 21; refine (HR.out _ HLB.out HEB.out).mono ?_; rintro e w7 ⟨rfl, hb7⟩; have hst7 := HST6.out.later (below_undrew hb7); have hbw7 := HBW.out.trans ((below_undrew hb7).mono HBW.out.size); have x0' := hst7.cells4.1; have x2' := hst7.cells4.2.2.1; have HST7B := Lib.hid hst7; have HBW7 := Lib.hid hbw7; clear hst7 hb7 hbw7))
  all_goals
    first
    | (have hle : w.heap.size ≤ p := Nat.le_of_lt HSP.out.lt
       have hE' := ((((((HST7.out.setp 0 (.int .i64 0)).setp 1 (.bool false)).setp 2 (.int .i64 0)).setp 3 (.slice none 0 0)).setp 4 (.slice none 0 0)).setp 5 (.string ⟨#[]⟩))
       have hE : NSp w a (gfc s limit mode .nilIface) 57 p [.int .i64 0, .bool false, .int .i64 0, .slice none 0 0, .slice none 0 0, .string ⟨#[]⟩] _ := hE'
       have hbe := ((((((HBW7.out.setCell (p := ⟨p, 0, none⟩) hle (.int .i64 0)).setCell (p := ⟨p, 1, none⟩) hle (.bool false)).setCell (p := ⟨p, 2, none⟩) hle (.int .i64 0)).setCell (p := ⟨p, 3, none⟩) hle (.slice none 0 0)).setCell (p := ⟨p, 4, none⟩) hle (.slice none 0 0)).setCell (p := ⟨p, 5, none⟩) hle (.string ⟨#[]⟩))
       generalize (World.setCell (World.setCell (World.setCell (World.setCell (World.setCell (World.setCell w7 ⟨p, 0, none⟩ (.int .i64 0)) ⟨p, 1, none⟩ (.bool false)) ⟨p, 2, none⟩ (.int .i64 0)) ⟨p, 3, none⟩ (.slice none 0 0)) ⟨p, 4, none⟩ (.slice none 0 0)) ⟨p, 5, none⟩ (.string ⟨#[]⟩)) = wE at hE hbe ⊢
       clear y0 y1 y2 y3 y4 y5 g0 g1 g2 g3 g4 g5 x0' x2' hE' hle hap hpa HSP HPW HLA HEA HPP HLB HEB HST6 HBW HST7 HBW7)
    | (have hE : NSp w a (gfc s limit mode .nilIface) 57 w7.heap.size [.int .i64 0, .bool false, .int .i64 0, .slice none 0 0, .slice none 0 0, .string ⟨#[]⟩] (w7.alloc (.cells #[.int .i64 0, .bool false, .int .i64 0, .slice none 0 0, .slice none 0 0, .string ⟨#[]⟩] 40)) := ⟨HST7B.out.later ((Below.refl _ w7).alloc (Nat.le_refl _) _), alloc_heap_new w7 _, heap_lt HST7B.out.res⟩
       have hbe := HBW7.out.alloc HBW7.out.size (.cells #[.int .i64 0, .bool false, .int .i64 0, .slice none 0 0, .slice none 0 0, .string ⟨#[]⟩] 40)
       clear x0' x2' hap hpa HSP HPW HLA HEA HPP HLB HEB HST6 HBW HST7B HBW7 p
       generalize World.alloc w7 _ = wE at hE hbe ⊢
       obtain ⟨p, hp⟩ : ∃ p, p = w7.heap.size := ⟨_, rfl⟩
       rw [← hp] at hE ⊢
       clear hp)
  all_goals
    obtain ⟨c0, c1, c2, c3⟩ := hE.st.cells4
    clear c1 c2 c3
    have HE1 := Lib.hid hE
    have HBE := Lib.hid (HE.out.below hbe)
    clear hE hbe
    go_wp2_with fail
    refine (tell_any (.iface 31 (.int .i64 c)) c (-1) _ HBE.out (.inl ⟨(errV_ne hc0).symm, rfl⟩)).mono ?_
    rintro e w8 ⟨rfl, hb8⟩
    have hE' := HE1.out.later hb8
    clear c0 hb8
    obtain ⟨c0, c1, c2, c3⟩ := hE'.st.cells4
    have HE9 := Lib.hid hE'
    clear hE'
    go_wp2_with fail
    refine (fail_any a s limit mode c .nilIface s.data.toList _ HE9.out.st.fd hc0).mono ?_
    rintro e w9 hp
    have hst := HE9.out.st.failed hp
    obtain ⟨v, rfl, rfl⟩ := hp.val
    have HF := Lib.hid hst
    clear hst hp c0 c1 c2 c3
    go_wp2_with (refine wpList_store_row rfl 42 _ _ rfl w.heap.size #[.int .i64 0, .bool false, .int .i64 0, .slice none 0 0, .slice none 0 0, .string ⟨#[]⟩, .string ⟨#[]⟩] rfl rfl 42 _ HF.out.res pieceinfo rfl (by simp [Value.oneCell']) ?_)
    refine bodyPost_ret (results_cell2 Tryz.results11 _ _ w.heap.size (pz7 ⟨#[]⟩) _ rfl (range_of_heap (setRow_heap _ _ _ _ _ _ HF.out.res)) Tryz.underlying42 rfl pieceinfo) rfl ?_
    exact next_done HF.out rfl rfl rfl
end Go.Proofs.YtincgdbfmnnpaaaGreatDoor

/- feed.Feed.Next: all of it. -/
namespace Go.Proofs.YtincgdbfmnnpaaaGreatDoor
open Go.RowKit
/-- The feed's error behind Next. -/
def NOut.ev : NOut → Value
  | .fail c => .iface 31 (.int .i64 c)
  | _ => .nilIface
theorem gnext_any (a : Nat) (s : ByteArray) (limit mode : Int) (w : World) (hw : Laid w) (he : ErrTy w) (hf : FeedAt w a s limit mode .nilIface) (hs : s.size ≤ 140737488355328) :
    Calls Tryz.prog 11 #[.pointer (some ⟨a, 0, none⟩)] w fun e w' => NextPost w a s.data.toList mode (nextOut s.data.toList limit mode) errV
      (gfc (bs ((nextOut s.data.toList limit mode).left s.data.toList)) limit mode (nextOut s.data.toList limit mode).ev) 57 e w' := by
  have hlen : s.data.toList.length = s.size := by rw [← Lib.size_eq]
  have hself : bs s.data.toList = s := (bs_eq rfl).symm
  obtain ⟨hz, -⟩ := size_z s.data.toList mode
  by_cases h48 : s.size < 48
  · have ho : nextOut s.data.toList limit mode = .wait := by unfold nextOut; rw [if_pos (by omega)]
    rw [ho]
    show Calls _ _ _ _ fun e w' => NextPost w a s.data.toList mode .wait _ (gfc (bs s.data.toList) limit mode .nilIface) _ e w'
    rw [hself]
    exact gn_short a s limit mode w hf h48
  · by_cases hl : limit < dlen s.data.toList
    · have ho : nextOut s.data.toList limit mode = .fail 4 := by unfold nextOut; rw [if_neg (by omega), if_pos hl]
      rw [ho]
      exact gn_limit a s limit mode w hf (by omega) hl
    · by_cases hw2 : (s.size : Int) < (pduSize s.data.toList mode).1
      · have ho : nextOut s.data.toList limit mode = .wait := by unfold nextOut; rw [if_neg (by omega), if_neg hl, if_pos (by omega)]
        rw [ho]
        show Calls _ _ _ _ fun e w' => NextPost w a s.data.toList mode .wait _ (gfc (bs s.data.toList) limit mode .nilIface) _ e w'
        rw [hself]
        exact gn_wait a s limit mode w hf hs (by omega) hl hw2
      · by_cases h0 : pduErr (s.data.toList.take (nextN s.data.toList mode)) mode = 0
        · have ho : nextOut s.data.toList limit mode = .good (nextN s.data.toList mode) := by unfold nextOut; rw [if_neg (by omega), if_neg hl, if_neg (by omega), if_pos h0]
          rw [ho]
          exact gn_good a s limit mode _ w hf hw he hs (by omega) hl hz (by omega) h0
        · by_cases h13 : pduErr (s.data.toList.take (nextN s.data.toList mode)) mode = 13
          · have ho : nextOut s.data.toList limit mode = .spoilt (nextN s.data.toList mode) := by unfold nextOut; rw [if_neg (by omega), if_neg hl, if_neg (by omega), if_neg h0, if_pos h13]
            rw [ho]
            exact gn_spoilt a s limit mode _ w hf hw he hs (by omega) hl hz (by omega) h13
          · have ho : nextOut s.data.toList limit mode = .fail (pduErr (s.data.toList.take (nextN s.data.toList mode)) mode) := by unfold nextOut; rw [if_neg (by omega), if_neg hl, if_neg (by omega), if_neg h0, if_neg h13]
            rw [ho]
            exact gn_fail a s limit mode _ _ w hf hw he hs (by omega) hl hz (by omega) rfl h0 h13
end Go.Proofs.YtincgdbfmnnpaaaGreatDoor

/- Two pieces with equal content are one: FeedPlays' own function. -/
namespace Go.Proofs.YtincgdbfmnnpaaaGreatDoor
open Go.RowKit
/-- What a piece tells. -/
structure PcD where
  o1 : Int
  o2 : Bool
  o3 : Int
  xs : List Value
  ys : List (Int × List UInt8)
  t : ByteArray
  u : ByteArray
/-- A value is that piece. -/
def PieceV (w : World) (d : PcD) (v : Value) : Prop := ∃ A1 a1 A2 a2, v = .agg #[.int .i64 d.o1, .bool d.o2, .int .i64 d.o3, .slice A1 d.xs.length a1, .slice A2 d.ys.length a2, .string d.t, .string d.u] ∧ RowV w A1 d.xs ∧ RowV w A2 (ahsV d.ys)
theorem PieceV.below {w w' : World} {d : PcD} {v : Value} (h : PieceV w d v) (hb : Below w.heap.size w w') : PieceV w' d v := by
  obtain ⟨A1, a1, A2, a2, h1, h2, h3⟩ := h
  exact ⟨A1, a1, A2, a2, h1, h2.below hb, h3.below hb⟩
/-- The piece of a Next. -/
def NOut.piece (l : List UInt8) (mode : Int) : NOut → PcD
  | .good n => ⟨headOp ((l.take n).take 48), headNow ((l.take n).take 48), (((l.take n).take 48).getD 1 0).toNat, headVals ((l.take n).take 48), (ahsAll (((pduAll (l.take n) mode).take (pduEnd (l.take n))).drop 48)).1,
      bs (unpad (pduRest (l.take n) mode) (dlen (l.take n))).1, ⟨#[]⟩⟩
  | .spoilt _ => ⟨0, false, 0, [], [], ⟨#[]⟩, bs (l.take 48)⟩
  | _ => ⟨0, false, 0, [], [], ⟨#[]⟩, ⟨#[]⟩⟩
theorem rowV_nil (w : World) (A : Option Addr) : RowV w A [] := ⟨fun j u h => by simp at h⟩
theorem ahsV_len (ys : List (Int × List UInt8)) : (ahsV ys).length = ys.length * 2 := by
  unfold ahsV
  induction ys with
  | nil => rfl
  | cons y ys ih => simp [ih]; omega
theorem piece_v {w : World} {B : Nat} {l : List UInt8} {mode : Int} {v : Value} {out : NOut} (h : PieceIs w B l mode v out) : PieceV w (out.piece l mode) v := by
  cases out with
  | good n =>
    obtain ⟨v1, v2, rfl, h1, h2⟩ := h
    obtain ⟨A1, a1, rfl, r1⟩ := own_rowV h1
    obtain ⟨A2, a2, rfl, r2⟩ := own_rowV h2
    exact ⟨A1, a1, A2, a2, rfl, r1, r2⟩
  | spoilt n => exact ⟨none, 0, none, 0, h, rowV_nil _ _, rowV_nil _ _⟩
  | wait => exact ⟨none, 0, none, 0, h, rowV_nil _ _, rowV_nil _ _⟩
  | fail c => exact ⟨none, 0, none, 0, h, rowV_nil _ _, rowV_nil _ _⟩
theorem headVals_u64 (l : List UInt8) : ∀ u ∈ headVals l, ∃ v : Int, u = .int .u64 v := by
  unfold headVals numsV
  intro u hu
  split at hu
  · simp at hu
  · obtain ⟨f, -, rfl⟩ := List.mem_map.1 hu
    exact ⟨_, rfl⟩
/-- A piece that the walk can compare. -/
def PcD.fit (d : PcD) : Prop := (∀ u ∈ d.xs, ∃ v : Int, u = .int .u64 v) ∧ d.xs.length ≤ 9223372036854775807 ∧ d.ys.length ≤ 9223372036854775807
set_option maxRecDepth 100000 in
theorem one_any (d : PcD) (hd : d.fit) (p q : Value) (w : World) (hp : PieceV w d p) (hq : PieceV w d q) :
    Calls Tryz.prog 6 #[p, q] w fun e w' => e = .returned (.bool true) ∧ Below w.heap.size w w' := by
  obtain ⟨A1, a1, A2, a2, rfl, r1, r2⟩ := hp
  obtain ⟨B1, b1, B2, b2, rfl, s1, s2⟩ := hq
  obtain ⟨f1, f2, f3⟩ := hd
  obtain ⟨o1, o2, o3, xs, ys, t, u⟩ := d
  simp only at r1 r2 s1 s2 f1 f2 f3 ⊢
  obtain ⟨n, hn⟩ : ∃ n, n = xs.length := ⟨_, rfl⟩
  obtain ⟨m, hm⟩ : ∃ m, m = ys.length := ⟨_, rfl⟩
  rw [← hn] at f2 ⊢
  rw [← hm] at f3 ⊢
  have hS := fun (w' : World) (hb : Below w.heap.size w w') => same_any o1 o2 o3 t xs ys n m A1 A2 B1 B2 a1 a2 b1 b2 w' (r1.below hb) (s1.below hb) (r2.below hb) (s2.below hb) hn.symm hm.symm f1 f2 f3
  have HS := Lib.hid hS
  clear r1 r2 s1 s2 f1 f2 f3 hn hm hS
  have hbb : ∀ o1 o2 : Obj, Below w.heap.size w ((w.alloc o1).alloc o2) := fun o1 o2 => ((Below.refl _ w).alloc (Nat.le_refl _) o1).alloc (by simp) o2
  have HB := Lib.hid hbb
  clear hbb
  go_enter Tryz.func6, Tryz.ntmps6
  go_wp2_with fail
  refine (HS.out _ (HB.out _ _)).mono ?_
  rintro e w1 ⟨rfl, hb1⟩
  go_wp2_with fail
  go_ret
  exact ⟨rfl, (HB.out _ _).trans (hb1.mono (HB.out _ _).size)⟩
theorem own_len {w : World} {base : Nat} {e : TypeId} {size n : Nat} {v : Value} {xs : List Value} (h : w.ownsRow base e size v n xs) : n ≤ 9223372036854775807 := by
  rcases h.2 with ⟨-, h0⟩ | ⟨g, cap, cur, -, -, -, h3, h4, -⟩
  · omega
  · have : maxLen ≤ 9223372036854775807 := by decide
    omega
theorem piece_fit {w : World} {B : Nat} {l : List UInt8} {mode : Int} {v : Value} {out : NOut} (h : PieceIs w B l mode v out) : (out.piece l mode).fit := by
  cases out with
  | good n =>
    obtain ⟨v1, v2, rfl, h1, h2⟩ := h
    exact ⟨headVals_u64 _, own_len h1, own_len h2⟩
  | spoilt n => exact ⟨fun u hu => by simp [NOut.piece] at hu, by simp [NOut.piece], by simp [NOut.piece]⟩
  | wait => exact ⟨fun u hu => by simp [NOut.piece] at hu, by simp [NOut.piece], by simp [NOut.piece]⟩
  | fail c => exact ⟨fun u hu => by simp [NOut.piece] at hu, by simp [NOut.piece], by simp [NOut.piece]⟩
end Go.Proofs.YtincgdbfmnnpaaaGreatDoor

/- feed.Feed.All: the run of Next, plain; rows with a lower bound. -/
namespace Go.Proofs.YtincgdbfmnnpaaaGreatDoor
open Go.RowKit
def allRun (limit mode : Int) : Nat → List UInt8 → List PcD × NOut × List UInt8
  | 0, l => ([], .wait, l)
  | f + 1, l => if (nextOut l limit mode).ok then
      ((nextOut l limit mode).piece l mode :: (allRun limit mode f ((nextOut l limit mode).left l)).1, (allRun limit mode f ((nextOut l limit mode).left l)).2)
    else ([], nextOut l limit mode, (nextOut l limit mode).left l)
theorem next_short {l : List UInt8} {limit mode : Int} (hm : 0 ≤ mode ∧ mode ≤ 3) (h : (nextOut l limit mode).ok = true) : ((nextOut l limit mode).left l).length + 1 ≤ l.length := by
  unfold nextOut at h ⊢
  by_cases h1 : l.length < 48
  · rw [if_pos h1] at h; cases h
  · rw [if_neg h1] at h ⊢
    by_cases h2 : limit < dlen l
    · rw [if_pos h2] at h; cases h
    · rw [if_neg h2] at h ⊢
      by_cases h3 : (l.length : Int) < (pduSize l mode).1
      · rw [if_pos h3] at h; cases h
      · rw [if_neg h3] at h ⊢
        have hz : 48 ≤ nextN l mode := by
          unfold nextN pduSize
          rw [wi_yes hm, if_neg (by decide), if_neg h1]
          have := szN_bd l mode hm.1 hm.2
          show 48 ≤ (szN l mode).toNat
          omega
        by_cases h4 : pduErr (l.take (nextN l mode)) mode = 0
        · rw [if_pos h4]; show (l.drop _).length + 1 ≤ _; rw [List.length_drop]; omega
        · rw [if_neg h4] at h ⊢
          by_cases h5 : pduErr (l.take (nextN l mode)) mode = 13
          · rw [if_pos h5]; show (l.drop _).length + 1 ≤ _; rw [List.length_drop]; omega
          · rw [if_neg h5] at h; cases h
theorem next_fail {l : List UInt8} {limit mode c : Int} (h : nextOut l limit mode = .fail c) : c ≠ 0 := by
  unfold nextOut at h
  by_cases h1 : l.length < 48
  · rw [if_pos h1] at h; cases h
  · rw [if_neg h1] at h
    by_cases h2 : limit < dlen l
    · rw [if_pos h2] at h; cases h; decide
    · rw [if_neg h2] at h
      by_cases h3 : (l.length : Int) < (pduSize l mode).1
      · rw [if_pos h3] at h; cases h
      · rw [if_neg h3] at h
        by_cases h4 : pduErr (l.take (nextN l mode)) mode = 0
        · rw [if_pos h4] at h; cases h
        · rw [if_neg h4] at h
          by_cases h5 : pduErr (l.take (nextN l mode)) mode = 13
          · rw [if_pos h5] at h; cases h
          · rw [if_neg h5] at h; cases h; exact h4
theorem own_grown {w w' : World} {B : Nat} {e : TypeId} {size n : Nat} {v : Value} {xs : List Value} (h : w.ownsRow B e size v n xs) {row : Option Nat} (hg : w.grownBy w' row)
    (hr : ∀ k, row = some k → k < B ∨ ∃ cur t, w.heap[k]? = some (.cells cur t (0, 0)) ∧ t ≠ e) : w'.ownsRow B e size v n xs := by
  refine h.kept hg ?_
  rcases h.2 with ⟨rfl, -⟩ | ⟨g, cap, cur, rfl, h1, h2, -⟩
  · exact .inl rfl
  · refine .inr (fun hk => ?_)
    have hk' : row = some g := hk.symm
    rcases hr g hk' with h3 | ⟨cur', t, h3, h4⟩
    · omega
    · rw [h2] at h3
      injection h3 with h3
      injection h3 with _ h5 _
      exact h4 h5.symm
def pcL (d : PcD) (A1 A2 : Option Addr) (a1 a2 : Nat) : List Value := [.int .i64 d.o1, .bool d.o2, .int .i64 d.o3, .slice A1 d.xs.length a1, .slice A2 d.ys.length a2, .string d.t, .string d.u]
/-- The seven cells of that piece. -/
def PieceB (w : World) (B : Nat) (d : PcD) (cs : List Value) : Prop := ∃ A1 a1 A2 a2, cs = pcL d A1 A2 a1 a2 ∧ w.ownsRow B 60 1 (.slice A1 d.xs.length a1) d.xs.length d.xs ∧ w.ownsRow B 62 2 (.slice A2 d.ys.length a2) d.ys.length (ahsV d.ys) ∧ d.fit
theorem PieceB.grown {w w' : World} {B : Nat} {d : PcD} {cs : List Value} (h : PieceB w B d cs) {row : Option Nat} (hg : w.grownBy w' row)
    (hr : ∀ k, row = some k → k < B ∨ ∃ cur t, w.heap[k]? = some (.cells cur t (0, 0)) ∧ t ≠ 60 ∧ t ≠ 62) : PieceB w' B d cs := by
  obtain ⟨A1, a1, A2, a2, h1, h2, h3, h4⟩ := h
  exact ⟨A1, a1, A2, a2, h1, own_grown h2 hg (fun k hk => (hr k hk).imp id (fun ⟨c, t, x, y, z⟩ => ⟨c, t, x, y⟩)), own_grown h3 hg (fun k hk => (hr k hk).imp id (fun ⟨c, t, x, y, z⟩ => ⟨c, t, x, z⟩)), h4⟩
theorem PieceB.mono {w : World} {B B' : Nat} {d : PcD} {cs : List Value} (h : PieceB w B d cs) (hb : B' ≤ B) : PieceB w B' d cs := by
  obtain ⟨A1, a1, A2, a2, h1, h2, h3, h4⟩ := h
  exact ⟨A1, a1, A2, a2, h1, own_mono h2 hb, own_mono h3 hb, h4⟩
theorem PieceB.v {w : World} {B : Nat} {d : PcD} {cs : List Value} (h : PieceB w B d cs) : PieceV w d (.agg cs.toArray) := by
  obtain ⟨A1, a1, A2, a2, rfl, h2, h3, -⟩ := h
  obtain ⟨C1, c1, e1, r1⟩ := own_rowV h2
  obtain ⟨C2, c2, e2, r2⟩ := own_rowV h3
  injection e1 with x1 x2 x3
  injection e2 with y1 y2 y3
  subst x1 y1
  exact ⟨A1, a1, A2, a2, rfl, r1, r2⟩
theorem piece_b {w : World} {B : Nat} {l : List UInt8} {mode : Int} {v : Value} {out : NOut} (h : PieceIs w B l mode v out) : ∃ cs, v = .agg cs.toArray ∧ PieceB w B (out.piece l mode) cs := by
  have hf := piece_fit h
  cases out with
  | good n =>
    obtain ⟨v1, v2, rfl, h1, h2⟩ := h
    obtain ⟨A1, a1, rfl, r1⟩ := own_rowV h1
    obtain ⟨A2, a2, rfl, r2⟩ := own_rowV h2
    exact ⟨_, rfl, A1, a1, A2, a2, rfl, h1, h2, hf⟩
  | spoilt n => exact ⟨_, h, none, 0, none, 0, rfl, World.ownsRow_nil _ _ _ _, World.ownsRow_nil _ _ _ _, hf⟩
  | wait => exact ⟨_, h, none, 0, none, 0, rfl, World.ownsRow_nil _ _ _ _, World.ownsRow_nil _ _ _ _, hf⟩
  | fail c => exact ⟨_, h, none, 0, none, 0, rfl, World.ownsRow_nil _ _ _ _, World.ownsRow_nil _ _ _ _, hf⟩
end Go.Proofs.YtincgdbfmnnpaaaGreatDoor

/- feed.Feed.All. -/
namespace Go.Proofs.YtincgdbfmnnpaaaGreatDoor
open Go.RowKit
theorem pc_info : (Tryz.prog.info? 42).map (fun i => (i.zero, i.size, i.bytes)) = some (some (.agg (pz7 ⟨#[]⟩).toArray), 7, 104) := by kernel_rfl
/-- In All: the pieces so far. -/
structure AlSt (w : World) (a : Nat) (limit mode : Int) (s : ByteArray) (er : Value) (ds : List PcD) (vs : List (List Value)) (v : Value) (wr : World) : Prop where
  grown : w.grownBy wr (some a)
  fd : FeedAt wr a s limit mode er
  rows : wr.ownsRow w.heap.size 42 7 v vs.length (vs.flatMap id)
  len : ds.length = vs.length
  pcs : ∀ (i : Nat) d cs, ds[i]? = some d → vs[i]? = some cs → PieceB wr w.heap.size d cs
theorem AlSt.next {w : World} {a : Nat} {limit mode : Int} {s s' : ByteArray} {er er' : Value} {ds : List PcD} {vs : List (List Value)} {v : Value} {wr w' : World} (h : AlSt w a limit mode s er ds vs v wr) (ha : a < w.heap.size) (hg : wr.grownBy w' (some a)) (hf : FeedAt w' a s' limit mode er') :
    AlSt w a limit mode s' er' ds vs v w' :=
  ⟨⟨hg.os.trans h.grown.os, hg.tape.trans h.grown.tape, hg.output.trans h.grown.output, Nat.le_trans h.grown.size hg.size, fun k hk hne => (hg.block k (Nat.lt_of_lt_of_le hk h.grown.size) hne).trans (h.grown.block k hk hne)⟩, hf,
    h.rows.kept hg (by
      cases hv : v.ownBlock with
      | none => exact .inl rfl
      | some q => exact .inr (fun e => by injection e with e; have := (h.rows.lt q hv).1; omega)), h.len,
    fun i d cs h1 h2 => (h.pcs i d cs h1 h2).grown hg (fun k e => by injection e with e; exact .inl (by omega))⟩
theorem AlSt.later {w : World} {a : Nat} {limit mode : Int} {s : ByteArray} {er : Value} {ds : List PcD} {vs : List (List Value)} {v : Value} {wr w' : World} (h : AlSt w a limit mode s er ds vs v wr) (ha : a < w.heap.size) (hb : Below wr.heap.size wr w') : AlSt w a limit mode s er ds vs v w' :=
  h.next ha ⟨hb.os, hb.tape, hb.output, hb.size, fun k hk _ => hb.block k hk⟩ ((hb.block _ (heap_lt h.fd)).trans h.fd)
theorem all_round {w : World} {a : Nat} {limit mode : Int} {s : ByteArray} {er : Value} {ds : List PcD} {vs : List (List Value)} {v v' : Value} {wN w6 : World} {d : PcD} {cs : List Value} {o1 o2 : Obj} (h : AlSt w a limit mode s er ds vs v wN) (ha : a < w.heap.size)
    (hown : w6.ownsRow w.heap.size 42 7 v' (vs.length + 1) (vs.flatMap id ++ cs)) (hg : ((wN.alloc o1).alloc o2).grownBy w6 v.ownBlock) (hp : PieceB wN w.heap.size d cs) :
    AlSt w a limit mode s er (ds ++ [d]) (vs ++ [cs]) v' w6 := by
  have hb : Below wN.heap.size wN ((wN.alloc o1).alloc o2) := ((Below.refl _ wN).alloc (Nat.le_refl _) o1).alloc (by simp) o2
  have hW := h.later ha hb
  have hpW : PieceB ((wN.alloc o1).alloc o2) w.heap.size d cs := hp.grown (row := none) ⟨hb.os, hb.tape, hb.output, hb.size, fun k hk _ => hb.block k hk⟩ (fun k e => by cases e)
  have hq : ∀ q, v.ownBlock = some q → w.heap.size ≤ q := fun q e => (hW.rows.lt q e).1
  have hr : ∀ k, v.ownBlock = some k → k < w.heap.size ∨ ∃ cur t, ((wN.alloc o1).alloc o2).heap[k]? = some (.cells cur t (0, 0)) ∧ t ≠ 60 ∧ t ≠ 62 := fun k e => by
    rcases hW.rows.2 with ⟨rfl, -⟩ | ⟨g, cap, cur, rfl, -, h2, -⟩
    · cases e
    · have e' : g = k := by injection e
      subst e'
      exact .inr ⟨cur, _, h2, by decide, by decide⟩
  refine ⟨⟨hg.os.trans hW.grown.os, hg.tape.trans hW.grown.tape, hg.output.trans hW.grown.output, Nat.le_trans hW.grown.size hg.size, fun k hk hne => (hg.block k (Nat.lt_of_lt_of_le hk hW.grown.size) (fun e => by have := hq k e.symm; omega)).trans (hW.grown.block k hk hne)⟩,
    (hg.block a (Nat.lt_of_lt_of_le ha hW.grown.size) (fun e => by have := hq a e.symm; omega)).trans hW.fd, ?_, ?_, ?_⟩
  · rw [List.length_append, List.flatMap_append]
    simpa using hown
  · rw [List.length_append, List.length_append, h.len]; rfl
  · intro i d' cs' h1 h2
    by_cases hi : i < ds.length
    · rw [List.getElem?_append_left hi] at h1
      rw [List.getElem?_append_left (by rw [← h.len]; exact hi)] at h2
      exact (hW.pcs i d' cs' h1 h2).grown hg hr
    · rw [List.getElem?_append_right (by omega)] at h1
      rw [List.getElem?_append_right (by rw [← h.len]; omega)] at h2
      have hi1 : i - ds.length = 0 := by
        have := (List.getElem?_eq_some_iff.1 h1).1
        simp at this; omega
      rw [hi1] at h1
      rw [← h.len, hi1] at h2
      simp at h1 h2
      subst h1 h2
      exact hpW.grown hg hr
def sizeIn (a : Nat) (wr : World) : Nat := match wr.cell? ⟨a, 0, none⟩ with
  | some (.string s) => s.size
  | _ => 0
theorem sizeIn_of {a : Nat} {wr : World} {s : ByteArray} {limit mode : Int} {er : Value} (h : FeedAt wr a s limit mode er) : sizeIn a wr = s.size := by
  unfold sizeIn; rw [h.cells.1]
set_option maxRecDepth 100000 in
set_option maxHeartbeats 4000000 in
theorem all_any (a : Nat) (s : ByteArray) (limit mode : Int) (w : World) (hw : ∀ w', w.grownBy w' (some a) → Laid w') (he : ∀ w', w.grownBy w' (some a) → ErrTy w') (hf : FeedAt w a s limit mode .nilIface) (hs : s.size ≤ 1073741824) (hm : 0 ≤ mode ∧ mode ≤ 3) :
    Calls Tryz.prog 12 #[.pointer (some ⟨a, 0, none⟩)] w fun e w' => ∃ v vs, e = .returned (.tuple #[v, errV (allRun limit mode (s.size + 1) s.data.toList).2.1.err]) ∧
      AlSt w a limit mode (bs (allRun limit mode (s.size + 1) s.data.toList).2.2) (allRun limit mode (s.size + 1) s.data.toList).2.1.ev (allRun limit mode (s.size + 1) s.data.toList).1 vs v w' := by
  have hal : a < w.heap.size := heap_lt hf
  obtain ⟨R, hR⟩ : ∃ R, R = allRun limit mode (s.size + 1) s.data.toList := ⟨_, rfl⟩
  rw [← hR]
  have hst : AlSt w a limit mode s .nilIface [] [] (.slice none 0 0) w := ⟨⟨rfl, rfl, rfl, Nat.le_refl _, fun _ _ _ => rfl⟩, hf, World.ownsRow_nil _ _ _ _, rfl, fun i d cs h => by simp at h⟩
  have HST := Lib.hid hst
  have HW := Lib.hid hw
  have HE := Lib.hid he
  have HM := Lib.hid hm
  have HR := Lib.hid hR
  clear hst hf hw he hm hR
  obtain ⟨i1, hi, hz0, hz1, hz2⟩ := info_parts pc_info
  go_enter Tryz.func12, Tryz.ntmps12
  go_wp2_with fail
  go_loopw [4] (fun out wr => ∃ ds vs s1 fu, AlSt w a limit mode s1 .nilIface ds vs out wr ∧ s1.size < fu ∧ ds.length + s1.size ≤ s.size ∧ R = (ds ++ (allRun limit mode fu s1.data.toList).1, (allRun limit mode fu s1.data.toList).2)) (fun _ wr => sizeIn a wr)
  case atStart => exact ⟨[], [], s, s.size + 1, HST.out, Nat.lt_succ_self _, by simp, by rw [HR.out]; rfl⟩
  case round =>
    obtain ⟨ds, vs, s1, fu, hst, hfu, hle, hrun⟩ := hrel
    obtain ⟨av, nv, cv, rfl⟩ := own_slice hst.rows
    have HST1 := Lib.hid hst
    have HRUN := Lib.hid hrun
    clear hst hrun
    go_wp2_with fail
    refine (gnext_any a s1 limit mode _ (HW.out _ HST1.out.grown) (HE.out _ HST1.out.grown) HST1.out.fd (by omega)).mono ?_
    rintro e wN hp
    have hstn := HST1.out.next hal hp.grown hp.fd
    have hbase := HST1.out.grown.size
    obtain ⟨v, rfl, hpi⟩ := hp.val
    obtain ⟨cs, rfl, hpb⟩ := piece_b hpi
    obtain ⟨A1, a1, A2, a2, rfl, r1, r2, hfit⟩ := hpb
    have r1' := own_mono r1 hbase
    have r2' := own_mono r2 hbase
    obtain ⟨fu', rfl⟩ : ∃ fu', fu = fu' + 1 := ⟨fu - 1, by omega⟩
    have hrun := HRUN.out
    rw [allRun] at hrun
    cases ho : nextOut s1.data.toList limit mode with
    | good n =>
      have hsh := next_short (l := s1.data.toList) (limit := limit) HM.out (by rw [ho]; rfl)
      rw [ho] at hstn hrun r1' r2' hfit hsh
      rw [if_pos (show (NOut.good n).ok = true from rfl)] at hrun
      rw [show (NOut.good n).ok = true from rfl, show errV (NOut.good n).err = .nilIface from rfl]
      generalize NOut.piece s1.data.toList mode (.good n) = d at hrun r1' r2' hfit ⊢
      generalize NOut.left s1.data.toList (.good n) = l2 at hstn hrun hsh ⊢
      unfold pcL
      have HSN := Lib.hid hstn
      have HRN := Lib.hid hrun
      have HR1 := Lib.hid r1'
      have HR2 := Lib.hid r2'
      have HFT := Lib.hid hfit
      have hlen1 : s1.data.toList.length = s1.size := by rw [← Lib.size_eq]
      rw [hlen1] at hsh
      have hvl : vs.length = ds.length := HST1.out.len.symm
      have q1 : vs.length + 1 ≤ maxLen := by unfold maxLen; omega
      have q2 : (vs.length + 1) * 104 ≤ 140737488355328 := by omega
      have q3 : w.heap.size ≤ ((wN.alloc (.cells #[.int .i64 d.o1, .bool d.o2, .int .i64 d.o3, .slice A1 d.xs.length a1, .slice A2 d.ys.length a2, .string d.t, .string d.u] 42)).alloc (.cells #[.int .i64 d.o1, .bool d.o2, .int .i64 d.o3, .slice A1 d.xs.length a1, .slice A2 d.ys.length a2, .string d.t, .string d.u] 42)).heap.size := by have := HSN.out.grown.size; simp; omega
      have q4 : ∀ y ∈ ([.int .i64 d.o1, .bool d.o2, .int .i64 d.o3, .slice A1 d.xs.length a1, .slice A2 d.ys.length a2, .string d.t, .string d.u] : List Value), y.oneCell' = true := fun y hy => by simp at hy; rcases hy with rfl | rfl | rfl | rfl | rfl | rfl | rfl <;> rfl
      have q5 : ∀ j u, ([.int .i64 d.o1, .bool d.o2, .int .i64 d.o3, .slice A1 d.xs.length a1, .slice A2 d.ys.length a2, .string d.t, .string d.u] : List Value)[j]? = some u → ((wN.alloc (.cells #[.int .i64 d.o1, .bool d.o2, .int .i64 d.o3, .slice A1 d.xs.length a1, .slice A2 d.ys.length a2, .string d.t, .string d.u] 42)).alloc (.cells #[.int .i64 d.o1, .bool d.o2, .int .i64 d.o3, .slice A1 d.xs.length a1, .slice A2 d.ys.length a2, .string d.t, .string d.u] 42)).cell? ((⟨wN.heap.size + 1, 0, none⟩ : Addr).add j) = some u := World.news_of_block (by rw [show wN.heap.size + 1 = (wN.alloc (.cells #[.int .i64 d.o1, .bool d.o2, .int .i64 d.o3, .slice A1 d.xs.length a1, .slice A2 d.ys.length a2, .string d.t, .string d.u] 42)).heap.size by simp]; exact heap_alloc_new _ _)
      have Q1 := Lib.hid q1
      have Q2 := Lib.hid q2
      have Q3 := Lib.hid q3
      have Q4 := Lib.hid q4
      have Q5 := Lib.hid q5
      clear hstn hrun r1 r2 r1' r2' hfit hp hpi q1 q2 q3 q4 q5 ho
      go_wp2_with (at_builtin; refine wpList_append_own _ rfl _ _ 51 rfl w.heap.size 42 i1 (.agg (pz7 ⟨#[]⟩).toArray) 7 104 Tryz.underlying51 hi hz0 hz1 hz2 rfl (by decide) _ _ _ rfl ((HSN.out.rows.alloc _).alloc _) ⟨wN.heap.size + 1, 0, none⟩ 1 1 [.int .i64 d.o1, .bool d.o2, .int .i64 d.o3, .slice A1 d.xs.length a1, .slice A2 d.ys.length a2, .string d.t, .string d.u] rfl rfl Q5.out Q4.out Q1.out Q2.out Q3.out ?_; intro v' w6 hown6 hgrow6 _; obtain ⟨av6, nv6, cv6, rfl⟩ := own_slice hown6; have HO6 := Lib.hid hown6; have HG6 := Lib.hid hgrow6; clear hown6 hgrow6)
      have hal2 := all_round HSN.out hal HO6.out HG6.out ⟨A1, a1, A2, a2, rfl, HR1.out, HR2.out, HFT.out⟩
      have hbl : (bs l2).size = l2.length := bs_size l2
      refine ⟨⟨ds ++ [d], vs ++ [_], bs l2, fu', hal2, by omega, by rw [List.length_append]; simp; omega, ?_⟩, ?_⟩
      · rw [HRN.out, bs_data, List.append_assoc]; rfl
      · rw [sizeIn_of hal2.fd, sizeIn_of HST1.out.fd]; omega
    | spoilt n =>
      have hsh := next_short (l := s1.data.toList) (limit := limit) HM.out (by rw [ho]; rfl)
      rw [ho] at hstn hrun r1' r2' hfit hsh
      rw [if_pos (show (NOut.spoilt n).ok = true from rfl)] at hrun
      rw [show (NOut.spoilt n).ok = true from rfl, show errV (NOut.spoilt n).err = .nilIface from rfl]
      generalize NOut.piece s1.data.toList mode (.spoilt n) = d at hrun r1' r2' hfit ⊢
      generalize NOut.left s1.data.toList (.spoilt n) = l2 at hstn hrun hsh ⊢
      unfold pcL
      have HSN := Lib.hid hstn
      have HRN := Lib.hid hrun
      have HR1 := Lib.hid r1'
      have HR2 := Lib.hid r2'
      have HFT := Lib.hid hfit
      have hlen1 : s1.data.toList.length = s1.size := by rw [← Lib.size_eq]
      rw [hlen1] at hsh
      have hvl : vs.length = ds.length := HST1.out.len.symm
      have q1 : vs.length + 1 ≤ maxLen := by unfold maxLen; omega
      have q2 : (vs.length + 1) * 104 ≤ 140737488355328 := by omega
      have q3 : w.heap.size ≤ ((wN.alloc (.cells #[.int .i64 d.o1, .bool d.o2, .int .i64 d.o3, .slice A1 d.xs.length a1, .slice A2 d.ys.length a2, .string d.t, .string d.u] 42)).alloc (.cells #[.int .i64 d.o1, .bool d.o2, .int .i64 d.o3, .slice A1 d.xs.length a1, .slice A2 d.ys.length a2, .string d.t, .string d.u] 42)).heap.size := by have := HSN.out.grown.size; simp; omega
      have q4 : ∀ y ∈ ([.int .i64 d.o1, .bool d.o2, .int .i64 d.o3, .slice A1 d.xs.length a1, .slice A2 d.ys.length a2, .string d.t, .string d.u] : List Value), y.oneCell' = true := fun y hy => by simp at hy; rcases hy with rfl | rfl | rfl | rfl | rfl | rfl | rfl <;> rfl
      have q5 : ∀ j u, ([.int .i64 d.o1, .bool d.o2, .int .i64 d.o3, .slice A1 d.xs.length a1, .slice A2 d.ys.length a2, .string d.t, .string d.u] : List Value)[j]? = some u → ((wN.alloc (.cells #[.int .i64 d.o1, .bool d.o2, .int .i64 d.o3, .slice A1 d.xs.length a1, .slice A2 d.ys.length a2, .string d.t, .string d.u] 42)).alloc (.cells #[.int .i64 d.o1, .bool d.o2, .int .i64 d.o3, .slice A1 d.xs.length a1, .slice A2 d.ys.length a2, .string d.t, .string d.u] 42)).cell? ((⟨wN.heap.size + 1, 0, none⟩ : Addr).add j) = some u := World.news_of_block (by rw [show wN.heap.size + 1 = (wN.alloc (.cells #[.int .i64 d.o1, .bool d.o2, .int .i64 d.o3, .slice A1 d.xs.length a1, .slice A2 d.ys.length a2, .string d.t, .string d.u] 42)).heap.size by simp]; exact heap_alloc_new _ _)
      have Q1 := Lib.hid q1
      have Q2 := Lib.hid q2
      have Q3 := Lib.hid q3
      have Q4 := Lib.hid q4
      have Q5 := Lib.hid q5
      clear hstn hrun r1 r2 r1' r2' hfit hp hpi q1 q2 q3 q4 q5 ho
      go_wp2_with (at_builtin; refine wpList_append_own _ rfl _ _ 51 rfl w.heap.size 42 i1 (.agg (pz7 ⟨#[]⟩).toArray) 7 104 Tryz.underlying51 hi hz0 hz1 hz2 rfl (by decide) _ _ _ rfl ((HSN.out.rows.alloc _).alloc _) ⟨wN.heap.size + 1, 0, none⟩ 1 1 [.int .i64 d.o1, .bool d.o2, .int .i64 d.o3, .slice A1 d.xs.length a1, .slice A2 d.ys.length a2, .string d.t, .string d.u] rfl rfl Q5.out Q4.out Q1.out Q2.out Q3.out ?_; intro v' w6 hown6 hgrow6 _; obtain ⟨av6, nv6, cv6, rfl⟩ := own_slice hown6; have HO6 := Lib.hid hown6; have HG6 := Lib.hid hgrow6; clear hown6 hgrow6)
      have hal2 := all_round HSN.out hal HO6.out HG6.out ⟨A1, a1, A2, a2, rfl, HR1.out, HR2.out, HFT.out⟩
      have hbl : (bs l2).size = l2.length := bs_size l2
      refine ⟨⟨ds ++ [d], vs ++ [_], bs l2, fu', hal2, by omega, by rw [List.length_append]; simp; omega, ?_⟩, ?_⟩
      · rw [HRN.out, bs_data, List.append_assoc]; rfl
      · rw [sizeIn_of hal2.fd, sizeIn_of HST1.out.fd]; omega
    | wait =>
      rw [ho] at hstn hrun
      rw [if_neg (by decide), List.append_nil] at hrun
      rw [show NOut.wait.ok = false from rfl, show errV NOut.wait.err = .nilIface from rfl]
      generalize NOut.piece s1.data.toList mode (.wait) = d
      unfold pcL
      have HSN := Lib.hid hstn
      have HRN := Lib.hid hrun
      clear hstn hrun r1 r2 r1' r2' hfit hp hpi ho
      go_wp2_with fail
      go_ret2
      rw [HRN.out]
      exact ⟨_, vs, by first | rfl | (show _ = Ending.returned (.tuple #[_, errV c]); rw [errV_ne hcc]; rfl), HSN.out.later hal ((Below.refl _ wN).alloc (Nat.le_refl _) _)⟩
    | fail c =>
      rw [ho] at hstn hrun
      rw [if_neg (fun x => by cases x), List.append_nil] at hrun
      have hcc : c ≠ 0 := next_fail ho
      rw [show (NOut.fail c).ok = false from rfl, show errV (NOut.fail c).err = .iface 31 (.int .i64 c) from errV_ne hcc]
      generalize NOut.piece s1.data.toList mode (.fail c) = d
      unfold pcL
      have HSN := Lib.hid hstn
      have HRN := Lib.hid hrun
      clear hstn hrun r1 r2 r1' r2' hfit hp hpi ho
      go_wp2_with fail
      go_ret2
      rw [HRN.out]
      exact ⟨_, vs, by first | rfl | (show _ = Ending.returned (.tuple #[_, errV c]); rw [errV_ne hcc]; rfl), HSN.out.later hal ((Below.refl _ wN).alloc (Nat.le_refl _) _)⟩
set_option maxRecDepth 100000 in
theorem all_bad (a : Nat) (s : ByteArray) (limit mode c : Int) (w : World) (hf : FeedAt w a s limit mode (.iface 31 (.int .i64 c))) :
    Calls Tryz.prog 12 #[.pointer (some ⟨a, 0, none⟩)] w fun e w' => e = .returned (.tuple #[.slice none 0 0, .nilIface]) ∧ w.grownBy w' (some a) ∧ FeedAt w' a s limit mode (.iface 31 (.int .i64 c)) := by
  have HF := Lib.hid hf
  clear hf
  go_enter Tryz.func12, Tryz.ntmps12
  go_wp2_with fail
  go_loopw [4] (fun out wr => out = .slice none 0 0 ∧ wr = w) (fun _ _ => 0)
  case atStart => exact ⟨rfl, rfl⟩
  case round =>
    obtain ⟨rfl, rfl⟩ := hrel
    go_wp2_with fail
    refine (gn_bad a s limit mode c _ HF.out).mono ?_
    rintro e wN hp
    obtain ⟨v, rfl, hv⟩ := hp.val
    have hv' : v = .agg (pz7 ⟨#[]⟩).toArray := hv
    subst hv'
    rw [show NOut.wait.ok = false from rfl, show errV NOut.wait.err = .nilIface from rfl]
    unfold pz7
    have HG := Lib.hid hp.grown
    have HD := Lib.hid hp.fd
    clear hp hv
    go_wp2_with fail
    go_ret2
    have hb := (Below.refl wN.heap.size wN).alloc (Nat.le_refl _) (.cells #[.int .i64 0, .bool false, .int .i64 0, .slice none 0 0, .slice none 0 0, .string ⟨#[]⟩, .string ⟨#[]⟩] 42)
    exact ⟨rfl, ⟨hb.os.trans HG.out.os, hb.tape.trans HG.out.tape, hb.output.trans HG.out.output, Nat.le_trans HG.out.size hb.size, fun k hk hne => (hb.block k (Nat.lt_of_lt_of_le hk HG.out.size)).trans (HG.out.block k hk hne)⟩, (hb.block _ (heap_lt HD.out)).trans HD.out⟩
end Go.Proofs.YtincgdbfmnnpaaaGreatDoor

/- plain.Place, quaymasterlaw.bare. -/
namespace Go.Proofs.YtincgdbfmnnpaaaGreatDoor
open Go.RowKit Go.Extern.Stop Go.Stop Go.Extern
theorem isAt_at (v : Value) (xT : TypeId) (w : World) : (Instr.typeAssert (.iface 77 v) xT 77 true).run Tryz.prog w = .ok (.tuple #[v, .bool true]) w := by kernel_rfl
theorem isAt_errno (v : Value) (xT : TypeId) (w : World) : (Instr.typeAssert (.iface 31 v) xT 77 true).run Tryz.prog w = .ok (.tuple #[.pointer none, .bool false]) w := by kernel_rfl
theorem noUnwrap_errno (v : Value) (xT : TypeId) (w : World) : (Instr.typeAssert (.iface 31 v) xT 81 true).run Tryz.prog w = .ok (.tuple #[.nilIface, .bool false]) w :=
  run_typeAssert_lacksB Tryz.underlying81 (by kernel_rfl) (by kernel_rfl) v xT w
set_option maxRecDepth 100000 in
set_option maxHeartbeats 1000000 in
theorem place_any (v : Value) (e pl : Int) (w : World) (hg : ErrTy w) (h : IsErr w v e pl) :
    Calls Tryz.prog 14 #[v] w fun en w' => en = .returned (.tuple #[.int .i64 e, .int .i64 pl]) ∧ Below w.heap.size w w' := by
  have h' := h
  rcases h with ⟨rfl, rfl⟩ | ⟨he, a, rfl, h1, h2⟩
  · by_cases h0 : e = 0
    · subst h0
      have ht := tell_any _ 0 (-1) w hg h'
      have HT := Lib.hid ht
      clear ht h'
      change Hid (Calls Tryz.prog 22 #[Value.nilIface] _ _) at HT
      show Calls _ _ #[Value.nilIface] _ _
      go_enter Tryz.func14, Tryz.ntmps14
      go_wp2_with fail
      refine HT.out.mono ?_
      rintro en w2 ⟨rfl, hb⟩
      go_wp2_with fail
      refine wp_loop_rounds 1 ?_
      rw [rounds_succ]
      go_wp2_with fail
      go_ret2
      exact ⟨rfl, hb⟩
    · have hv : errV e = .iface 31 (.int .i64 e) := by rw [errV, if_neg h0]
      rw [hv] at h' ⊢
      have ht := tell_any _ e (-1) w hg h'
      have HT := Lib.hid ht
      clear ht h' hv
      have a1 := isAt_errno
      have a2 := noUnwrap_errno
      go_enter Tryz.func14, Tryz.ntmps14
      go_wp2_with fail
      refine HT.out.mono ?_
      rintro en w2 ⟨rfl, hb⟩
      go_wp2_with fail
      refine wp_loop_rounds 1 ?_
      rw [rounds_succ]
      go_wp2_with fail
      go_ret2
      exact ⟨rfl, hb⟩
  · have ht := tell_any _ e pl w hg h'
    have HT := Lib.hid ht
    clear ht h'
    have a1 := isAt_at
    have hal : a < w.heap.size := World.block_lt_of_cell? w ⟨a, 0, none⟩ h1
    go_enter Tryz.func14, Tryz.ntmps14
    go_wp2_with fail
    refine HT.out.mono ?_
    rintro en w2 ⟨rfl, hb⟩
    have h1' : w2.cell? ⟨a, 0, none⟩ = some (.int .i64 e) := by rw [hb.cell hal]; exact h1
    have h2' : w2.cell? ⟨a, 1, none⟩ = some (.int .i64 pl) := by rw [hb.cell hal]; exact h2
    go_wp2_with fail
    refine wp_loop_rounds 1 ?_
    rw [rounds_succ]
    go_wp2_with fail
    go_quiet (fail)
    go_wp2_with fail
    go_ret2
    exact ⟨rfl, below_drewN hb _⟩
def bareB (e pl x : Int) : Bool := decide (e = x) && decide (pl = -1)
theorem bare_any (v : Value) (e pl x : Int) (w : World) (hg : ErrTy w) (h : IsErr w v e pl) :
    Calls Tryz.prog 5 #[v, .int .i64 x] w fun en w' => en = .returned (.bool (bareB e pl x)) ∧ Below w.heap.size w w' := by
  have ht := place_any v e pl w hg h
  have HT := Lib.hid ht
  clear ht h
  by_cases h1 : e = x
  · by_cases h2 : pl = -1
    · have hb : bareB e pl x = true := by simp [bareB, h1, h2]
      rw [hb]
      have b1 : (e == x) = true := by simp [h1]
      have b2 : (pl == -1) = true := by simp [h2]
      clear h1 h2 hb
      go_enter Tryz.func5, Tryz.ntmps5
      go_wp2_with fail
      refine HT.out.mono ?_
      rintro en w2 ⟨rfl, hb⟩
      go_wp2_with fail
      go_ret
      exact ⟨rfl, hb⟩
    · have hb : bareB e pl x = false := by simp [bareB, h1, h2]
      rw [hb]
      have b1 : (e == x) = true := by simp [h1]
      have b2 : (pl == -1) = false := by simp [h2]
      clear h1 h2 hb
      go_enter Tryz.func5, Tryz.ntmps5
      go_wp2_with fail
      refine HT.out.mono ?_
      rintro en w2 ⟨rfl, hb⟩
      go_wp2_with fail
      go_ret
      exact ⟨rfl, hb⟩
  · have hb : bareB e pl x = false := by simp [bareB, h1]
    rw [hb]
    have b1 : (e == x) = false := by simp [h1]
    clear h1 hb
    go_enter Tryz.func5, Tryz.ntmps5
    go_wp2_with fail
    refine HT.out.mono ?_
    rintro en w2 ⟨rfl, hb⟩
    go_wp2_with fail
    go_ret
    exact ⟨rfl, hb⟩
end Go.Proofs.YtincgdbfmnnpaaaGreatDoor
