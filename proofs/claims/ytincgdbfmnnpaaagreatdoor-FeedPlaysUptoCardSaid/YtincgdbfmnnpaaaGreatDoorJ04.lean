/- A part of the proof: Psize, RefUnpad, AhsRead, AhsRead2, AhsRead3, CrcLaw, Crc, Crc2, Digest, PduSpec, PduRead, PduLaw. -/
import Derived.Test.YtincgdbfmnnpaaaGreatDoorJ01
import Derived.Test.YtincgdbfmnnpaaaGreatDoorShelf
import Derived.Test.YtincgdbfmnnpaaaGreatDoorJ03
import Derived.Deep.RegionHeld3
import Derived.Deep.AppendLies
import Derived.Laws.CopyOwn
import Derived.Laws.BytesString
/- quaymasterref.PduSize, pdu.Size. -/
namespace Go.Proofs.YtincgdbfmnnpaaaGreatDoor
open Go.RowKit
theorem ret_int {k : IntKind} {a b : Int} (h : a = b) : Ending.returned (.int k a) = .returned (.int k b) := by rw [h]
theorem ret2_int {k : IntKind} {a b : Int} {v : Value} (h : a = b) : Ending.returned (.tuple #[.int k a, v]) = .returned (.tuple #[.int k b, v]) := by rw [h]
/-- How many bytes of data a head tells. -/
def dlen (l : List UInt8) : Nat := beN ((l.drop 5).take 3)
def hw4 (l : List UInt8) : Nat := (l.getD 4 0).toNat
theorem dlen_lt (l : List UInt8) : dlen l ≤ 16777215 := by
  have h := beN_lt _ ((l.drop 5).take 3) rfl
  have : ((l.drop 5).take 3).length ≤ 3 := List.length_take_le _ _
  have : 256 ^ ((l.drop 5).take 3).length ≤ 256 ^ 3 := Nat.pow_le_pow_right (by decide) this
  unfold dlen; omega
theorem hw4_lt (l : List UInt8) : hw4 l < 256 := (l.getD 4 0).toNat_lt
theorem list_at (s : ByteArray) (i : Nat) (h : i < s.size) : s.data.toList.getD i 0 = s[i] := by
  rw [List.getD_eq_getElem?_getD, List.getElem?_eq_getElem (by rw [← Lib.size_eq]; exact h)]; rfl
theorem hw4_eq (s : ByteArray) (h : 48 ≤ s.size) : hw4 s.data.toList = (s[4]'(by omega)).toNat := by unfold hw4; rw [list_at s 4 (by omega)]
theorem dlen_eq (s : ByteArray) (h : 48 ≤ s.size) : dlen s.data.toList = (s[5]'(by omega)).toNat * 65536 + (s[6]'(by omega)).toNat * 256 + (s[7]'(by omega)).toNat := by
  have h5 := List.drop_eq_getElem_cons (l := s.data.toList) (i := 5) (by rw [← Lib.size_eq]; omega)
  have h6 := List.drop_eq_getElem_cons (l := s.data.toList) (i := 6) (by rw [← Lib.size_eq]; omega)
  have h7 := List.drop_eq_getElem_cons (l := s.data.toList) (i := 7) (by rw [← Lib.size_eq]; omega)
  unfold dlen
  rw [h5, h6, h7]
  show beN [s[5], s[6], s[7]] = _
  simp [beN]
  omega
/-- pdu.Size where the mode may be so and there are 48 bytes. -/
def szN (l : List UInt8) (mode : Int) : Int := 48 + 4 * hw4 l + dlen l + padI (dlen l) + 4 * (mode % 2) + (if dlen l = 0 then 0 else 4 * (mode / 2))
theorem szN_bd (l : List UInt8) (mode : Int) (h0 : 0 ≤ mode) (h3 : mode ≤ 3) : 48 ≤ szN l mode ∧ szN l mode ≤ 17000000 := by
  have := dlen_lt l
  have := hw4_lt l
  have := padI_bd (dlen l)
  unfold szN; split <;> omega
set_option maxRecDepth 100000 in
set_option maxHeartbeats 400000 in
theorem refsize_ok (s : ByteArray) (mode : Int) (w : World) (hs : 48 ≤ s.size) (hb : s.size ≤ 140737488355328) (h0 : 0 ≤ mode) (h3 : mode ≤ 3) :
    Calls Tryz.prog 17 #[.string s, .int .i64 mode] w fun e w' => e = .returned (.tuple #[.int .i64 (szN s.data.toList mode), .int .i64 0]) ∧ Below w.heap.size w w' := by
  have hd := dlen_lt s.data.toList
  have hp := padI_bd (dlen s.data.toList)
  have hwi := wi_yes ⟨h0, h3⟩
  have h4 := byte_lt (s[4]'(by omega))
  have hx : (s.extract 5 8).data.toList = (s.data.toList.drop 5).take 3 := by rw [Lib.extract_data]
  have H4 := Lib.hid (hw4_eq s hs)
  have HX := Lib.hid hx
  clear hx
  have hdi : (dlen s.data.toList : Int) ≤ 16777215 := by omega
  obtain ⟨D, hD⟩ : ∃ D, D = dlen s.data.toList := ⟨_, rfl⟩
  have HD := Lib.hid hD
  rw [← hD] at hp hdi
  clear hD hd
  have hm : mode.tmod 2 = mode % 2 := Int.tmod_eq_emod_of_nonneg h0
  have q1 : IntKind.i64.wrap (D : Int) = D := IntWalk.i64_in _ (by omega)
  have q2 : IntKind.i64.wrap ((s[4]'(by omega)).toNat : Int) = (s[4]'(by omega)).toNat := IntWalk.i64_in _ (by omega)
  have q3 : IntKind.i64.wrap (4 * ((s[4]'(by omega)).toNat : Int)) = 4 * (s[4]'(by omega)).toNat := IntWalk.i64_in _ (by omega)
  have q4 : IntKind.i64.wrap (48 + 4 * ((s[4]'(by omega)).toNat : Int)) = 48 + 4 * (s[4]'(by omega)).toNat := IntWalk.i64_in _ (by omega)
  have q5 : IntKind.i64.wrap (48 + 4 * ((s[4]'(by omega)).toNat : Int) + D) = 48 + 4 * (s[4]'(by omega)).toNat + D := IntWalk.i64_in _ (by omega)
  have q6 : IntKind.i64.wrap (48 + 4 * ((s[4]'(by omega)).toNat : Int) + D + padI D) = 48 + 4 * (s[4]'(by omega)).toNat + D + padI D := IntWalk.i64_in _ (by omega)
  have q7 : IntKind.i64.wrap (4 * (mode % 2)) = 4 * (mode % 2) := IntWalk.i64_in _ (by omega)
  have q8 : IntKind.i64.wrap (48 + 4 * ((s[4]'(by omega)).toNat : Int) + D + padI D + 4 * (mode % 2)) = 48 + 4 * (s[4]'(by omega)).toNat + D + padI D + 4 * (mode % 2) := IntWalk.i64_in _ (by omega)
  go_enter Tryz.func17, Tryz.ntmps17
  go_wp2_with fail
  refine (within_any _ _ _ _).mono ?_
  rintro e w' ⟨rfl, rfl⟩
  go_wp2_with fail
  refine (unnumber_any _ _ (by simp; omega)).mono ?_
  rintro e w' ⟨rfl, hb1⟩
  rw [HX.out, show beN ((s.data.toList.drop 5).take 3) = D from HD.out.symm]
  go_wp2_with fail
  have hi4 : (4 : Int) < (s.size : Int) := by omega
  go_quiet ((go_at_call 24; refine Calls.quiet_of_same (refpad_any _ _ (by omega) (by omega))))
  clear q1 q2 q3 q4 q5 q6 q7 q8 hm
  have hm2 : mode.tdiv 2 = mode / 2 := Int.tdiv_eq_ediv_of_nonneg h0
  by_cases hd0 : D = 0
  · subst hd0
    go_wp2_with fail
    go_ret2
    refine ⟨ret2_int ?_, below_drewN hb1 _⟩
    have := HD.out
    unfold szN
    rw [← this, if_pos rfl, H4.out]
    omega
  · have hd1 : (0 : Int) < D := by omega
    have hd2 : D ≠ dlen s.data.toList → False := fun h => h HD.out
    go_wp2_with fail
    go_ret2
    refine ⟨ret2_int ?_, below_drewN hb1 _⟩
    have := HD.out
    unfold szN
    rw [← this, if_neg hd0, H4.out]
/-- What pdu.Size tells: the size, and what is wrong. -/
def pduSize (l : List UInt8) (mode : Int) : Int × Int :=
  if wi mode 0 3 = false then (0, 1) else if l.length < 48 then (0, 7) else (szN l mode, 0)
set_option maxRecDepth 100000 in
theorem refsize_any (s : ByteArray) (mode : Int) (w : World) (hb : s.size ≤ 140737488355328) :
    Calls Tryz.prog 17 #[.string s, .int .i64 mode] w fun e w' => e = .returned (.tuple #[.int .i64 (pduSize s.data.toList mode).1, .int .i64 (pduSize s.data.toList mode).2]) ∧ Below w.heap.size w w' := by
  by_cases hm : 0 ≤ mode ∧ mode ≤ 3
  · by_cases hs : 48 ≤ s.size
    · have h1 : pduSize s.data.toList mode = (szN s.data.toList mode, 0) := by
        rw [pduSize, wi_yes hm, if_neg (by decide), if_neg (by rw [← Lib.size_eq]; omega)]
      rw [h1]
      exact refsize_ok s mode w hs hb hm.1 hm.2
    · have h1 : pduSize s.data.toList mode = (0, 7) := by
        rw [pduSize, wi_yes hm, if_neg (by decide), if_pos (by rw [← Lib.size_eq]; omega)]
      have hwi := wi_yes hm
      rw [h1]
      go_enter Tryz.func17, Tryz.ntmps17
      go_wp2_with (go_at_call 23; refine (within_any _ _ _ _).mono ?_; rintro e w' ⟨rfl, rfl⟩)
      go_ret2
      exact ⟨rfl, Below.refl _ _⟩
  · have hwi := wi_no hm
    have h1 : pduSize s.data.toList mode = (0, 1) := by rw [pduSize, if_pos hwi]
    rw [h1]
    go_enter Tryz.func17, Tryz.ntmps17
    go_wp2_with (go_at_call 23; refine (within_any _ _ _ _).mono ?_; rintro e w' ⟨rfl, rfl⟩)
    go_ret2
    exact ⟨rfl, Below.refl _ _⟩

theorem quiet_add_left {P : Program} {f : FuncId} {args : Array Value} {w : World} {a n : Nat} {v : Value}
    (h : Calls P f args (w.drewN (a + n)) fun e w' => e = .returned v ∧ w.drewN (a + n) = w') :
    Calls P f args (w.drewN (a + n)) fun e w'' => e = .returned v ∧ ∃ m, w'' = w.drewN (a + m) :=
  h.mono fun _ _ ⟨he, hm⟩ => ⟨he, n, hm.symm⟩
theorem quiet_left {P : Program} {f : FuncId} {args : Array Value} {w : World} {n : Nat} {v : Value}
    (h : Calls P f args (w.drewN n) fun e w' => e = .returned v ∧ w.drewN n = w') : Calls P f args (w.drewN n) fun e w'' => e = .returned v ∧ ∃ m, w'' = w.drewN m :=
  h.mono fun _ _ ⟨he, hm⟩ => ⟨he, n, hm.symm⟩
theorem i64_or_nat (a b : Nat) (ha : a < 9223372036854775808) (hb : b < 9223372036854775808) : bits .or .i64 (a : Int) (b : Int) = ((a ||| b : Nat) : Int) := by
  have hx : a ||| b < 2 ^ 63 := Nat.or_lt_two_pow (by omega) (by omega)
  show IntKind.i64.wrap ((BitVec.ofInt 64 (a : Int) ||| BitVec.ofInt 64 (b : Int)).toNat : Int) = _
  rw [BitVec.toNat_or, BitVec.ofInt_natCast, BitVec.toNat_ofNat, BitVec.ofInt_natCast, BitVec.toNat_ofNat, Nat.mod_eq_of_lt (by omega), Nat.mod_eq_of_lt (by omega), IntKind.wrap_i64]
  omega
/-- Three bytes put together. -/
theorem or3 (a b c : UInt8) : bits .or .i64 (bits .or .i64 ((a.toNat : Int) * 65536) ((b.toNat : Int) * 256)) (c.toNat : Int) = ((a.toNat * 65536 + b.toNat * 256 + c.toNat : Nat) : Int) := by
  have ha := a.toNat_lt; have hb := b.toNat_lt; have hc := c.toNat_lt
  have e1 : (a.toNat : Int) * 65536 = ((a.toNat * 65536 : Nat) : Int) := by simp
  have e2 : (b.toNat : Int) * 256 = ((b.toNat * 256 : Nat) : Int) := by simp
  rw [e1, e2, i64_or_nat _ _ (by omega) (by omega), nat_join 16 _ _ (by simp) (by omega), i64_or_nat _ _ (by omega) (by omega), nat_join 8 _ _ (by omega) (by omega)]
set_option maxRecDepth 100000 in
set_option maxHeartbeats 400000 in
theorem size_ok (s : ByteArray) (mode : Int) (w : World) (hs : 48 ≤ s.size) (hb : s.size ≤ 140737488355328) (h0 : 0 ≤ mode) (h3 : mode ≤ 3) :
    Calls Tryz.prog 20 #[.string s, .int .i64 mode] w fun e w' => e = .returned (.tuple #[.int .i64 (szN s.data.toList mode), .nilIface]) ∧ ∃ k, w' = w.drewN k := by
  have hwi := wi_yes ⟨h0, h3⟩
  have H4 := Lib.hid (hw4_eq s hs)
  have hi4 : (4 : Int) < (s.size : Int) := by omega
  have hi5 : (5 : Int) < (s.size : Int) := by omega
  have hi6 : (6 : Int) < (s.size : Int) := by omega
  have hi7 : (7 : Int) < (s.size : Int) := by omega
  have h4 := byte_lt (s[4]'(by omega))
  have h5 := byte_lt (s[5]'(by omega))
  have h6 := byte_lt (s[6]'(by omega))
  have h7 := byte_lt (s[7]'(by omega))
  obtain ⟨D, hD⟩ : ∃ D, D = dlen s.data.toList := ⟨_, rfl⟩
  have e3 : bits .or .i64 (bits .or .i64 (((s[5]'(by omega)).toNat : Int) * 65536) (((s[6]'(by omega)).toNat : Int) * 256)) ((s[7]'(by omega)).toNat : Int) = (D : Int) := by
    rw [or3, hD, dlen_eq s hs]
  have HD := Lib.hid hD
  have hd := dlen_lt s.data.toList
  have hp := padI_bd D
  rw [← hD] at hd
  clear hD
  have hdi : (D : Int) ≤ 16777215 := by omega
  clear hd
  have q1 : IntKind.i64.wrap ((s[5]'(by omega)).toNat : Int) = (s[5]'(by omega)).toNat := IntWalk.i64_in _ (by omega)
  have q2 : IntKind.i64.wrap ((s[6]'(by omega)).toNat : Int) = (s[6]'(by omega)).toNat := IntWalk.i64_in _ (by omega)
  have q3 : IntKind.i64.wrap ((s[7]'(by omega)).toNat : Int) = (s[7]'(by omega)).toNat := IntWalk.i64_in _ (by omega)
  have q4 : IntKind.i64.wrap ((s[4]'(by omega)).toNat : Int) = (s[4]'(by omega)).toNat := IntWalk.i64_in _ (by omega)
  have q5 : IntKind.i64.wrap (((s[5]'(by omega)).toNat : Int) * 65536) = (s[5]'(by omega)).toNat * 65536 := IntWalk.i64_in _ (by omega)
  have q6 : IntKind.i64.wrap (((s[6]'(by omega)).toNat : Int) * 256) = (s[6]'(by omega)).toNat * 256 := IntWalk.i64_in _ (by omega)
  have r3 : IntKind.i64.wrap (4 * ((s[4]'(by omega)).toNat : Int)) = 4 * (s[4]'(by omega)).toNat := IntWalk.i64_in _ (by omega)
  have r4 : IntKind.i64.wrap (48 + 4 * ((s[4]'(by omega)).toNat : Int)) = 48 + 4 * (s[4]'(by omega)).toNat := IntWalk.i64_in _ (by omega)
  have r5 : IntKind.i64.wrap (48 + 4 * ((s[4]'(by omega)).toNat : Int) + D) = 48 + 4 * (s[4]'(by omega)).toNat + D := IntWalk.i64_in _ (by omega)
  have r6 : IntKind.i64.wrap (48 + 4 * ((s[4]'(by omega)).toNat : Int) + D + padI D) = 48 + 4 * (s[4]'(by omega)).toNat + D + padI D := IntWalk.i64_in _ (by omega)
  have hmm : mode = 0 ∨ mode = 1 ∨ mode = 2 ∨ mode = 3 := by omega
  go_enter Tryz.func20, Tryz.ntmps20
  go_wp2_with (go_at_call 15; refine (modes_any _ _).mono ?_; rintro e w' ⟨rfl, rfl⟩)
  go_quiet (fail)
  go_wp2_with fail
  go_quiet ((go_at_call 30; refine quiet_add_left (pad_any _ _ (by omega))))
  clear q1 q2 q3 q4 q5 q6 r3 r4 r5 r6 e3
  have b1 : bits .and .i64 0 1 = 0 := by decide
  have b2 : bits .and .i64 1 1 = 1 := by decide
  have b3 : bits .and .i64 2 1 = 0 := by decide
  have b4 : bits .and .i64 3 1 = 1 := by decide
  have b5 : bits .and .i64 0 2 = 0 := by decide
  have b6 : bits .and .i64 1 2 = 0 := by decide
  have b7 : bits .and .i64 2 2 = 2 := by decide
  have b8 : bits .and .i64 3 2 = 2 := by decide
  by_cases hd1 : (0 : Int) < D
  · have hd0 : ¬ D = 0 := by omega
    rcases hmm with rfl | rfl | rfl | rfl
    all_goals
      go_wp2_with fail
      go_ret2
      refine ⟨ret2_int ?_, _, rfl⟩
      have := HD.out
      unfold szN
      rw [← this, if_neg hd0, H4.out]
      try omega
  · have hd0 : D = 0 := by omega
    have HD0 := Lib.hid hd0
    clear hd0
    rcases hmm with rfl | rfl | rfl | rfl
    all_goals
      go_wp2_with fail
      go_ret2
      refine ⟨ret2_int ?_, _, rfl⟩
      have := HD.out
      unfold szN
      rw [← this, if_pos HD0.out, H4.out]
      try omega
theorem size_any (s : ByteArray) (mode : Int) (w : World) (hb : s.size ≤ 140737488355328) :
    Calls Tryz.prog 20 #[.string s, .int .i64 mode] w fun e w' => e = .returned (.tuple #[.int .i64 (pduSize s.data.toList mode).1, errV (pduSize s.data.toList mode).2]) ∧ ∃ k, w' = w.drewN k := by
  by_cases hm : 0 ≤ mode ∧ mode ≤ 3
  · by_cases hs : 48 ≤ s.size
    · have h1 : pduSize s.data.toList mode = (szN s.data.toList mode, 0) := by
        rw [pduSize, wi_yes hm, if_neg (by decide), if_neg (by rw [← Lib.size_eq]; omega)]
      rw [h1]
      exact size_ok s mode w hs hb hm.1 hm.2
    · have h1 : pduSize s.data.toList mode = (0, 7) := by
        rw [pduSize, wi_yes hm, if_neg (by decide), if_pos (by rw [← Lib.size_eq]; omega)]
      have hwi := wi_yes hm
      rw [h1]
      go_enter Tryz.func20, Tryz.ntmps20
      go_wp2_with (go_at_call 15; refine (modes_any _ _).mono ?_; rintro e w' ⟨rfl, rfl⟩)
      go_ret2
      exact ⟨rfl, 0, rfl⟩
  · have hwi := wi_no hm
    have h1 : pduSize s.data.toList mode = (0, 1) := by rw [pduSize, if_pos hwi]
    rw [h1]
    go_enter Tryz.func20, Tryz.ntmps20
    go_wp2_with (go_at_call 15; refine (modes_any _ _).mono ?_; rintro e w' ⟨rfl, rfl⟩)
    go_ret2
    exact ⟨rfl, 0, rfl⟩
end Go.Proofs.YtincgdbfmnnpaaaGreatDoor

/- quaymasterref.Unpad. -/
namespace Go.Proofs.YtincgdbfmnnpaaaGreatDoor
open Go.RowKit
theorem dropWhile_nil {p : UInt8 → Bool} : ∀ {l : List UInt8}, l.dropWhile p = [] ↔ ∀ x ∈ l, p x = true
  | [] => by simp
  | a :: l => by
    by_cases h : p a = true
    · rw [List.dropWhile_cons_of_pos h, dropWhile_nil]; simp [h]
    · rw [List.dropWhile_cons_of_neg h]; simp [h]
theorem mem_takeWhile {p : UInt8 → Bool} : ∀ {l : List UInt8} {x : UInt8}, x ∈ l.takeWhile p → p x = true
  | [], _, h => by simp at h
  | a :: l, x, h => by
    by_cases ha : p a = true
    · rw [List.takeWhile_cons_of_pos ha, List.mem_cons] at h
      rcases h with rfl | h
      · exact ha
      · exact mem_takeWhile h
    · rw [List.takeWhile_cons_of_neg ha] at h
      simp at h
theorem trim_nil (l : List UInt8) : Lib.trimB l 0 = [] ↔ ∀ b ∈ l, b = 0 := by
  unfold Lib.trimB Lib.trimLeftB Lib.trimRightB
  constructor
  · intro h
    have h1 := dropWhile_nil.1 h
    intro b hb
    by_cases hz : ∀ x ∈ l, (x == 0) = true
    · simpa using hz b hb
    · exfalso
      obtain ⟨x, hx, hn⟩ : ∃ x ∈ l, ¬ (x == 0) = true := by simpa using hz
      have : x ∈ (l.reverse.dropWhile (· == 0)).reverse := by
        rw [List.mem_reverse]
        have hs := List.takeWhile_append_dropWhile (p := (· == (0 : UInt8))) (l := l.reverse)
        have hm : x ∈ l.reverse := List.mem_reverse.2 hx
        rw [← hs, List.mem_append] at hm
        rcases hm with hm | hm
        · exact absurd (mem_takeWhile hm) hn
        · exact hm
      exact hn (h1 x this)
  · intro h
    have h0 : l.reverse.dropWhile (· == 0) = [] := dropWhile_nil.2 fun x hx => by simpa using h x (List.mem_reverse.1 hx)
    rw [h0]; rfl
theorem pad_iff (s : List UInt8) (m : Nat) (h : m + (padI m).toNat ≤ s.length) : padded (s.take m) = s.take (m + (padI m).toNat) ↔ Lib.trimB ((s.drop m).take (padI m).toNat) 0 = [] := by
  have hl : (s.take m).length = m := by rw [List.length_take]; omega
  have hl2 : ((s.drop m).take (padI m).toNat).length = (padI m).toNat := by rw [List.length_take, List.length_drop]; omega
  rw [trim_nil, padded, hl, List.take_add, List.append_cancel_left_eq]
  constructor
  · intro h b hb
    rw [← h] at hb
    exact List.eq_of_mem_replicate hb
  · intro h
    exact (List.eq_replicate_iff.2 ⟨hl2, h⟩).symm
set_option maxHeartbeats 400000 in
theorem refunpad_any (s : ByteArray) (n : Int) (w : World) (h1 : s.size ≤ 140737488355328) (h0 : -9223372036854775808 ≤ n) (h2 : n ≤ 140737488355328) : Calls Tryz.prog 29 #[.string s, .int .i64 n] w fun e w' =>
    (∃ t a b, e = .returned (.tuple #[.string t, .int .i64 a, .int .i64 b]) ∧ unpad s.data.toList n = (t.data.toList, a, b)) ∧ Below w.heap.size w w' := by
  have hb := padI_bd n
  have hl : (s.data.toList.length : Int) = s.size := by rw [Lib.size_eq]
  by_cases c1 : n < 0
  · go_enter Tryz.func29, Tryz.ntmps29
    go_wp2
    refine bodyPost_ret (results_tmp3 rfl _ _ _) rfl ?_
    exact ⟨⟨⟨#[]⟩, 0, 2, rfl, by rw [unpad, if_pos c1]⟩, Below.refl _ _⟩
  by_cases c2 : n > s.size
  · have c2b : (s.size : Int) < n := c2
    go_enter Tryz.func29, Tryz.ntmps29
    go_wp2
    refine bodyPost_ret (results_tmp3 rfl _ _ _) rfl ?_
    exact ⟨⟨⟨#[]⟩, 0, 7, rfl, by rw [unpad, if_neg (by omega), hl, if_pos (.inl c2)]⟩, Below.refl _ _⟩
  have c2b : ¬ (s.size : Int) < n := c2
  by_cases c3 : n + padI n > s.size
  · have c3b : (s.size : Int) < n + padI n := c3
    go_enter Tryz.func29, Tryz.ntmps29
    go_wp2_with (go_at_call 24; refine (refpad_any _ _ (by omega) (by omega)).mono ?_; rintro e w' ⟨rfl, rfl⟩)
    refine bodyPost_ret (results_tmp3 rfl _ _ _) rfl ?_
    exact ⟨⟨⟨#[]⟩, 0, 7, rfl, by rw [unpad, if_neg (by omega), hl, if_pos (.inr c3)]⟩, Below.refl _ _⟩
  have c3b : ¬ (s.size : Int) < n + padI n := c3
  obtain ⟨m, rfl⟩ := Int.eq_ofNat_of_zero_le (by omega : 0 ≤ n)
  obtain ⟨p, hp⟩ : ∃ p : Nat, padI (m : Int) = p := ⟨(padI m).toNat, by omega⟩
  have hmp : m + p ≤ s.size := by omega
  have hpi := pad_iff s.data.toList m (by rw [hp, ← Lib.size_eq]; omega)
  have hsum : (m : Int) + (p : Int) = ((m + p : Nat) : Int) := by omega
  have q1 : IntKind.i64.wrap ((m : Int) + (p : Int)) = (m : Int) + p := IntWalk.i64_in _ (by omega)
  rw [hp] at hpi
  have HP := Lib.hid hp
  have HPI := Lib.hid hpi
  have HS := Lib.hid hsum
  clear hp hpi hsum hb c3 c3b
  have hm0 : (0 : Int) ≤ m := by omega
  have hmi : (m : Int) ≤ (s.size : Int) := by omega
  have hmpi : (m : Int) + (p : Int) ≤ (s.size : Int) := by omega
  have hp3 : (p : Int) ≤ 3 := by have := padI_bd (m : Int); have := HP.out; omega
  have hpp : (0 : Int) ≤ p := by omega
  go_enter Tryz.func29, Tryz.ntmps29
  go_wp2_with fail
  refine (refpad_any _ _ (by omega) (by omega)).mono ?_
  rintro e w' ⟨rfl, hw⟩
  obtain rfl : w = w' := hw.symm
  clear hw
  rw [HP.out]
  go_wp2_with fail
  refine (refpad_any _ _ (by omega) (by omega)).mono ?_
  rintro e w' ⟨rfl, hw⟩
  obtain rfl : w = w' := hw.symm
  clear hw
  rw [HP.out]
  go_wp2_with fail
  refine (Tryz.strings_Trim_one (s.extract m (m + p)) 0 (by decide) w (by simp; omega)).mono ?_
  rintro e w1 ⟨rfl, hw⟩
  have hbl : Below w.heap.size w w1 := by
    rcases hw with rfl | rfl
    · exact Below.refl _ _
    · exact (Below.refl _ _).drew
  clear hw
  have hx : Lib.trimB (s.extract m (m + p)).data.toList 0 = Lib.trimB ((s.data.toList.drop m).take p) 0 := by
    rw [Lib.extract_data]; congr 2; omega
  rw [hx]
  have HX := Lib.hid hx
  clear hx
  have hpn : ((p : Int)).toNat = p := by omega
  by_cases c4 : Lib.trimB ((s.data.toList.drop m).take p) 0 = []
  · have hu : unpad s.data.toList m = (s.data.toList.take m, (m : Int) + p, 0) := by
      rw [unpad, if_neg (by omega), hl, if_neg (by have := HP.out; omega), if_neg, HP.out]
      · rfl
      · rw [HP.out]
        have := HPI.out.2 (by rw [hpn]; exact c4)
        rw [hpn] at this
        rw [show (((m : Nat) : Int) + (p : Int)).toNat = m + p by omega, Int.toNat_natCast]
        exact not_not_intro this
    have HU := Lib.hid hu
    rw [c4]
    clear hu c4 HPI HX
    have q2 : IntKind.i64.wrap ((m : Int) + padI m) = (m : Int) + padI m := by rw [HP.out]; exact IntWalk.i64_in _ (by omega)
    go_wp2_with fail
    go_quiet ((go_at_call 24; refine Calls.quiet_of_same (refpad_any _ _ (by omega) (by omega))))
    go_wp2
    refine bodyPost_ret (results_tmp3 rfl _ _ _) rfl ?_
    refine ⟨⟨_, _, _, rfl, ?_⟩, below_drewN hbl _⟩
    rw [HU.out, HP.out, Lib.extract_data]
    simp
  · have hu : unpad s.data.toList m = ([], 0, 3) := by
      rw [unpad, if_neg (by omega), hl, if_neg (by have := HP.out; omega), if_pos]
      rw [HP.out, show (((m : Nat) : Int) + (p : Int)).toNat = m + p by omega, Int.toNat_natCast]
      intro h
      have := HPI.out.1 (by rw [hpn]; exact h)
      rw [hpn] at this
      exact c4 this
    have HU := Lib.hid hu
    obtain ⟨x, xs, hxs⟩ := List.exists_cons_of_ne_nil c4
    rw [hxs]
    clear hu c4 HPI HX hxs
    go_wp2_with fail
    refine bodyPost_ret (results_tmp3 rfl _ _ _) rfl ?_
    exact ⟨⟨⟨#[]⟩, 0, 3, rfl, HU.out⟩, hbl⟩
end Go.Proofs.YtincgdbfmnnpaaaGreatDoor

/- quaymasterref.Bare, Good, AhsRead. -/
namespace Go.Proofs.YtincgdbfmnnpaaaGreatDoor
open Go.RowKit
theorem faultinfo : (Tryz.prog.info? 91).map (·.size) = some 2 := by kernel_rfl
theorem bareF_any (c : Int) (w : World) : Calls Tryz.prog 38 #[.int .i64 c] w fun e w' => e = .returned (.agg #[.int .i64 c, .int .i64 (-1)]) ∧ Below w.heap.size w w' := by
  go_enter Tryz.func38, Tryz.ntmps38
  go_wp2_with fail
  exact bodyPost_ret (results_cell_row Tryz.results38 _ _ w.heap.size 91 _ (0, 0) _ rfl (alloc_heap_new w _) Tryz.underlying91 rfl faultinfo) rfl ⟨rfl, below_alloc (Below.refl _ _) (Nat.le_refl _) _⟩
theorem goodF_any (w : World) : Calls Tryz.prog 40 #[] w fun e w' => e = .returned (.agg #[.int .i64 0, .int .i64 (-1)]) ∧ Below w.heap.size w w' := by
  go_enter Tryz.func40, Tryz.ntmps40
  go_wp2_with fail
  exact bodyPost_ret (results_cell_row Tryz.results40 _ _ w.heap.size 91 _ (0, 0) _ rfl (alloc_heap_new w _) Tryz.underlying91 rfl faultinfo) rfl ⟨rfl, below_alloc (Below.refl _ _) (Nat.le_refl _) _⟩
theorem results_1cell {P : Program} {fn : Func} {p t1 : Tmp} {ty : TypeId} (h : fn.results = #[.tmp t1, .cell p ty]) (tmps : Array Value) (w : World) (g : Nat) (cs : List Value) (d : TypeDesc)
    (hp : tmps.getD p undef = .pointer (some ⟨g, 0, none⟩)) (hg : w.rangeAt g 0 cs) (hu : P.underlying ty = some d) (hd : d.isRow = true) (hi : (P.info? ty).map (·.size) = some cs.length) :
    (results fn tmps).run P w = .ok (.tuple #[tmps.getD t1 undef, .agg cs.toArray]) w := by
  have hp' : tmps[p]?.getD undef = .pointer (some ⟨g, 0, none⟩) := by simpa using hp
  simp [results, h, hp', asAddr, run_loadVar_mid w g 0 ty cs d hg hu hd hi]
/-- What AhsRead answers: the rows, the error, its place. -/
def ahsRead (l : List UInt8) : Nat → Nat → List (Int × List UInt8) → List (Int × List UInt8) × Int × Int
  | 0, _, acc => (acc, 0, -1)
  | fuel + 1, i, acc =>
    if l.length ≤ i then (acc, 0, -1)
    else if l.length < i + 3 then ([], 7, i)
    else
      let n := 256 * (l.getD i 0).toNat + (l.getD (i + 1) 0).toNat
      let m := i + 3 + n
      let p := (4 - (3 + n) % 4) % 4
      if l.length < m + p then ([], 7, i)
      else if Lib.countByte ((l.drop m).take p) 0 ≠ p then ([], 3, i)
      else ahsRead l fuel (m + p) (acc ++ [(((l.getD (i + 2) 0).toNat : Int), (l.drop (i + 3)).take n)])
set_option maxRecDepth 100000 in
theorem ahsread_long (s : ByteArray) (w : World) (h : (1020 : Int) < (s.size : Int)) : Calls Tryz.prog 27 #[.string s] w fun e w' =>
    e = .returned (.tuple #[.slice none 0 0, .agg #[.int .i64 4, .int .i64 (-1)]]) ∧ Below w.heap.size w w' := by
  go_enter Tryz.func27, Tryz.ntmps27
  go_wp2_with fail
  refine (bareF_any 4 _).mono ?_
  rintro e w1 ⟨rfl, hb⟩
  have hH : w1.heap[w.heap.size]? = some (.cells #[.int .i64 0, .int .i64 0] 91 (0, 0)) := (hb.block _ (by simp)).trans (alloc_heap_new w _)
  have hbb : Below w.heap.size w w1 := (below_alloc (Below.refl _ w) (Nat.le_refl _) _).trans (hb.mono (by simp))
  have HH := Lib.hid hH
  clear hH
  go_wp2_with (refine wpList_store_row rfl 91 _ _ rfl w.heap.size #[.int .i64 4, .int .i64 (-1)] rfl rfl 91 _ HH.out faultinfo rfl (by simp [Value.oneCell']) ?_)
  exact bodyPost_ret (results_1cell Tryz.results27 _ _ w.heap.size [.int .i64 4, .int .i64 (-1)] _ rfl (range_of_heap (setRow_heap _ _ _ _ _ _ HH.out)) Tryz.underlying91 rfl faultinfo) rfl ⟨rfl, below_setRow hbb (Nat.le_refl _) _⟩
end Go.Proofs.YtincgdbfmnnpaaaGreatDoor

/- quaymasterref.AhsRead: the loop. -/
namespace Go.Proofs.YtincgdbfmnnpaaaGreatDoor
open Go.RowKit
def ahsV (l : List (Int × List UInt8)) : List Value := l.flatMap fun x => [.int .i64 x.1, .string (bs x.2)]
theorem ahs_unfold (l : List UInt8) (i0 fu N P : Nat) (acc : List (Int × List UInt8)) (h : i0 + 3 ≤ l.length) (hN : 256 * (l.getD i0 0).toNat + (l.getD (i0 + 1) 0).toNat = N) (hP : (4 - (3 + N) % 4) % 4 = P) :
    ahsRead l (fu + 1) i0 acc = if l.length < i0 + 3 + N + P then ([], 7, (i0 : Int)) else if Lib.countByte ((l.drop (i0 + 3 + N)).take P) 0 ≠ P then ([], 3, (i0 : Int)) else
      ahsRead l fu (i0 + 3 + N + P) (acc ++ [(((l.getD (i0 + 2) 0).toNat : Int), (l.drop (i0 + 3)).take N)]) := by
  subst hN hP
  rw [ahsRead, if_neg (by omega), if_neg (by omega)]
theorem ahs_info : (Tryz.prog.info? 62).map (fun i => (i.zero, i.size, i.bytes)) = some (some (.agg #[.int .i64 0, .string ByteArray.empty]), 2, 24) := by kernel_rfl
structure ASt (w wr : World) (l : List UInt8) (i0 : Nat) (acc : List (Int × List UInt8)) (out : Value) : Prop where
  below : Below w.heap.size w wr
  fault : wr.heap[w.heap.size]? = some (.cells #[.int .i64 0, .int .i64 0] 91 (0, 0))
  rows : wr.ownsRow (w.heap.size + 1) 62 2 out acc.length (ahsV acc)
  le : i0 ≤ l.length
  few : 3 * acc.length ≤ i0
  same : ahsRead l (l.length + 1) 0 [] = ahsRead l (l.length + 1 - acc.length) i0 acc
def AhsPost (w : World) (l : List UInt8) (e : Ending) (w' : World) : Prop := Below w.heap.size w w' ∧ ∃ v, e = .returned (.tuple #[v, .agg #[.int .i64 (ahsRead l (l.length + 1) 0 []).2.1, .int .i64 (ahsRead l (l.length + 1) 0 []).2.2]]) ∧
  w'.ownsRow w.heap.size 62 2 v (ahsRead l (l.length + 1) 0 []).1.length (ahsV (ahsRead l (l.length + 1) 0 []).1)
set_option maxRecDepth 100000 in
set_option maxHeartbeats 4000000 in
theorem ahsread_short (s : ByteArray) (w : World) (h : ¬ (1020 : Int) < (s.size : Int)) : Calls Tryz.prog 27 #[.string s] w fun e w' => AhsPost w s.data.toList e w' := by
  have hlen : s.data.toList.length = s.size := by rw [← Lib.size_eq]
  have HL := Lib.hid hlen
  clear hlen
  go_enter Tryz.func27, Tryz.ntmps27
  go_wp2_with fail
  go_loopw [4, 5] (fun out i wr => ∃ (i0 : Nat) (acc : List (Int × List UInt8)), i = .int .i64 i0 ∧ ASt w wr s.data.toList i0 acc out) (fun _ i _ => s.size - (intOf i).toNat)
  case atStart => exact ⟨0, [], rfl, ⟨below_alloc (Below.refl _ w) (Nat.le_refl _) _, alloc_heap_new w _, World.ownsRow_nil _ _ _ _, by omega, by simp, rfl⟩⟩
  case round =>
    obtain ⟨i0, acc, rfl, hst⟩ := hrel
    have hle := hst.le
    rw [HL.out] at hle
    have HST := Lib.hid hst
    clear hst
    by_cases h1 : (i0 : Int) < (s.size : Int)
    · have e3 := IntWalk.i64_in ((i0 : Int) + 3) (by omega)
      by_cases h3 : (s.size : Int) < (i0 : Int) + 3
      · go_wp2_with (refine wpList_store_row rfl 91 _ _ rfl w.heap.size #[.int .i64 7, .int .i64 i0] rfl rfl 91 _ HST.out.fault faultinfo rfl (by simp [Value.oneCell']) ?_)
        have hr : ahsRead s.data.toList (s.data.toList.length + 1) 0 [] = ([], 7, (i0 : Int)) := by
          rw [HST.out.same]
          have hf := HST.out.few
          obtain ⟨fu, hfu⟩ : ∃ fu, s.data.toList.length + 1 - acc.length = fu + 1 := ⟨s.data.toList.length - acc.length, by have := HST.out.le; omega⟩
          rw [hfu, ahsRead, HL.out, if_neg (by omega), if_pos (by omega)]
        refine bodyPost_ret (results_1cell Tryz.results27 _ _ w.heap.size [.int .i64 7, .int .i64 i0] _ rfl (range_of_heap (setRow_heap _ _ _ _ _ _ HST.out.fault)) Tryz.underlying91 rfl faultinfo) rfl ⟨below_setRow HST.out.below (Nat.le_refl _) _, .slice none 0 0, by rw [hr]; rfl, by rw [hr]; exact World.ownsRow_nil _ _ _ _⟩
      · have h1n : i0 < s.size := by omega
        obtain ⟨j1, hj1⟩ : ∃ j1, j1 = i0 + 1 := ⟨_, rfl⟩
        have h2n : j1 < s.size := by omega
        have e1 : IntKind.i64.wrap ((i0 : Int) + 1) = (j1 : Int) := by rw [IntWalk.i64_in ((i0 : Int) + 1) (by omega)]; omega
        have h2i : (j1 : Int) < (s.size : Int) := by omega
        have HJ1 := Lib.hid hj1
        clear hj1
        have hA := (s[i0]'h1n).toNat_lt
        have hB := (s[j1]'h2n).toNat_lt
        have w1 := IntWalk.i64_in (((s[i0]'h1n).toNat : Nat) : Int) (by omega)
        have w2 := IntWalk.i64_in (((s[j1]'h2n).toNat : Nat) : Int) (by omega)
        have w3 := IntWalk.i64_in (256 * (((s[i0]'h1n).toNat : Nat) : Int)) (by omega)
        have w4 := IntWalk.i64_in (256 * (((s[i0]'h1n).toNat : Nat) : Int) + (((s[j1]'h2n).toNat : Nat) : Int)) (by omega)
        go_wp2_with fail
        go_quiet (fail)
        obtain ⟨N, hN⟩ : ∃ N : Nat, (N : Int) = 256 * (((s[i0]'h1n).toNat : Nat) : Int) + (((s[j1]'h2n).toNat : Nat) : Int) := ⟨256 * (s[i0]'h1n).toNat + (s[j1]'h2n).toNat, by simp⟩
        rw [← hN]
        have hN16 : (N : Int) ≤ 65535 := by omega
        have HN := Lib.hid hN
        clear hN w1 w2 w3 w4
        obtain ⟨p, hp⟩ : ∃ p : Int, p = padI (3 + (N : Int)) := ⟨_, rfl⟩
        have hp2 := padI_bd (3 + (N : Int))
        rw [← hp] at hp2
        have hpad := refpad_any (3 + (N : Int)) (wr.drewN nq) (by omega) (by omega)
        rw [← hp] at hpad
        have HP := Lib.hid hp
        have HPAD := Lib.hid hpad
        clear hp hpad
        have v1 := IntWalk.i64_in ((i0 : Int) + 3 + (N : Int)) (by omega)
        have v2 := IntWalk.i64_in (3 + (N : Int)) (by omega)
        have v3 := IntWalk.i64_in ((i0 : Int) + 3 + (N : Int) + p) (by omega)
        obtain ⟨P, hP⟩ : ∃ P : Nat, (P : Int) = p := ⟨p.toNat, by omega⟩
        have hPs : (4 - (3 + N) % 4) % 4 = P := by
          have := HP.out; unfold padI at this; rw [if_neg (by omega)] at this; omega
        have hNs : 256 * (s.data.toList.getD i0 0).toNat + (s.data.toList.getD (i0 + 1) 0).toNat = N := by
          have hj := HJ1.out
          rw [getD_byte s i0 h1n, ← hj, getD_byte s j1 h2n]; have := HN.out; omega
        obtain ⟨fu, hfu⟩ : ∃ fu, s.data.toList.length + 1 - acc.length = fu + 1 := ⟨s.data.toList.length - acc.length, by have := HST.out.few; have := HST.out.le; omega⟩
        have hun := HST.out.same
        rw [hfu, ahs_unfold s.data.toList i0 fu N P acc (by rw [HL.out]; omega) hNs hPs, HL.out] at hun
        have HUN := Lib.hid hun
        have HFU := Lib.hid hfu
        have HPN := Lib.hid hP
        clear hun hfu hPs hNs hP
        have HF2 : Hid ((wr.drewN nq).heap[w.heap.size]? = some (.cells #[.int .i64 0, .int .i64 0] 91 (0, 0))) := HST.out.fault
        by_cases h5 : (s.size : Int) < (i0 : Int) + 3 + (N : Int) + p
        · go_wp2_with (first | (go_at_call 24; refine HPAD.out.mono ?_; rintro e w' ⟨rfl, rfl⟩) | (refine wpList_store_row rfl 91 _ _ rfl w.heap.size #[.int .i64 7, .int .i64 i0] rfl rfl 91 _ HF2.out faultinfo rfl (by simp [Value.oneCell']) ?_))
          have hr := HUN.out
          rw [if_pos (by have := HPN.out; omega), ← HL.out] at hr
          refine bodyPost_ret (results_1cell Tryz.results27 _ _ w.heap.size [.int .i64 7, .int .i64 i0] _ rfl (range_of_heap (setRow_heap _ _ _ _ _ _ HF2.out)) Tryz.underlying91 rfl faultinfo) rfl ⟨below_setRow (below_drewN HST.out.below _) (Nat.le_refl _) _, .slice none 0 0, by rw [hr]; rfl, by rw [hr]; exact World.ownsRow_nil _ _ _ _⟩
        · have hM : (i0 : Int) + 3 + (N : Int) ≤ (i0 : Int) + 3 + (N : Int) + p := by omega
          have hex : (s.extract ((i0 : Int) + 3 + (N : Int)).toNat ((i0 : Int) + 3 + (N : Int) + p).toNat).data.toList = (s.data.toList.drop (i0 + 3 + N)).take P := by
            have := HPN.out
            rw [Lib.extract_data]
            have q1 : ((i0 : Int) + 3 + (N : Int)).toNat = i0 + 3 + N := by omega
            have q2 : ((i0 : Int) + 3 + (N : Int) + p).toNat - ((i0 : Int) + 3 + (N : Int)).toNat = P := by omega
            rw [q2, q1]
          have hcnt := Tryz.strings_Count_one (s.extract ((i0 : Int) + 3 + (N : Int)).toNat ((i0 : Int) + 3 + (N : Int) + p).toNat) 0 (wr.drewN nq)
          rw [hex] at hcnt
          obtain ⟨C, hC⟩ : ∃ C : Nat, C = Lib.countByte ((s.data.toList.drop (i0 + 3 + N)).take P) 0 := ⟨_, rfl⟩
          rw [← hC] at hcnt
          have HC := Lib.hid hC
          have HCNT := Lib.hid hcnt
          clear hC hcnt hex
          have x1 : IntKind.i64.wrap ((i0 : Int) + 3 + (N : Int) + p - (i0 : Int)) = 3 + (N : Int) + p := by rw [IntWalk.i64_in _ (by omega)]; omega
          have x2 : IntKind.i64.wrap (3 + (N : Int) + p - 3) = (N : Int) + p := by rw [IntWalk.i64_in _ (by omega)]; omega
          have x3 : IntKind.i64.wrap ((N : Int) + p - (N : Int)) = p := by rw [IntWalk.i64_in _ (by omega)]; omega
          by_cases h6 : (C : Int) = p
          · have h6b : ((C : Int) != p) = false := by simpa using h6
            obtain ⟨j2, hj2⟩ : ∃ j2, j2 = i0 + 2 := ⟨_, rfl⟩
            have h2m : j2 < s.size := by omega
            have y1 : IntKind.i64.wrap ((i0 : Int) + 2) = (j2 : Int) := by rw [IntWalk.i64_in ((i0 : Int) + 2) (by omega)]; omega
            have y2 : (j2 : Int) < (s.size : Int) := by omega
            have hD := (s[j2]'h2m).toNat_lt
            have y3 := IntWalk.i64_in (((s[j2]'h2m).toNat : Nat) : Int) (by omega)
            have y4 : (i0 : Int) + 3 ≤ (i0 : Int) + 3 + (N : Int) := by omega
            have y5 : (i0 : Int) + 3 + (N : Int) ≤ (s.size : Int) := by omega
            have HJ2 := Lib.hid hj2
            have H6 := Lib.hid h6
            clear hj2 h6
            obtain ⟨i1, hi, hz0, hz1, hz2⟩ := info_parts ahs_info
            obtain ⟨av, nv, cv, rfl⟩ := own_slice HST.out.rows
            have HO : Hid ((wr.drewN nq).drew.ownsRow (w.heap.size + 1) 62 2 (.slice av nv cv) acc.length (ahsV acc)) := HST.out.rows
            have hfew := HST.out.few
            have hacc : acc.length ≤ 340 := by omega
            have hbase : w.heap.size + 1 ≤ wr.heap.size := by have := heap_lt HST.out.fault; omega
            go_wp2_with (first | (go_at_call 24; refine HPAD.out.mono ?_; rintro e w' ⟨rfl, rfl⟩) | (go_at_call 39; refine HCNT.out.mono ?_; rintro e w' ⟨rfl, rfl⟩))
            have hq1 : acc.length + 1 ≤ maxLen := by unfold maxLen; omega
            have hq2 : (acc.length + 1) * 24 ≤ 140737488355328 := by omega
            have hq3 : ∀ o : Obj, w.heap.size + 1 ≤ ((wr.drewN nq).drew.alloc o).heap.size := fun o => by simp; omega
            have hq4 : ∀ o : Obj, ((wr.drewN nq).drew.alloc o).heap.size = wr.heap.size + 1 := fun o => by simp
            have hq5 : ∀ o : Obj, ((wr.drewN nq).drew.alloc o).ownsRow (w.heap.size + 1) 62 2 (.slice av nv cv) acc.length (ahsV acc) := fun o => HO.out.alloc o
            have hq6 : ∀ x ∈ ([.int .i64 ((s[j2]'h2m).toNat : Int), .string (s.extract ((i0 : Int) + 3).toNat ((i0 : Int) + 3 + (N : Int)).toNat)] : List Value), x.oneCell' = true := fun x hx => by simp at hx; rcases hx with rfl | rfl <;> rfl
            have hq7 : ∀ j u, ([.int .i64 ((s[j2]'h2m).toNat : Int), .string (s.extract ((i0 : Int) + 3).toNat ((i0 : Int) + 3 + (N : Int)).toNat)] : List Value)[j]? = some u → ((wr.drewN nq).drew.alloc (.cells #[.int .i64 ((s[j2]'h2m).toNat : Int), .string (s.extract ((i0 : Int) + 3).toNat ((i0 : Int) + 3 + (N : Int)).toNat)] 62)).cell? ((⟨wr.heap.size, 0, none⟩ : Addr).add j) = some u := World.news_of_block (heap_alloc_new _ _)
            have G1 := Lib.hid hq1
            have G2 := Lib.hid hq2
            have G3 := Lib.hid hq3
            have G4 := Lib.hid hq4
            have G5 := Lib.hid hq5
            have G6 := Lib.hid hq6
            have G7 := Lib.hid hq7
            have y0 : (0 : Int) ≤ (i0 : Int) + 3 := by omega
            clear hq1 hq2 hq3 hq4 hq5 hq6 hq7
            go_region_held3 (fun _ => True) (trivial) ((refine step_append_lies _ (by rfl) _ _ _ (by rfl) (w.heap.size + 1) 62 i1 (.agg #[.int .i64 0, .string ByteArray.empty]) 2 24 Tryz.underlying38 hi hz0 hz1 hz2 rfl (Nat.succ_pos _) (.slice av nv cv) acc.length (ahsV acc) (by rfl) (G5.out _) ⟨wr.heap.size, 0, none⟩ 1 1 [.int .i64 ((s[j2]'h2m).toNat : Int), .string (s.extract ((i0 : Int) + 3).toNat ((i0 : Int) + 3 + (N : Int)).toNat)] (by rfl) rfl G7.out G6.out (Nat.succ_pos _) G1.out G2.out (G3.out _) (wr.heap.size + 1) (G4.out _) ?_; intro g cap w6 hown6 hgrow6 hat6 hlt6))
            have hE : s.extract ((i0 : Int) + 3).toNat ((i0 : Int) + 3 + (N : Int)).toNat = bs ((s.data.toList.drop (i0 + 3)).take N) := by
              have q1 : ((i0 : Int) + 3).toNat = i0 + 3 := by omega
              have q2 : ((i0 : Int) + 3 + (N : Int)).toNat - (i0 + 3) = N := by omega
              exact bs_eq (by rw [Lib.extract_data, q1, q2])
            have HE := Lib.hid hE
            have HO6 := Lib.hid hown6
            have HG6 := Lib.hid hgrow6
            clear hE hown6 hgrow6 hat6 hlt6
            go_wp2_with fail
            have hPN := HPN.out
            have hown := HST.out.rows
            have hne : ∀ q, (Value.slice av nv cv).ownBlock = some q → w.heap.size + 1 ≤ q := fun q e => (hown.lt q e).1
            refine ⟨⟨i0 + 3 + N + P, acc ++ [(((s.data.toList.getD (i0 + 2) 0).toNat : Int), (s.data.toList.drop (i0 + 3)).take N)], by congr 1; omega, ?_, ?_, ?_, ?_, ?_, ?_⟩, by simp [intOf]; omega⟩
            · exact (below_alloc (below_drewN HST.out.below _) (Nat.le_refl _) _).grown HG6.out (by have := heap_lt HST.out.fault; simp; omega) (fun q e => by have := hne q e; omega)
            · exact (HG6.out.block _ (by have := heap_lt HST.out.fault; simp; omega) (fun e => by have := hne _ e.symm; omega)).trans ((Below.heap_alloc _ _ _ (heap_lt HST.out.fault)).trans HST.out.fault)
            · have hx := HO6.out
              rw [HE.out] at hx
              have hj := HJ2.out
              subst hj
              rw [List.length_append]
              have : ahsV (acc ++ [(((s.data.toList.getD (i0 + 2) 0).toNat : Int), (s.data.toList.drop (i0 + 3)).take N)]) = ahsV acc ++ [.int .i64 ((s[i0 + 2]'h2m).toNat : Int), .string (bs ((s.data.toList.drop (i0 + 3)).take N))] := by
                rw [getD_byte s (i0 + 2) h2m]; simp [ahsV]
              rw [this]
              exact hx
            · rw [HL.out]; omega
            · simp; omega
            · have hr := HUN.out
              rw [if_neg (by omega), ← HC.out, if_neg (by have := H6.out; omega), ← HL.out] at hr
              rw [hr, List.length_append]
              have hF := HFU.out
              have hL := HL.out
              congr 1
              simp only [List.length_cons, List.length_nil]
              omega
          · have h6b : ((C : Int) != p) = true := by simpa using h6
            have H6 := Lib.hid h6
            clear h6
            go_wp2_with (first | (go_at_call 24; refine HPAD.out.mono ?_; rintro e w' ⟨rfl, rfl⟩) | (go_at_call 39; refine HCNT.out.mono ?_; rintro e w' ⟨rfl, rfl⟩) | (refine wpList_store_row rfl 91 _ _ rfl w.heap.size #[.int .i64 3, .int .i64 i0] rfl rfl 91 _ HF2.out faultinfo rfl (by simp [Value.oneCell']) ?_))
            have hr := HUN.out
            rw [if_neg (by have := HPN.out; omega), ← HC.out, if_pos (by have := HPN.out; have := H6.out; omega), ← HL.out] at hr
            refine bodyPost_ret (results_1cell Tryz.results27 _ _ w.heap.size [.int .i64 3, .int .i64 i0] _ rfl (range_of_heap (setRow_heap _ _ _ _ _ _ HF2.out)) Tryz.underlying91 rfl faultinfo) rfl ⟨below_setRow (below_drewN HST.out.below _) (Nat.le_refl _) _, .slice none 0 0, by rw [hr]; rfl, by rw [hr]; exact World.ownsRow_nil _ _ _ _⟩
    · obtain ⟨fu, hfu⟩ : ∃ fu, s.data.toList.length + 1 - acc.length = fu + 1 := ⟨s.data.toList.length - acc.length, by have := HST.out.few; have := HST.out.le; omega⟩
      have hr : ahsRead s.data.toList (s.data.toList.length + 1) 0 [] = (acc, 0, -1) := by
        rw [HST.out.same, hfu, ahsRead, if_pos (by rw [HL.out]; omega)]
      have HR := Lib.hid hr
      clear hr hfu
      obtain ⟨av, nv, cv, rfl⟩ := own_slice HST.out.rows
      go_wp2_with fail
      refine (goodF_any wr).mono ?_
      rintro e w5 ⟨rfl, hb5⟩
      have hF5 : w5.heap[w.heap.size]? = some (.cells #[.int .i64 0, .int .i64 0] 91 (0, 0)) := (hb5.block _ (heap_lt HST.out.fault)).trans HST.out.fault
      have hG5 : wr.grownBy w5 none := ⟨hb5.os, hb5.tape, hb5.output, hb5.size, fun i hi _ => hb5.block i hi⟩
      have hrow := HST.out.rows.kept hG5 (by
        cases hv : (Value.slice av nv cv).ownBlock with
        | none => exact .inl rfl
        | some g => exact .inr (by simp))
      have hbb := HST.out.below.trans (hb5.mono HST.out.below.size)
      have HF5 := Lib.hid hF5
      have HROW := Lib.hid hrow
      have HB5 := Lib.hid hbb
      clear hF5 hrow hbb hb5 hG5
      go_wp2_with (refine wpList_store_row rfl 91 _ _ rfl w.heap.size #[.int .i64 0, .int .i64 (-1)] rfl rfl 91 _ HF5.out faultinfo rfl (by simp [Value.oneCell']) ?_)
      refine bodyPost_ret (results_1cell Tryz.results27 _ _ w.heap.size [.int .i64 0, .int .i64 (-1)] _ rfl (range_of_heap (setRow_heap _ _ _ _ _ _ HF5.out)) Tryz.underlying91 rfl faultinfo) rfl ⟨below_setRow HB5.out (Nat.le_refl _) _, .slice av nv cv, by rw [HR.out]; rfl, ?_⟩
      rw [HR.out]
      have g6 : w5.grownBy (w5.setRow w.heap.size #[.int .i64 0, .int .i64 (-1)]) (some w.heap.size) := ⟨rfl, rfl, rfl, by simp [World.setRow], fun i _ hne => setRow_other w5 _ i _ (fun e => hne (by rw [e]))⟩
      refine own_mono (HROW.out.kept g6 ?_) (Nat.le_succ _)
      cases hv : (Value.slice av nv cv).ownBlock with
      | none => exact .inl rfl
      | some g => exact .inr (fun e => by injection e with e; have := (HROW.out.lt g hv).1; omega)
end Go.Proofs.YtincgdbfmnnpaaaGreatDoor

/- quaymasterref.AhsRead: the whole; Fault.Is. -/
namespace Go.Proofs.YtincgdbfmnnpaaaGreatDoor
open Go.RowKit
def ahsAll (l : List UInt8) : List (Int × List UInt8) × Int × Int := if 1020 < l.length then ([], 4, -1) else ahsRead l (l.length + 1) 0 []
theorem ahsread_any (s : ByteArray) (w : World) : Calls Tryz.prog 27 #[.string s] w fun e w' => Below w.heap.size w w' ∧ ∃ v,
    e = .returned (.tuple #[v, .agg #[.int .i64 (ahsAll s.data.toList).2.1, .int .i64 (ahsAll s.data.toList).2.2]]) ∧ w'.ownsRow w.heap.size 62 2 v (ahsAll s.data.toList).1.length (ahsV (ahsAll s.data.toList).1) := by
  have hlen : s.data.toList.length = s.size := by rw [← Lib.size_eq]
  by_cases h : (1020 : Int) < (s.size : Int)
  · have ha : ahsAll s.data.toList = ([], 4, -1) := by unfold ahsAll; rw [hlen, if_pos (by omega)]
    rw [ha]
    refine (ahsread_long s w h).mono ?_
    rintro e w' ⟨rfl, hb⟩
    exact ⟨hb, _, rfl, World.ownsRow_nil _ _ _ _⟩
  · have ha : ahsAll s.data.toList = ahsRead s.data.toList (s.data.toList.length + 1) 0 [] := by unfold ahsAll; rw [if_neg (by rw [hlen]; omega)]
    rw [ha]
    exact ahsread_short s w h
theorem faultIs_any (c p : Int) (w : World) : Calls Tryz.prog 28 #[.agg #[.int .i64 c, .int .i64 p]] w fun e w' => e = .returned (.bool (c == 0)) ∧ Below w.heap.size w w' := by
  go_enter Tryz.func28, Tryz.ntmps28
  go_wp2_with fail
  go_ret
  exact ⟨rfl, below_alloc (Below.refl _ _) (Nat.le_refl _) _⟩
end Go.Proofs.YtincgdbfmnnpaaaGreatDoor

/- CRC-32C: bit by bit, and by a table. Plain Lean, no program. -/
namespace Go.Proofs.YtincgdbfmnnpaaaGreatDoor
def stepN (n : Nat) : Nat := n / 2 ^^^ (if n % 2 = 1 then 0x82f63b78 else 0)
def steps : Nat → Nat → Nat
  | 0, n => n
  | k + 1, n => stepN (steps k n)
theorem xor_half (a b : Nat) : (a ^^^ b) / 2 = a / 2 ^^^ b / 2 := by
  have := Nat.shiftRight_xor_distrib (a := a) (b := b) (i := 1)
  simpa [Nat.shiftRight_eq_div_pow] using this
theorem xor_mod (a b : Nat) : (a ^^^ b) % 2 = (a % 2) ^^^ (b % 2) := by
  have := Nat.xor_mod_two_pow (a := a) (b := b) (n := 1)
  simpa using this
theorem stepN_xor (a b : Nat) : stepN (a ^^^ b) = stepN a ^^^ stepN b := by
  unfold stepN
  rw [xor_half, xor_mod]
  rcases Nat.mod_two_eq_zero_or_one a with ha | ha <;> rcases Nat.mod_two_eq_zero_or_one b with hb | hb <;> simp [ha, hb]
  · rw [Nat.xor_assoc]
  · rw [Nat.xor_assoc, Nat.xor_assoc, Nat.xor_comm (b/2)]
  · rw [Nat.xor_assoc, Nat.xor_comm 2197175160, Nat.xor_assoc, Nat.xor_self]; simp
theorem steps_xor (k a b : Nat) : steps k (a ^^^ b) = steps k a ^^^ steps k b := by
  induction k with
  | zero => rfl
  | succ k ih => simp only [steps]; rw [ih, stepN_xor]
theorem steps_in (k n : Nat) : steps (k + 1) n = steps k (stepN n) := by
  induction k with
  | zero => rfl
  | succ k ih => rw [steps, ih]; rfl
theorem steps_shift (k a : Nat) : steps k (a * 2 ^ k) = a := by
  induction k generalizing a with
  | zero => simp [steps]
  | succ k ih =>
    rw [steps_in]
    have : stepN (a * 2 ^ (k+1)) = a * 2 ^ k := by
      unfold stepN
      have e : a * 2 ^ (k+1) = 2 * (a * 2 ^ k) := by rw [Nat.pow_succ]; rw [Nat.mul_comm (2^k) 2, ← Nat.mul_assoc, Nat.mul_comm a 2, Nat.mul_assoc]
      rw [e]
      simp
    rw [this, ih]
/-- a number's low bits, and the rest -/
theorem split_bits (k n : Nat) : n = (n % 2 ^ k) ^^^ (n / 2 ^ k * 2 ^ k) := by
  apply Nat.eq_of_testBit_eq
  intro i
  rw [Nat.testBit_xor, Nat.testBit_mod_two_pow, Nat.testBit_mul_two_pow, Nat.testBit_div_two_pow]
  by_cases hi : i < k
  · have h8 : ¬ k ≤ i := by omega
    simp [hi, h8]
  · have h8 : k ≤ i := by omega
    simp [hi, h8]
theorem steps8 (n c : Nat) (hc : c < 256) : steps 8 ((n % 256) ^^^ c) ^^^ n / 256 = steps 8 (n ^^^ c) := by
  conv => rhs; rw [split_bits 8 n]
  rw [Nat.xor_assoc, Nat.xor_comm (n / 2 ^ 8 * 2 ^ 8) c, ← Nat.xor_assoc, steps_xor 8 (n % 2 ^ 8 ^^^ c), steps_shift]
def feedB (n c : Nat) : Nat → Nat
  | 0 => n
  | k + 1 => stepN (feedB n c k ^^^ (c / 2 ^ k % 2))
theorem mod_succ (c k : Nat) : c % 2 ^ (k + 1) = (c % 2 ^ k) ^^^ (c / 2 ^ k % 2 * 2 ^ k) := by
  have h := split_bits k (c % 2 ^ (k + 1))
  have h1 : c % 2 ^ (k + 1) % 2 ^ k = c % 2 ^ k := Nat.mod_mod_of_dvd _ ⟨2, by rw [Nat.pow_succ]⟩
  have h2 : c % 2 ^ (k + 1) / 2 ^ k = c / 2 ^ k % 2 := by
    rw [Nat.pow_succ, Nat.mod_mul_right_div_self]
  rw [h1, h2] at h
  exact h
theorem feedB_eq (n c k : Nat) : feedB n c k = steps k (n ^^^ (c % 2 ^ k)) := by
  induction k with
  | zero => simp [feedB, steps, Nat.mod_one]
  | succ k ih =>
    rw [feedB, ih, steps, mod_succ, ← Nat.xor_assoc, steps_xor k (n ^^^ c % 2 ^ k), steps_shift]
def crcFold (l : List UInt8) : Nat := l.foldl (fun n c => steps 8 (n ^^^ c.toNat)) 4294967295
theorem crcFold_snoc (l : List UInt8) (c : UInt8) : crcFold (l ++ [c]) = steps 8 (crcFold l ^^^ c.toNat) := by simp [crcFold]
def refSt (l : List UInt8) (i : Nat) : Nat := feedB (crcFold (l.take (i / 8))) (l.getD (i / 8) 0).toNat (i % 8)
theorem refSt_succ (l : List UInt8) (i : Nat) (h : i / 8 < l.length) : refSt l (i + 1) = stepN (refSt l i ^^^ ((l.getD (i / 8) 0).toNat / 2 ^ (i % 8) % 2)) := by
  by_cases h7 : i % 8 = 7
  · have e1 : (i + 1) / 8 = i / 8 + 1 := by omega
    have e2 : (i + 1) % 8 = 0 := by omega
    rw [refSt, e1, e2, feedB, List.take_succ_eq_append_getElem h, crcFold_snoc]
    rw [refSt, h7]
    show _ = feedB _ _ 8
    rw [feedB_eq, List.getD_eq_getElem?_getD, List.getElem?_eq_getElem h]
    have := (l[i/8]).toNat_lt
    simp only [Option.getD_some]
    rw [Nat.mod_eq_of_lt (by omega : l[i/8].toNat < 2 ^ 8)]
  · have e1 : (i + 1) / 8 = i / 8 := by omega
    have e2 : (i + 1) % 8 = i % 8 + 1 := by omega
    rw [refSt, e1, e2, feedB]; rfl
theorem refSt_end (l : List UInt8) : refSt l (8 * l.length) = crcFold l := by
  rw [refSt, Nat.mul_div_cancel_left _ (by decide), Nat.mul_mod_right, feedB, List.take_length]
end Go.Proofs.YtincgdbfmnnpaaaGreatDoor

/- crc.table, Sum, Digest; quaymasterref.Crc, Digest. -/
namespace Go.Proofs.YtincgdbfmnnpaaaGreatDoor
open Go.RowKit
theorem stepN_le {n : Nat} (h : n ≤ 4294967295) : stepN n ≤ 4294967295 := by
  unfold stepN
  have : (n / 2 ^^^ (if n % 2 = 1 then 0x82f63b78 else 0)) < 2 ^ 32 := by
    refine Nat.xor_lt_two_pow (by omega) ?_
    split <;> decide
  omega
theorem steps_le {k n : Nat} (h : n ≤ 4294967295) : steps k n ≤ 4294967295 := by
  induction k with
  | zero => exact h
  | succ k ih => exact stepN_le ih
/-- the step, as the text reckons it -/
theorem step_bits (n : Nat) (h : n ≤ 4294967295) : bits .xor .u32 ((n : Int) / 2) (bits .and .u32 (-(bits .and .u32 (n : Int) 1) % 4294967296) 2197175160) = ((stepN n : Nat) : Int) := by
  have h1 : bits .and .u32 (n : Int) 1 = ((n % 2 : Nat) : Int) := by
    have := u32_and_nat n 1 (by omega) (by omega)
    rw [nat_mask1] at this
    exact this
  have h2 : ((n : Int) / 2) = ((n / 2 : Nat) : Int) := by omega
  rw [h1, h2]
  unfold stepN
  rcases Nat.mod_two_eq_zero_or_one n with h0 | h0
  · rw [h0]
    have : bits .and .u32 (-((0 : Nat) : Int) % 4294967296) 2197175160 = ((0 : Nat) : Int) := by decide
    rw [this, u32_xor_nat _ _ (by omega) (by omega)]
    simp
  · rw [h0]
    have : bits .and .u32 (-((1 : Nat) : Int) % 4294967296) 2197175160 = ((2197175160 : Nat) : Int) := by decide
    rw [this, u32_xor_nat _ _ (by omega) (by omega)]
    simp
def crcTab : List Value := (List.range 256).map fun j => Value.int .u32 (steps 8 j : Nat)
theorem crcTab_at (j : Nat) (h : j < 256) : crcTab.toArray[j]? = some (.int .u32 (steps 8 j : Nat)) := by
  simp [crcTab, h]
theorem crcTab_size : crcTab.toArray.size = 256 := by simp [crcTab]
theorem crcTab_one : crcTab.toArray.all (·.oneCell') = true := by
  simp [crcTab, Value.oneCell']
theorem crcTab_of {cs : Array Value} (hs : cs.size = 256) (h : ∀ j, j < 256 → cs[j]? = some (.int .u32 (steps 8 j : Nat))) : cs = crcTab.toArray := by
  apply Array.ext_getElem?
  intro j
  by_cases hj : j < 256
  · rw [h j hj, crcTab_at j hj]
  · rw [Array.getElem?_eq_none (by omega), Array.getElem?_eq_none (by rw [crcTab_size]; omega)]
theorem crc_info : (Tryz.prog.info? 149).map (·.size) = some 256 := by kernel_rfl
theorem zero_size : Tryz.zeroCells149.size = 256 := by kernel_rfl
set_option maxRecDepth 100000 in
set_option maxHeartbeats 1000000 in
theorem table_any (w : World) : Calls Tryz.prog 63 #[] w fun e w' => e = .returned (.agg crcTab.toArray) ∧ Below w.heap.size w w' := by
  go_enter Tryz.func63, Tryz.ntmps63
  go_wp2_with fail
  obtain ⟨Z, hZ⟩ : ∃ Z, Z = Tryz.zeroCells149 := ⟨_, rfl⟩
  rw [← hZ]
  have hZs : Z.size = 256 := by rw [hZ]; exact zero_size
  clear hZ
  go_loopw [4] (fun i wr => ∃ (k : Nat) (cs : Array Value), k ≤ 256 ∧ i = .int .i64 k ∧ wr.heap[w.heap.size + 1]? = some (.cells cs 149 (0, 0)) ∧ wr.heap[w.heap.size]? = some (.cells Z 149 (0, 0)) ∧ cs.size = 256 ∧ (∀ j, j < k → cs[j]? = some (.int .u32 (steps 8 j : Nat))) ∧ Below w.heap.size w wr) (fun i _ => 256 - (intOf i).toNat)
  case atStart => exact ⟨0, Z, by omega, rfl, heap_alloc2_new _ _ _, heap_alloc2_old _ _ _, hZs, fun j h => by omega, ((Below.refl _ _).alloc (Nat.le_refl _) _).alloc (by simp) _⟩
  case round =>
    obtain ⟨k, cs, hk, rfl, hcs, hc0, hsz, hj, hbl⟩ := hrel
    have HJ := Lib.hid hj
    clear hj
    by_cases hlt : k < 256
    · have hcell : ∃ v, wr.cell? ⟨w.heap.size + 1, k, none⟩ = some v := ⟨_, by rw [cell_of_row wr _ k cs _ _ hcs]; exact Array.getElem?_eq_getElem (by omega)⟩
      obtain ⟨v, hcell⟩ := hcell
      have hfz := frozen_of_row wr (w.heap.size + 1) k cs 149 hcs
      have HC := Lib.hid hcs
      have HC0 := Lib.hid hc0
      have HS := Lib.hid hsz
      clear hcs hc0 hsz
      go_wp2_with fail
      go_loop [3, 9] (fun n i => ∃ q : Nat, q ≤ 8 ∧ i = .int .i64 q ∧ n = .int .u32 (steps q k : Nat)) (fun _ i => 8 - (intOf i).toNat)
      case atStart => exact ⟨0, by omega, rfl, rfl⟩
      case round =>
        obtain ⟨q, hq, rfl, rfl⟩ := hrel
        have hle := steps_le (k := q) (n := k) (by omega)
        by_cases hq8 : q < 8
        · go_wp2_with fail
          refine ⟨⟨q + 1, by omega, by go_num, ?_⟩, by simp [intOf]; omega⟩
          have := step_bits (steps q k) hle
          show _ = Value.int .u32 ((stepN (steps q k) : Nat) : Int)
          rw [← this]
        · obtain rfl : q = 8 := by omega
          go_wp2_with fail
          refine ⟨⟨k + 1, cs.setIfInBounds k (.int .u32 (steps 8 k : Nat)), by omega, by go_num, ?_, ?_, by simp [HS.out], ?_, ?_⟩, by simp [intOf]; omega⟩
          · exact heap_setCell_same wr _ k cs _ _ HC.out
          · exact (heap_setCell_other wr _ _ _ (by simp)).trans HC0.out
          · intro j hjk
            rw [Array.getElem?_setIfInBounds]
            by_cases e : k = j
            · subst e; rw [if_pos rfl, if_pos (by rw [HS.out]; omega)]
            · rw [if_neg e]; exact HJ.out j (by omega)
          · exact hbl.setCell (p := ⟨w.heap.size + 1, k, none⟩) (by simp) _
    · obtain rfl : k = 256 := by omega
      obtain rfl := crcTab_of hsz HJ.out
      have hi : (Tryz.prog.info? 149).map (·.size) = some crcTab.toArray.size := by rw [crcTab_size]; exact crc_info
      generalize hG : crcTab.toArray = G at *
      have HG := Lib.hid hG
      clear hG HJ
      go_wp2_with (first
        | (refine wpList_load_row rfl 149 _ rfl (w.heap.size + 1) rfl 149 G _ _ hcs Tryz.underlying149 rfl hi ?_)
        | (refine wpList_store_row rfl 149 _ _ rfl w.heap.size G rfl rfl 149 Z hc0 hi (by rw [hZs, hsz]) (by rw [← HG.out]; exact crcTab_one) ?_))
      refine bodyPost_ret (results_cell_row rfl _ _ w.heap.size 149 G (0, 0) _ rfl (setRow_heap _ _ _ _ _ _ hc0) Tryz.underlying149 rfl hi) rfl ?_
      rw [HG.out]
      exact ⟨rfl, below_setRow hbl (Nat.le_refl _) _⟩
end Go.Proofs.YtincgdbfmnnpaaaGreatDoor

/- crc.Sum, quaymasterref.Crc. -/
namespace Go.Proofs.YtincgdbfmnnpaaaGreatDoor
open Go.RowKit
def crcN (l : List UInt8) : Nat := 4294967295 - crcFold l
theorem crcFold_le : ∀ (l : List UInt8), crcFold l ≤ 4294967295 := by
  intro l
  unfold crcFold
  suffices h : ∀ (l : List UInt8) (n : Nat), n ≤ 4294967295 → l.foldl (fun n c => steps 8 (n ^^^ c.toNat)) n ≤ 4294967295 from h l _ (by omega)
  intro l
  induction l with
  | nil => intro n h; exact h
  | cons c l ih =>
    intro n h
    refine ih _ (steps_le ?_)
    have := c.toNat_lt
    have : n ^^^ c.toNat < 2 ^ 32 := Nat.xor_lt_two_pow (by omega) (by omega)
    omega
theorem not_u32 (n : Nat) (h : n ≤ 4294967295) : bits .xor .u32 IntKind.u32.max (n : Int) = ((4294967295 - n : Nat) : Int) := by
  show IntKind.u32.wrap ((BitVec.ofInt 32 4294967295 ^^^ BitVec.ofInt 32 (n : Int)).toNat : Int) = _
  have e : BitVec.ofInt 32 4294967295 = BitVec.allOnes 32 := by decide
  rw [e, BitVec.allOnes_xor, BitVec.toNat_not, BitVec.ofInt_natCast, BitVec.toNat_ofNat, Nat.mod_eq_of_lt (by omega), IntKind.wrap_u32']
  omega
set_option maxRecDepth 100000 in
set_option maxHeartbeats 1000000 in
theorem sum_any (s : ByteArray) (w : World) (hs : s.size ≤ 140737488355328) : Calls Tryz.prog 42 #[.string s] w fun e w' => e = .returned (.int .u32 (crcN s.data.toList : Nat)) ∧ Below w.heap.size w w' := by
  go_enter Tryz.func42, Tryz.ntmps42
  go_wp2_with fail
  refine (table_any _).mono ?_
  rintro e w1 ⟨rfl, hb1⟩
  have hi : (Tryz.prog.info? 149).map (·.size) = some crcTab.toArray.size := by rw [crcTab_size]; exact crc_info
  obtain ⟨G, hG⟩ : ∃ G, G = crcTab.toArray := ⟨_, rfl⟩
  have HG := Lib.hid hG
  rw [← hG] at hi ⊢
  clear hG
  have hz := heap_alloc_new w1 (.cells Tryz.zeroCells149 149)
  have hsz : Tryz.zeroCells149.size = G.size := by rw [HG.out, crcTab_size]; exact zero_size
  go_wp2_with (refine wpList_store_row rfl 149 _ _ rfl w1.heap.size G rfl rfl 149 _ hz hi hsz (by rw [HG.out]; exact crcTab_one) ?_)
  obtain ⟨w2, hw2⟩ : ∃ w2, w2 = (w1.alloc (.cells Tryz.zeroCells149 149)).setRow w1.heap.size G := ⟨_, rfl⟩
  have hr2 : w2.heap[w1.heap.size]? = some (.cells G 149 (0, 0)) := by rw [hw2]; exact setRow_heap _ _ _ _ _ _ hz
  have hb2 : Below w.heap.size w w2 := by rw [hw2]; exact below_setRow ((hb1.trans ((Below.refl _ _).alloc hb1.size _))) hb1.size _
  rw [← hw2]
  clear hw2 hz hsz
  have hcell : ∀ j, j < 256 → w2.cell? ⟨w1.heap.size, j, none⟩ = some (.int .u32 (steps 8 j : Nat)) := fun j hj => by
    rw [cell_of_row w2 _ j G _ _ hr2, HG.out]; exact crcTab_at j hj
  have HC := Lib.hid hcell
  clear hcell hr2 hi
  go_loop [4, 9] (fun n i => ∃ k : Nat, k ≤ s.size ∧ i = .int .i64 k ∧ n = .int .u32 (crcFold (s.data.toList.take k) : Nat)) (fun _ i => s.size - (intOf i).toNat)
  case atStart => exact ⟨0, by omega, rfl, rfl⟩
  case round =>
    obtain ⟨k, hk, rfl, rfl⟩ := hrel
    have hle := crcFold_le (s.data.toList.take k)
    by_cases hlt : k < s.size
    · have hx : (crcFold (s.data.toList.take k) % 256) ^^^ (s[k]).toNat < 256 := Nat.xor_lt_two_pow (n := 8) (by omega) s[k].toNat_lt
      have hc1 := HC.out _ hx
      have hxx : bits .xor .u8 ((crcFold (s.data.toList.take k) : Int) % 256) (s[k].toNat : Int) = (((crcFold (s.data.toList.take k) % 256) ^^^ (s[k]).toNat : Nat) : Int) := by
        rw [← u8_xor_nat _ _ (by omega) s[k].toNat_lt]; simp
      go_wp2_with fail
      refine ⟨⟨k + 1, by omega, by go_num, ?_⟩, by simp [intOf]; omega⟩
      have h8 := steps_le (k := 8) (n := crcFold (s.data.toList.take k) % 256 ^^^ s[k].toNat) (by omega)
      have e : ((crcFold (s.data.toList.take k) : Int) / 256) = ((crcFold (s.data.toList.take k) / 256 : Nat) : Int) := by omega
      rw [take_snoc s k hlt, crcFold_snoc, e, u32_xor_nat _ _ (by omega) (by omega), steps8 _ _ s[k].toNat_lt]
    · obtain rfl : k = s.size := by omega
      rw [take_all s _ (Nat.le_refl _)]
      rw [take_all s _ (Nat.le_refl _)] at hle
      have hsg : IntKind.u32.signed = false := rfl
      have hnn := not_u32 _ hle
      go_wp2_with fail
      go_ret
      exact ⟨rfl, hb2⟩
theorem byte_nat (c : UInt8) : c.toNat < 256 := c.toNat_lt
theorem refSt_le (l : List UInt8) (i : Nat) : refSt l i ≤ 4294967295 := by
  rw [refSt, feedB_eq]
  refine steps_le ?_
  have h1 := crcFold_le (l.take (i / 8))
  have h2 : (l.getD (i / 8) 0).toNat % 2 ^ (i % 8) ≤ (l.getD (i / 8) 0).toNat := Nat.mod_le _ _
  have h3 := byte_nat (l.getD (i / 8) 0)
  have := Nat.xor_lt_two_pow (n := 32) (x := crcFold (l.take (i / 8))) (y := (l.getD (i / 8) 0).toNat % 2 ^ (i % 8)) (by omega) (by omega)
  omega
theorem and1_u32 (n : Nat) (h : n ≤ 4294967295) : bits .and .u32 (n : Int) 1 = ((n % 2 : Nat) : Int) := by
  have := u32_and_nat n 1 (by omega) (by omega)
  rw [nat_mask1] at this
  exact this
theorem low_eq (N c q : Nat) (hN : N ≤ 4294967295) (hc : c < 256) :
    bits .xor .u32 (bits .and .u32 (N : Int) 1) (bits .and .u32 ((c : Int) / 2 ^ q % 4294967296) 1) = ((N % 2 ^^^ (c / 2 ^ q % 2) : Nat) : Int) := by
  have h1 : (c : Int) / 2 ^ q % 4294967296 = ((c / 2 ^ q : Nat) : Int) := by
    have h : c / 2 ^ q ≤ c := Nat.div_le_self _ _
    have e : ((c / 2 ^ q : Nat) : Int) = (c : Int) / 2 ^ q := by simp
    rw [← e]
    generalize c / 2 ^ q = d at h ⊢
    omega
  have : c / 2 ^ q ≤ c := Nat.div_le_self _ _
  rw [h1, and1_u32 _ hN, and1_u32 _ (by omega), u32_xor_nat _ _ (by omega) (by omega)]
theorem stepN_bit (N b : Nat) (hb : b < 2) : stepN (N ^^^ b) = N / 2 ^^^ (if N % 2 ^^^ b = 1 then 2197175160 else 0) := by
  unfold stepN
  rw [xor_half, xor_mod, Nat.div_eq_of_lt hb, Nat.xor_zero, Nat.mod_eq_of_lt hb]
set_option maxRecDepth 100000 in
set_option maxHeartbeats 1000000 in
theorem refcrc_any (s : ByteArray) (w : World) (hs : s.size ≤ 140737488355328) : Calls Tryz.prog 36 #[.string s] w fun e w' => e = .returned (.int .u32 (crcN s.data.toList : Nat)) ∧ w' = w := by
  go_enter Tryz.func36, Tryz.ntmps36
  go_wp2_with fail
  go_loop [3, 9] (fun n i => ∃ k : Nat, k ≤ 8 * s.size ∧ i = .int .i64 k ∧ n = .int .u32 (refSt s.data.toList k : Nat)) (fun _ i => 8 * s.size - (intOf i).toNat)
  case atStart => exact ⟨0, by omega, rfl, rfl⟩
  case round =>
    obtain ⟨k, hk, rfl, rfl⟩ := hrel
    obtain ⟨N, hN⟩ : ∃ N, N = refSt s.data.toList k := ⟨_, rfl⟩
    have hle : refSt s.data.toList k ≤ 4294967295 := refSt_le _ _
    rw [← hN] at hle ⊢
    have HN := Lib.hid hN
    clear hN
    by_cases hlt : k < 8 * s.size
    · have hk8 : k / 8 < s.size := by omega
      have hi1 : ((k / 8 : Nat) : Int) < (s.size : Int) := by omega
      go_wp2_with fail
      all_goals rename_i hx
      all_goals rw [low_eq _ _ _ hle (byte_nat _)] at hx
      all_goals
        refine ⟨⟨k + 1, by omega, by go_num, ?_⟩, by simp [intOf]; omega⟩
        have h2 : (N : Int) / 2 = ((N / 2 : Nat) : Int) := by omega
        have hg : s.data.toList.getD (k / 8) 0 = s[k / 8] := list_at s _ hk8
        rw [refSt_succ _ _ (by rw [← Lib.size_eq]; exact hk8), ← HN.out, hg, stepN_bit _ _ (Nat.mod_lt _ (by decide)), h2]
        generalize N % 2 ^^^ (s[k / 8].toNat / 2 ^ (k % 8) % 2) = low at hx
        by_cases h1 : low = 1
        · subst h1
          first
            | (simp at hx; done)
            | (rw [if_pos rfl, show (2197175160 : Int) = ((2197175160 : Nat) : Int) from rfl, u32_xor_nat _ _ (by omega) (by omega)])
        · first
            | (rw [if_neg h1, Nat.xor_zero]; done)
            | (exfalso; simp at hx; omega)
    · obtain rfl : k = 8 * s.size := by omega
      have hsg : IntKind.u32.signed = false := rfl
      have hnn := not_u32 _ hle
      have HE : Hid (N = crcFold s.data.toList) := by rw [HN.out, Lib.size_eq]; exact refSt_end _
      go_wp2_with fail
      go_ret
      refine ⟨?_, rfl⟩
      rw [crcN, ← HE.out]
      rfl
end Go.Proofs.YtincgdbfmnnpaaaGreatDoor

/- string(b); crc.Digest, quaymasterref.Digest. -/
namespace Go.Proofs.YtincgdbfmnnpaaaGreatDoor
open Go.RowKit
theorem push_bs (l : List UInt8) (c : UInt8) : (bs l).push c = bs (l ++ [c]) := by
  unfold bs
  show (⟨l.toArray.push c⟩ : ByteArray) = _
  simp
theorem fold_push : ∀ (m l : List UInt8), (m.map fun c => (c.toNat : Int)).foldl (fun r n => r.push (UInt8.ofNat n.toNat)) (bs l) = bs (l ++ m)
  | [], l => by simp
  | c :: m, l => by
    simp only [List.map_cons, List.foldl_cons]
    rw [Int.toNat_natCast, UInt8.ofNat_toNat, push_bs, fold_push m (l ++ [c])]
    simp
/-- string(b) of bytes that are known. -/
theorem conv_str (w : World) (ad : Addr) (n cap : Nat) (l : List UInt8) (hl : l.length = n) (hc : ∀ j (h : j < l.length), w.cell? (ad.add j) = some (.int .u8 (l[j].toNat : Int))) :
    (convert 84 9 (.slice (some ad) n cap)).run Tryz.prog w = .ok (.string (bs l)) w := by
  rw [run_convert_bytes_string w _ _ 5 _ _ _ Tryz.underlying84 Tryz.underlying5 Tryz.underlying9]
  rw [run_bytesToString w ad n cap (l.map fun c => (c.toNat : Int)) ?_]
  · rw [show ByteArray.empty = bs [] from rfl, fold_push]
    simp
  · have := run_loadCells_list (P := Tryz.prog) w ad ((l.map fun c => (c.toNat : Int)).map (Value.int .u8)) (fun j v hv => by
      simp only [List.getElem?_map] at hv
      by_cases h : j < l.length
      · rw [List.getElem?_eq_getElem h] at hv
        simp at hv
        rw [hc j h, hv]
      · rw [List.getElem?_eq_none (by omega)] at hv
        simp at hv)
    simpa [hl] using this
theorem conv_str_nil (w : World) (n cap : Nat) : (convert 84 9 (.slice none n cap)).run Tryz.prog w = .ok (.string (bs [])) w := by
  rw [run_convert_bytes_string w _ _ 5 _ _ _ Tryz.underlying84 Tryz.underlying5 Tryz.underlying9]
  rfl
theorem addr_add0 (b i j : Nat) : (⟨b, i, none⟩ : Addr).add j = ⟨b, i + j, none⟩ := by unfold Addr.add; split <;> simp_all
/-- string([]byte{..}) -/
theorem conv_str_new (w : World) (l : List UInt8) (vs : Array Value) (h : vs = (l.map fun c => Value.int .u8 (c.toNat : Int)).toArray) (n cap : Nat) (hn : l.length = n) :
    (convert 84 9 (.slice (some ⟨w.heap.size, 0, none⟩) n cap)).run Tryz.prog (w.alloc (.cells vs 5)) = .ok (.string (bs l)) (w.alloc (.cells vs 5)) :=
  conv_str _ _ _ _ l hn fun j hj => by
    rw [addr_add0, World.cell?_alloc_at _ _ _ _ rfl, h]
    simp [hj]
theorem bs_append (a b : List UInt8) : bs a ++ bs b = bs (a ++ b) := by
  apply ByteArray.ext
  apply Array.toList_inj.1
  rw [ByteArray.data_append, Array.toList_append]
  rfl
def le4 (n : Nat) : List UInt8 := [UInt8.ofNat (n % 256), UInt8.ofNat (n / 256 % 256), UInt8.ofNat (n / 65536 % 256), UInt8.ofNat (n / 16777216 % 256)]
def digest (l : List UInt8) : List UInt8 := le4 (crcN l)
theorem crcN_le (l : List UInt8) : crcN l ≤ 4294967295 := by unfold crcN; omega
theorem ofNat_byte (n : Nat) (h : n < 256) : ((UInt8.ofNat n).toNat : Int) = n := by
  rw [UInt8.toNat_ofNat']; omega
set_option maxRecDepth 100000 in
theorem digest_any (s : ByteArray) (w : World) (hs : s.size ≤ 140737488355328) : Calls Tryz.prog 31 #[.string s] w fun e w' => e = .returned (.string (bs (digest s.data.toList))) ∧ Below w.heap.size w w' := by
  have hle := crcN_le s.data.toList
  go_enter Tryz.func31, Tryz.ntmps31
  go_wp2_with fail
  refine (sum_any _ _ hs).mono ?_
  rintro e w1 ⟨rfl, hb1⟩
  obtain ⟨N, hN⟩ : ∃ N, N = crcN s.data.toList := ⟨_, rfl⟩
  rw [← hN] at hle ⊢
  have HN := Lib.hid hN
  clear hN
  go_wp2_with fail
  rw [conv_str_new w1 (le4 N) _ (by
    simp only [le4, List.map_cons, List.map_nil]
    rw [ofNat_byte _ (by omega), ofNat_byte _ (by omega), ofNat_byte _ (by omega), ofNat_byte _ (by omega)]
    simp
    omega) 4 4 rfl]
  go_wp2
  go_ret
  refine ⟨?_, hb1.trans ((Below.refl _ _).alloc hb1.size _)⟩
  rw [digest, ← HN.out]
  rfl
set_option maxRecDepth 100000 in
theorem refdigest_any (s : ByteArray) (w : World) (hs : s.size ≤ 140737488355328) : Calls Tryz.prog 25 #[.string s] w fun e w' => e = .returned (.string (bs (digest s.data.toList))) ∧ Below w.heap.size w w' := by
  have hle := crcN_le s.data.toList
  go_enter Tryz.func25, Tryz.ntmps25
  go_wp2_with fail
  refine (refcrc_any _ _ hs).mono ?_
  rintro e w1 ⟨rfl, hw⟩
  obtain rfl : w = w1 := hw.symm
  obtain ⟨N, hN⟩ : ∃ N, N = crcN s.data.toList := ⟨_, rfl⟩
  rw [← hN] at hle ⊢
  have HN := Lib.hid hN
  clear hN
  go_wp2_with fail
  go_loopw [3, 4, 7] (fun n t i wr => ∃ k : Nat, k ≤ 4 ∧ i = .int .i64 k ∧ n = .int .u32 (N / 256 ^ k : Nat) ∧ t = .string (bs ((le4 N).take k)) ∧ Below w.heap.size w wr) (fun _ _ i _ => 4 - (intOf i).toNat)
  case atStart => exact ⟨0, by omega, rfl, by simp, rfl, Below.refl _ _⟩
  case round =>
    obtain ⟨k, hk, rfl, rfl, rfl, hb⟩ := hrel
    by_cases hlt : k < 4
    · have hD : N / 256 ^ k ≤ N := Nat.div_le_self _ _
      obtain ⟨M, hM⟩ : ∃ M, M = N / 256 ^ k := ⟨_, rfl⟩
      rw [← hM] at hD ⊢
      have HM := Lib.hid hM
      clear hM
      have hle2 : M ≤ 4294967295 := by omega
      go_wp2_with fail
      rw [conv_str_new wr [UInt8.ofNat (M % 256)] _ (by
        simp only [List.map_cons, List.map_nil]
        rw [ofNat_byte _ (by omega)]
        simp) 1 1 rfl]
      have hz1 : (bs (List.take k (le4 N))).size ≤ 4 := by rw [bs_size]; exact Nat.le_trans (List.length_take_le _ _) (by omega)
      have hz2 : (bs [UInt8.ofNat (M % 256)]).size ≤ 1 := by rw [bs_size]; simp
      go_wp2_with fail
      refine ⟨⟨k + 1, by omega, by go_num, ?_, ?_, hb.trans ((Below.refl _ _).alloc hb.size _)⟩, by simp [intOf]; omega⟩
      · congr 1
        rw [Nat.pow_succ, ← Nat.div_div_eq_div_mul, ← HM.out]
        omega
      · congr 1
        rw [bs_append]
        congr 1
        have : (le4 N)[k]? = some (UInt8.ofNat (M % 256)) := by
          rw [HM.out]
          match k, hlt with
          | 0, _ => simp [le4]
          | 1, _ => simp [le4]
          | 2, _ => simp [le4]
          | 3, _ => simp [le4]
        rw [List.take_add_one, this]
        rfl
    · obtain rfl : k = 4 := by omega
      go_wp2_with fail
      go_ret
      refine ⟨?_, hb⟩
      rw [digest, ← HN.out]
      rfl
end Go.Proofs.YtincgdbfmnnpaaaGreatDoor

/- What a PDU's reading answers, the order of the errors: the spec for quaymasterref.PduRead (and pdu.Read). -/
namespace Go.Proofs.YtincgdbfmnnpaaaGreatDoor
open Go.RowKit
/-- The bytes of the PDU. -/
def pduAll (l : List UInt8) (mode : Int) : List UInt8 := l.take (pduSize l mode).1.toNat
def pduEnd (l : List UInt8) : Nat := 48 + 4 * hw4 l
/-- What stands behind head, additions and their digest. -/
def pduRest (l : List UInt8) (mode : Int) : List UInt8 := if mode % 2 = 1 then ((pduAll l mode).drop (pduEnd l)).drop 4 else (pduAll l mode).drop (pduEnd l)
def pduErr (l : List UInt8) (mode : Int) : Int :=
  if (pduSize l mode).2 ≠ 0 then (pduSize l mode).2
  else if (l.length : Int) < (pduSize l mode).1 then 7
  else if mode % 2 = 1 ∧ ((pduAll l mode).drop (pduEnd l)).take 4 ≠ digest ((pduAll l mode).take (pduEnd l)) then 15
  else if headErr ((pduAll l mode).take 48) ≠ 0 then headErr ((pduAll l mode).take 48)
  else if (ahsAll (((pduAll l mode).take (pduEnd l)).drop 48)).2.1 ≠ 0 then (ahsAll (((pduAll l mode).take (pduEnd l)).drop 48)).2.1
  else if (unpad (pduRest l mode) (dlen l)).2.2 ≠ 0 then (unpad (pduRest l mode) (dlen l)).2.2
  else if (unpad (pduRest l mode) (dlen l)).2.1 < (pduRest l mode).length ∧
      (pduRest l mode).drop (unpad (pduRest l mode) (dlen l)).2.1.toNat ≠ digest ((pduRest l mode).take (unpad (pduRest l mode) (dlen l)).2.1.toNat) then 13
  else if 100000 < dlen l then 4 else 0
end Go.Proofs.YtincgdbfmnnpaaaGreatDoor

/- quaymasterref.PduRead: the refusals. UNFINISHED. -/
namespace Go.Proofs.YtincgdbfmnnpaaaGreatDoor
open Go.RowKit
def pzL : List Value := [.int .i64 0, .bool false, .int .i64 0, .slice none 0 0, .slice none 0 0, .string ⟨#[]⟩]
theorem pduinfo : (Tryz.prog.info? 40).map (·.size) = some 6 := by kernel_rfl
theorem results_cell2 {P : Program} {fn : Func} {p t1 t2 : Tmp} {ty : TypeId} (h : fn.results = #[.cell p ty, .tmp t1, .tmp t2]) (tmps : Array Value) (w : World) (g : Nat) (cs : List Value) (d : TypeDesc)
    (hp : tmps.getD p undef = .pointer (some ⟨g, 0, none⟩)) (hg : w.rangeAt g 0 cs) (hu : P.underlying ty = some d) (hd : d.isRow = true) (hi : (P.info? ty).map (·.size) = some cs.length) :
    (results fn tmps).run P w = .ok (.tuple #[.agg cs.toArray, tmps.getD t1 undef, tmps.getD t2 undef]) w := by
  have hp' : tmps[p]?.getD undef = .pointer (some ⟨g, 0, none⟩) := by simpa using hp
  simp [results, h, hp', asAddr, run_loadVar_mid w g 0 ty cs d hg hu hd hi]
set_option maxRecDepth 100000 in
theorem pduread_size (s : ByteArray) (mode : Int) (w : World) (hs : s.size ≤ 140737488355328) (h : ((pduSize s.data.toList mode).2 != 0) = true) : Calls Tryz.prog 18 #[.string s, .int .i64 mode] w fun e w' =>
    e = .returned (.tuple #[.agg pzL.toArray, .int .i64 0, .int .i64 (pduSize s.data.toList mode).2]) ∧ Below w.heap.size w w' := by
  go_enter Tryz.func18, Tryz.ntmps18
  go_wp2_with fail
  refine (refsize_any s mode _ hs).mono ?_
  rintro e w1 ⟨rfl, hb⟩
  obtain ⟨z, hz⟩ : ∃ z, z = (pduSize s.data.toList mode).2 := ⟨_, rfl⟩
  rw [← hz] at h ⊢
  have HZ := Lib.hid hz
  clear hz
  have hH : w1.heap[w.heap.size]? = some (.cells #[.int .i64 0, .bool false, .int .i64 0, .slice none 0 0, .slice none 0 0, .string ⟨#[]⟩] 40 (0, 0)) := (hb.block _ (by simp)).trans (alloc_heap_new w _)
  have hbb : Below w.heap.size w w1 := (below_alloc (Below.refl _ w) (Nat.le_refl _) _).trans (hb.mono (by simp))
  have HH := Lib.hid hH
  clear hH
  go_wp2_with (refine wpList_store_row rfl 40 _ _ rfl w.heap.size #[.int .i64 0, .bool false, .int .i64 0, .slice none 0 0, .slice none 0 0, .string ⟨#[]⟩] rfl rfl 40 _ HH.out pduinfo rfl (by simp [Value.oneCell']) ?_)
  exact bodyPost_ret (results_cell2 Tryz.results18 _ _ w.heap.size pzL _ rfl (range_of_heap (setRow_heap _ _ _ _ _ _ HH.out)) Tryz.underlying40 rfl pduinfo) rfl ⟨by rw [← HZ.out]; rfl, below_setRow hbb (Nat.le_refl _) _⟩
set_option maxRecDepth 100000 in
theorem pduread_short (s : ByteArray) (mode : Int) (w : World) (hs : s.size ≤ 140737488355328) (h : (pduSize s.data.toList mode).2 = 0) (h2 : ((s.size : Nat) : Int) < (pduSize s.data.toList mode).1) : Calls Tryz.prog 18 #[.string s, .int .i64 mode] w fun e w' =>
    e = .returned (.tuple #[.agg pzL.toArray, .int .i64 0, .int .i64 7]) ∧ Below w.heap.size w w' := by
  have hz := refsize_any s mode
  rw [h] at hz
  obtain ⟨a, ha⟩ : ∃ a, a = (pduSize s.data.toList mode).1 := ⟨_, rfl⟩
  rw [← ha] at hz h2
  have HZ := Lib.hid hz
  clear ha h hz
  go_enter Tryz.func18, Tryz.ntmps18
  go_wp2_with fail
  refine (HZ.out _ hs).mono ?_
  rintro e w1 ⟨rfl, hb⟩
  have hH : w1.heap[w.heap.size]? = some (.cells #[.int .i64 0, .bool false, .int .i64 0, .slice none 0 0, .slice none 0 0, .string ⟨#[]⟩] 40 (0, 0)) := (hb.block _ (by simp)).trans (alloc_heap_new w _)
  have hbb : Below w.heap.size w w1 := (below_alloc (Below.refl _ w) (Nat.le_refl _) _).trans (hb.mono (by simp))
  have HH := Lib.hid hH
  clear hH
  go_wp2_with (refine wpList_store_row rfl 40 _ _ rfl w.heap.size #[.int .i64 0, .bool false, .int .i64 0, .slice none 0 0, .slice none 0 0, .string ⟨#[]⟩] rfl rfl 40 _ HH.out pduinfo rfl (by simp [Value.oneCell']) ?_)
  exact bodyPost_ret (results_cell2 Tryz.results18 _ _ w.heap.size pzL _ rfl (range_of_heap (setRow_heap _ _ _ _ _ _ HH.out)) Tryz.underlying40 rfl pduinfo) rfl ⟨rfl, below_setRow hbb (Nat.le_refl _) _⟩
end Go.Proofs.YtincgdbfmnnpaaaGreatDoor

/- The spec of a PDU's reading, cut by the numbers z (all) and E (head and additions); plain. -/
namespace Go.Proofs.YtincgdbfmnnpaaaGreatDoor
open Go.RowKit
theorem errV_ne {e : Int} (h : e ≠ 0) : errV e = .iface 31 (.int .i64 e) := by rw [errV, if_neg h]
/-- The numbers of a PDU whose head may be asked. -/
structure PduNum (l : List UInt8) (mode : Int) (z E P : Nat) : Prop where
  m0 : 0 ≤ mode
  m3 : mode ≤ 3
  len : 48 ≤ l.length
  size : pduSize l mode = ((z : Int), 0)
  E_eq : E = 48 + 4 * hw4 l
  P_eq : padI (dlen l) = (P : Int)
  z_eq : (z : Int) = E + dlen l + P + 4 * (mode % 2) + (if dlen l = 0 then 0 else 4 * (mode / 2))
theorem pdu_num {l : List UInt8} {mode : Int} (h : (pduSize l mode).2 = 0) : ∃ z E P, PduNum l mode z E P := by
  unfold pduSize at h
  by_cases h1 : wi mode 0 3 = false
  · rw [if_pos h1] at h; cases h
  · rw [if_neg h1] at h
    by_cases h2 : l.length < 48
    · rw [if_pos h2] at h; cases h
    · have hm : 0 ≤ mode ∧ mode ≤ 3 := by
        by_cases hm : 0 ≤ mode ∧ mode ≤ 3
        · exact hm
        · exact absurd (wi_no hm) h1
      have hb := szN_bd l mode hm.1 hm.2
      have hp := padI_bd (dlen l)
      refine ⟨(szN l mode).toNat, 48 + 4 * hw4 l, (padI (dlen l)).toNat, hm.1, hm.2, by omega, ?_, rfl, by omega, ?_⟩
      · unfold pduSize
        rw [if_neg h1, if_neg h2]
        congr 1
        omega
      · have : ((szN l mode).toNat : Int) = szN l mode := by omega
        rw [this]
        unfold szN
        push_cast
        omega
theorem PduNum.bounds {l : List UInt8} {mode : Int} {z E P : Nat} (h : PduNum l mode z E P) : 48 ≤ E ∧ E ≤ 1068 ∧ P ≤ 3 ∧ dlen l ≤ 16777215 ∧ z ≤ 17000000 ∧ E + dlen l + P ≤ z ∧ (mode % 2 = 1 → E + 4 + dlen l + P ≤ z) := by
  have h1 := hw4_lt l
  have h2 := dlen_lt l
  have h3 := padI_bd (dlen l)
  have h4 := h.P_eq
  have h5 := h.z_eq
  have h6 := h.E_eq
  have h7 := h.m0
  have h8 := h.m3
  refine ⟨by omega, by omega, by omega, h2, ?_, ?_, ?_⟩
  · split at h5 <;> omega
  · split at h5 <;> omega
  · intro hm
    split at h5 <;> omega
/-- What stands behind the head's part. -/
def at2 (E : Nat) (mode : Int) : Nat := E + 4 * (mode % 2).toNat
theorem pdu_all {l : List UInt8} {mode : Int} {z E P : Nat} (h : PduNum l mode z E P) : pduAll l mode = l.take z := by unfold pduAll; rw [h.size]; rfl
theorem pdu_end {l : List UInt8} {mode : Int} {z E P : Nat} (h : PduNum l mode z E P) : pduEnd l = E := h.E_eq.symm
theorem pdu_rest {l : List UInt8} {mode : Int} {z E P : Nat} (h : PduNum l mode z E P) : pduRest l mode = (l.take z).drop (at2 E mode) := by
  unfold pduRest at2
  rw [pdu_all h, pdu_end h]
  have h7 := h.m0
  by_cases hm : mode % 2 = 1
  · rw [if_pos hm, List.drop_drop, hm]; rfl
  · rw [if_neg hm]
    have : mode % 2 = 0 := by omega
    rw [this]; rfl
theorem rest_len {l : List UInt8} {mode : Int} {z E P : Nat} (h : PduNum l mode z E P) (hl : z ≤ l.length) : (pduRest l mode).length = dlen l + P + (if dlen l = 0 then 0 else 4 * (mode / 2)).toNat := by
  rw [pdu_rest h, List.length_drop, List.length_take, Nat.min_eq_left hl]
  have hb := h.bounds
  have h5 := h.z_eq
  have h7 := h.m0
  have h8 := h.m3
  unfold at2
  split at h5 <;> split <;> omega
theorem pdu_tail {l : List UInt8} {mode : Int} {z E P : Nat} (h : PduNum l mode z E P) (hl : z ≤ l.length) :
    (if (unpad (pduRest l mode) (dlen l)).2.2 ≠ 0 then (unpad (pduRest l mode) (dlen l)).2.2
      else if (unpad (pduRest l mode) (dlen l)).2.1 < (pduRest l mode).length ∧
        (pduRest l mode).drop (unpad (pduRest l mode) (dlen l)).2.1.toNat ≠ digest ((pduRest l mode).take (unpad (pduRest l mode) (dlen l)).2.1.toNat) then 13
      else if 100000 < dlen l then 4 else (0 : Int)) =
    if (unpad (pduRest l mode) (dlen l)).2.2 ≠ 0 then (unpad (pduRest l mode) (dlen l)).2.2
    else if mode / 2 = 1 ∧ 0 < dlen l ∧ (pduRest l mode).drop (dlen l + P) ≠ digest ((pduRest l mode).take (dlen l + P)) then 13
    else if 100000 < dlen l then 4 else 0 := by
  have hr := rest_len h hl
  have h7 := h.m0
  have h8 := h.m3
  by_cases c : (unpad (pduRest l mode) (dlen l)).2.2 ≠ 0
  · rw [if_pos c, if_pos c]
  · rw [if_neg c, if_neg c]
    have hu : (unpad (pduRest l mode) (dlen l)).2.1 = ((dlen l + P : Nat) : Int) := by
      unfold unpad at c ⊢
      rw [if_neg (by omega)] at c ⊢
      by_cases a : (dlen l : Int) > (pduRest l mode).length ∨ (dlen l : Int) + padI (dlen l) > (pduRest l mode).length
      · rw [if_pos a] at c; simp at c
      · rw [if_neg a] at c ⊢
        by_cases b : padded ((pduRest l mode).take (dlen l : Int).toNat) ≠ (pduRest l mode).take ((dlen l : Int) + padI (dlen l)).toNat
        · rw [if_pos b] at c; simp at c
        · rw [if_neg b]
          show (dlen l : Int) + padI (dlen l) = _
          rw [h.P_eq]; omega
    rw [hu, Int.toNat_natCast]
    have key : (((dlen l + P : Nat) : Int) < (pduRest l mode).length) ↔ (mode / 2 = 1 ∧ 0 < dlen l) := by
      rw [hr]
      by_cases hd : dlen l = 0
      · rw [if_pos hd]; simp; omega
      · rw [if_neg hd]; omega
    by_cases a : mode / 2 = 1 ∧ 0 < dlen l
    · by_cases b : (pduRest l mode).drop (dlen l + P) ≠ digest ((pduRest l mode).take (dlen l + P))
      · rw [if_pos ⟨key.2 a, b⟩, if_pos ⟨a.1, a.2, b⟩]
      · have n1 : ¬ (((dlen l + P : Nat) : Int) < (pduRest l mode).length ∧ (pduRest l mode).drop (dlen l + P) ≠ digest ((pduRest l mode).take (dlen l + P))) := fun x => b x.2
        have n2 : ¬ (mode / 2 = 1 ∧ 0 < dlen l ∧ (pduRest l mode).drop (dlen l + P) ≠ digest ((pduRest l mode).take (dlen l + P))) := fun x => b x.2.2
        rw [if_neg n1, if_neg n2]
    · have n1 : ¬ (((dlen l + P : Nat) : Int) < (pduRest l mode).length ∧ (pduRest l mode).drop (dlen l + P) ≠ digest ((pduRest l mode).take (dlen l + P))) := fun x => a (key.1 x.1)
      have n2 : ¬ (mode / 2 = 1 ∧ 0 < dlen l ∧ (pduRest l mode).drop (dlen l + P) ≠ digest ((pduRest l mode).take (dlen l + P))) := fun x => a ⟨x.1, x.2.1⟩
      rw [if_neg n1, if_neg n2]
/-- The errors in their order, in these numbers. -/
theorem pdu_err {l : List UInt8} {mode : Int} {z E P : Nat} (h : PduNum l mode z E P) (hl : z ≤ l.length) : pduErr l mode =
    if mode % 2 = 1 ∧ (l.drop E).take 4 ≠ digest (l.take E) then 15
    else if headErr (l.take 48) ≠ 0 then headErr (l.take 48)
    else if (ahsAll ((l.take E).drop 48)).2.1 ≠ 0 then (ahsAll ((l.take E).drop 48)).2.1
    else if (unpad (pduRest l mode) (dlen l)).2.2 ≠ 0 then (unpad (pduRest l mode) (dlen l)).2.2
    else if mode / 2 = 1 ∧ 0 < dlen l ∧ (pduRest l mode).drop (dlen l + P) ≠ digest ((pduRest l mode).take (dlen l + P)) then 13
    else if 100000 < dlen l then 4 else 0 := by
  have hb := h.bounds
  have h7 := h.m0
  have h8 := h.m3
  unfold pduErr
  rw [h.size, pdu_all h, pdu_end h]
  rw [if_neg (show ¬ (((z : Int), (0 : Int)).2 ≠ 0) from fun x => x rfl), if_neg (show ¬ ((l.length : Int) < ((z : Int), (0 : Int)).1) from fun x => by have x' : (l.length : Int) < (z : Int) := x; omega)]
  have e1 : ((l.take z).drop E).take 4 = (l.take z |>.drop E).take 4 := rfl
  have e2 : (l.take z).take E = l.take E := by rw [List.take_take, Nat.min_eq_left (by omega)]
  have e3 : (l.take z).take 48 = l.take 48 := by rw [List.take_take, Nat.min_eq_left (by omega)]
  rw [e2, e3]
  by_cases c1 : mode % 2 = 1
  · have e4 : ((l.take z).drop E).take 4 = (l.drop E).take 4 := by
      rw [List.drop_take, List.take_take, Nat.min_eq_left (by have := hb.2.2.2.2.2.2 c1; omega)]
    rw [e4]
    by_cases c2 : mode % 2 = 1 ∧ (l.drop E).take 4 ≠ digest (l.take E)
    · rw [if_pos c2, if_pos c2]
    · rw [if_neg c2, if_neg c2]
      by_cases c3 : headErr (l.take 48) ≠ 0
      · rw [if_pos c3, if_pos c3]
      · rw [if_neg c3, if_neg c3]
        by_cases c4 : (ahsAll ((l.take E).drop 48)).2.1 ≠ 0
        · rw [if_pos c4, if_pos c4]
        · rw [if_neg c4, if_neg c4]
          exact pdu_tail h hl
  · have n1 : ¬ (mode % 2 = 1 ∧ ((l.take z).drop E).take 4 ≠ digest (l.take E)) := fun x => c1 x.1
    have n2 : ¬ (mode % 2 = 1 ∧ (l.drop E).take 4 ≠ digest (l.take E)) := fun x => c1 x.1
    rw [if_neg n1, if_neg n2]
    by_cases c3 : headErr (l.take 48) ≠ 0
    · rw [if_pos c3, if_pos c3]
    · rw [if_neg c3, if_neg c3]
      by_cases c4 : (ahsAll ((l.take E).drop 48)).2.1 ≠ 0
      · rw [if_pos c4, if_pos c4]
      · rw [if_neg c4, if_neg c4]
        exact pdu_tail h hl
end Go.Proofs.YtincgdbfmnnpaaaGreatDoor
