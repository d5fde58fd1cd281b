/- A part of the proof: ReadLaw, Read2, PduGo, PduGo2, PduGo3. -/
import Derived.Test.YtincgdbfmnnpaaaGreatDoorJ05
import Derived.Test.YtincgdbfmnnpaaaGreatDoorJ04
/- A head written is the head read, if what is no field is 0; plain. -/
namespace Go.Proofs.YtincgdbfmnnpaaaGreatDoor
open Go.RowKit
theorem beB_succ (n m : Nat) : beB n (m + 1) = beB (n / 256) m ++ [UInt8.ofNat (n % 256)] := by
  unfold beB
  rw [List.range_succ, List.map_append, List.map_singleton]
  congr 1
  · apply List.map_congr_left
    intro i hi
    have hi' : i < m := List.mem_range.1 hi
    rw [Nat.div_div_eq_div_mul, ← Nat.pow_succ']
    congr 4
    omega
  · simp
theorem beB_beN : ∀ (n : Nat) (s : List UInt8), s.length = n → beB (beN s) n = s
  | 0, s, h => by rw [List.eq_nil_of_length_eq_zero h]; rfl
  | n + 1, s, h => by
    obtain ⟨c, hl⟩ : ∃ c, s = s.dropLast ++ [c] := ⟨s.getLast (by intro e; simp [e] at h), (List.dropLast_concat_getLast _).symm⟩
    rw [hl, beN_snoc, beB_succ]
    have hc := c.toNat_lt
    have e1 : (beN s.dropLast * 256 + c.toNat) / 256 = beN s.dropLast := by omega
    have e2 : (beN s.dropLast * 256 + c.toNat) % 256 = c.toNat := by omega
    rw [e1, e2, beB_beN n s.dropLast (by simp [h])]
    simp
theorem splice_at (b : List UInt8) (i : Nat) (s : List UInt8) (j : Nat) (h : i + s.length ≤ b.length) : (splice b i s).getD j 0 = if i ≤ j ∧ j < i + s.length then s.getD (j - i) 0 else b.getD j 0 := by
  unfold splice
  simp only [List.getD_eq_getElem?_getD]
  by_cases h1 : j < i
  · rw [if_neg (by omega), List.append_assoc, List.getElem?_append_left (by simp; omega), List.getElem?_take, if_pos h1]
  · by_cases h2 : j < i + s.length
    · rw [if_pos ⟨by omega, h2⟩, List.append_assoc, List.getElem?_append_right (by simp; omega), List.length_take, Nat.min_eq_left (by omega), List.getElem?_append_left (by omega)]
    · rw [if_neg (by omega), List.getElem?_append_right (by simp; omega), List.length_append, List.length_take, Nat.min_eq_left (by omega), List.getElem?_drop]
      congr 2
      omega
def fldsOk (l : List Fld) : Prop := ∀ f ∈ l, 0 ≤ f.a ∧ 1 ≤ f.b ∧ f.b ≤ 8 ∧ f.a + f.b ≤ 48
theorem zip_map (l : List Fld) (b : List UInt8) : l.zip (l.map (numOf b)) = l.map fun f => (f, numOf b f) := by
  induction l with
  | nil => rfl
  | cons f l ih => simp [ih]
theorem hdN_at (b : List UInt8) (hb : b.length = 48) : ∀ (l : List Fld) (x : List UInt8), fldsOk l → x.length = 48 → ∀ j : Nat, (hdN (l.map fun f => (f, numOf b f)) x).getD j 0 = if inF l j then b.getD j 0 else x.getD j 0
  | [], x, _, _, j => by simp [hdN, inF]
  | f :: l, x, hl, hx, j => by
    obtain ⟨h1, h2, h3, h4⟩ := hl f (by simp)
    obtain ⟨p, hp⟩ : ∃ p : Nat, f.a = p := ⟨f.a.toNat, by omega⟩
    obtain ⟨q, hq⟩ : ∃ q : Nat, f.b = q := ⟨f.b.toNat, by omega⟩
    rw [hp, hq] at h4
    have hlen : ((b.drop p).take q).length = q := by rw [List.length_take, List.length_drop, hb]; omega
    have hnum : beB (numOf b f) q = (b.drop p).take q := by
      unfold numOf
      rw [hp, hq, Int.toNat_natCast, Int.toNat_natCast]
      exact beB_beN q _ hlen
    have hs : (splice x p ((b.drop p).take q)).length = 48 := by rw [splice_len _ _ _ (by rw [hlen, hx]; omega), hx]
    show (hdN (l.map fun f => (f, numOf b f)) (splice x f.a.toNat (beB (numOf b f) f.b.toNat))).getD j 0 = _
    rw [hp, hq, Int.toNat_natCast, Int.toNat_natCast, hnum, hdN_at b hb l _ (fun g hg => hl g (by simp [hg])) hs j, splice_at _ _ _ _ (by rw [hlen, hx]; omega), hlen]
    have hin : inF (f :: l) (j : Int) = (decide (p ≤ j ∧ j < p + q) || inF l (j : Int)) := by
      unfold inF
      rw [List.any_cons, hp, hq]
      congr 1
      rw [Bool.eq_iff_iff]
      simp
      try omega
    rw [hin]
    by_cases a : inF l (j : Int) = true
    · simp [a]
    · have a' : inF l (j : Int) = false := by simpa using a
      simp only [a', Bool.or_false, Bool.false_eq_true, if_false]
      by_cases c : p ≤ j ∧ j < p + q
      · rw [if_pos c, if_pos (decide_eq_true c)]
        simp only [List.getD_eq_getElem?_getD]
        rw [List.getElem?_take, if_pos (by omega), List.getElem?_drop]
        congr 2
        try omega
      · rw [if_neg c, if_neg (by simpa using c)]
theorem base_at (b : List UInt8) (hb : b.length = 48) (o : Nat) (nb : Bool) (h0 : o + (if nb then 64 else 0) = (b.getD 0 0).toNat) (j : Nat) (hj : j < 48) :
    (hdBase o nb (b.getD 1 0).toNat (b.getD 4 0).toNat (dlen b)).getD j 0 = if baseFree j then b.getD j 0 else 0 := by
  have hd : dlen b = (b.getD 5 0).toNat * 65536 + (b.getD 6 0).toNat * 256 + (b.getD 7 0).toNat := by
    have := dlen_eq ⟨b.toArray⟩ (by show 48 ≤ b.toArray.size; simp [hb])
    rw [show (⟨b.toArray⟩ : ByteArray).data.toList = b from rfl] at this
    rw [this]
    have e : ∀ (i : Nat) (h : i < (⟨b.toArray⟩ : ByteArray).size), (⟨b.toArray⟩ : ByteArray)[i]'h = b.getD i 0 := fun i h => by
      have := list_at ⟨b.toArray⟩ i h
      rw [← this]
    rw [e, e, e]
  have t5 := (b.getD 5 0).toNat_lt
  have t6 := (b.getD 6 0).toNat_lt
  have t7 := (b.getD 7 0).toNat_lt
  have d5 : dlen b / 65536 = (b.getD 5 0).toNat := by omega
  have d6 : dlen b / 256 % 256 = (b.getD 6 0).toNat := by omega
  have d7 : dlen b % 256 = (b.getD 7 0).toNat := by omega
  unfold hdBase
  rw [h0, d5, d6, d7]
  simp only [UInt8.ofNat_toNat]
  by_cases h8 : 8 ≤ j
  · have hf : baseFree (j : Int) = false := by
      unfold baseFree
      simp
      omega
    rw [hf]
    simp only [List.getD_eq_getElem?_getD]
    rw [List.getElem?_append_right (by simp; omega), List.getElem?_replicate, if_pos (by simp; omega)]
    rfl
  · match j, h8 with
    | 0, _ => rfl
    | 1, _ => rfl
    | 2, _ => rfl
    | 3, _ => rfl
    | 4, _ => rfl
    | 5, _ => rfl
    | 6, _ => rfl
    | 7, _ => rfl
    | n + 8, h => omega
theorem list_ext48 {a b : List UInt8} (ha : a.length = 48) (hb : b.length = 48) (h : ∀ j, j < 48 → a.getD j 0 = b.getD j 0) : a = b := by
  apply List.ext_getElem
  · rw [ha, hb]
  · intro i h1 h2
    have := h i (by omega)
    simp only [List.getD_eq_getElem?_getD, List.getElem?_eq_getElem h1, List.getElem?_eq_getElem h2, Option.getD_some] at this
    exact this
theorem written_read (b : List UInt8) (hb : b.length = 48) (k : Knd) (hk : fldsOk k.l) (o : Nat) (nb : Bool) (h0 : o + (if nb then 64 else 0) = (b.getD 0 0).toNat) :
    (hdN (k.l.zip (k.l.map (numOf b))) (hdBase o nb (b.getD 1 0).toNat (b.getD 4 0).toNat (dlen b)) = b) ↔ headOk b k = true := by
  have hl : (hdBase o nb (b.getD 1 0).toNat (b.getD 4 0).toNat (dlen b)).length = 48 := by simp [hdBase]
  rw [zip_map]
  have key : ∀ j : Nat, j < 48 → (hdN (k.l.map fun f => (f, numOf b f)) (hdBase o nb (b.getD 1 0).toNat (b.getD 4 0).toNat (dlen b))).getD j 0 = if inF k.l j then b.getD j 0 else if baseFree j then b.getD j 0 else 0 := fun j hj => by
    rw [hdN_at b hb k.l _ hk hl j, base_at b hb o nb h0 j hj]
  constructor
  · intro h
    apply headOk_true
    intro t ht
    have := key t ht
    rw [h] at this
    by_cases a : inF k.l t = true
    · simp [a]
    · by_cases c : baseFree t = true
      · simp [c]
      · rw [if_neg a, if_neg c] at this
        rw [this]; simp
  · intro h
    apply list_ext48 (hdN_len _ _ (fun x hx => by
      obtain ⟨f, hf, rfl⟩ := List.mem_map.1 hx
      exact hk f hf) hl) hb
    intro j hj
    rw [key j hj]
    unfold headOk at h
    have := List.all_eq_true.1 h j (List.mem_range.2 hj)
    by_cases a : inF k.l j = true
    · rw [if_pos a]
    · by_cases c : baseFree j = true
      · rw [if_neg a, if_pos c]
      · rw [if_neg a, if_neg c]
        have a' : inF k.l (j : Int) = false := by simpa using a
        have c' : baseFree (j : Int) = false := by simpa using c
        rw [a', c'] at this
        simp only [Bool.or_false, Bool.false_or, beq_iff_eq] at this
        exact (UInt8.toNat_inj.1 (by rw [this]; rfl)).symm
theorem numOf_lt (b : List UInt8) (f : Fld) : numOf b f < 256 ^ f.b.toNat := by
  unfold numOf
  have h := beN_lt _ ((b.drop f.a.toNat).take f.b.toNat) rfl
  have h2 : ((b.drop f.a.toNat).take f.b.toNat).length ≤ f.b.toNat := List.length_take_le _ _
  exact Nat.lt_of_lt_of_le h (Nat.pow_le_pow_right (by decide) h2)
theorem numOf_fits (b : List UInt8) (f : Fld) (h1 : 1 ≤ f.b) (h8 : f.b ≤ 8) : fitsV f (numOf b f) = true := by
  have h := numOf_lt b f
  unfold fitsV
  by_cases h9 : 8 ≤ f.b
  · simp [h9]
  · rw [show (256 : Nat) = 2 ^ 8 from rfl, ← Nat.pow_mul] at h
    have e : (numOf b f : Int) / 2 ^ (8 * f.b.toNat) = ((numOf b f / 2 ^ (8 * f.b.toNat) : Nat) : Int) := by simp
    rw [e, Nat.div_eq_of_lt h]
    simp
theorem numOf_64 (b : List UInt8) (f : Fld) (h1 : 1 ≤ f.b) (h8 : f.b ≤ 8) : numOf b f < 18446744073709551616 := by
  have h := numOf_lt b f
  have : 256 ^ f.b.toNat ≤ 256 ^ 8 := Nat.pow_le_pow_right (by decide) (by omega)
  omega
end Go.Proofs.YtincgdbfmnnpaaaGreatDoor

/- head.Read, behind the kind. -/
namespace Go.Proofs.YtincgdbfmnnpaaaGreatDoor
open Go.RowKit
theorem cell_one_new' (w : World) (v : Value) (t : TypeId) (b : Nat) (hb : w.heap.size = b) : ∀ j u, ([v] : List Value)[j]? = some u → (w.alloc (.cells #[v] t)).cell? ((⟨b, 0, none⟩ : Addr).add j) = some u := by
  subst hb; exact cell_one_new w v t
theorem now_bit : ((List.range 128).all fun c => (bits .and .u8 (c : Int) 64 != 0) == ((c : Int) / 64 % 256 == 1)) = true := by kernel_rfl
theorem now_eq (c : Nat) (h : c < 128) : (bits .and .u8 (c : Int) 64 != 0) = ((c : Int) / 64 % 256 == 1) := by
  have := List.all_eq_true.1 now_bit c (List.mem_range.2 h)
  exact eq_of_beq this
structure RdSt (w : World) (B g : Nat) (k : Knd) (l : List UInt8) (hd : Value → List Value) (wr : World) (k0 : Nat) (v : Value) : Prop where
  below : Below w.heap.size w wr
  size : B ≤ wr.heap.size
  head : wr.heap[w.heap.size]? = some (.cells (hd v).toArray 37 (0, 0))
  flds : FldsV wr g k.l
  nums : wr.ownsRow B 60 1 v k0 (numsV l (k.l.take k0))
theorem RdSt.later {w : World} {B g : Nat} {k : Knd} {l : List UInt8} {hd : Value → List Value} {wr w' : World} {k0 : Nat} {v : Value} (h : RdSt w B g k l hd wr k0 v) (hb : Below wr.heap.size wr w') : RdSt w B g k l hd w' k0 v :=
  ⟨h.below.trans (hb.mono h.below.size), Nat.le_trans h.size hb.size, (hb.block _ (heap_lt h.head)).trans h.head, h.flds.below hb, own_later h.nums hb⟩
/-- Behind the append and the store of the longer row. -/
theorem RdSt.stored {w : World} {B g : Nat} {k : Knd} {l : List UInt8} {op fl : Int} {nb : Bool} {wr w' : World} {k0 : Nat} {v v' : Value} {f : Fld} {o : Obj} (h : RdSt w B g k l (fun v => [.int .i64 op, .bool nb, .int .i64 fl, v]) wr k0 v) (hg : g < B) (hw : w.heap.size < B) (hne : g ≠ w.heap.size)
    (hG : (wr.alloc o).grownBy w' v.ownBlock) (hf : k.l[k0]? = some f) (hown : w'.ownsRow B 60 1 v' (k0 + 1) (numsV l (k.l.take k0) ++ [.int .u64 (numOf l f)])) :
    RdSt w B g k l (fun v => [.int .i64 op, .bool nb, .int .i64 fl, v]) (w'.setCell ⟨w.heap.size, 3, none⟩ v') (k0 + 1) v' ∧ w'.cell? ⟨w.heap.size, 3, none⟩ = some v ∧ w'.frozen? ⟨w.heap.size, 3, none⟩ = false := by
  have h2 := h.later ((Below.refl _ wr).alloc (Nat.le_refl _) o)
  have hv : ∀ q, v.ownBlock = some q → B ≤ q := fun q e => (h.nums.lt q e).1
  have hhead : w'.heap[w.heap.size]? = some (.cells #[.int .i64 op, .bool nb, .int .i64 fl, v] 37 (0, 0)) := (hG.block _ (heap_lt h2.head) (fun e => by have := hv _ e.symm; omega)).trans h2.head
  have g6 := grown_setCell w' ⟨w.heap.size, 3, none⟩ v'
  have hB1 : Below w.heap.size w w' := h2.below.grown hG h2.below.size (fun q e => by have := hv q e; omega)
  have hfl : FldsV w' g k.l := ⟨fun j u hu => (World.cell?_of_block (a := ⟨g, j, none⟩) (hG.block g h2.flds.lt (fun e => by have := hv _ e.symm; omega))).trans (h2.flds.cells j u hu), Nat.lt_of_lt_of_le h2.flds.lt hG.size⟩
  refine ⟨⟨hB1.setCell (p := ⟨w.heap.size, 3, none⟩) (Nat.le_refl _) _, Nat.le_trans h2.size (Nat.le_trans hG.size g6.size), heap_setCell_same _ _ 3 _ _ _ hhead, grown_fldsV hfl g6 hne, ?_⟩, by simp [World.cell?, hhead], by simp [World.frozen?, hhead]⟩
  have e : numsV l (k.l.take (k0 + 1)) = numsV l (k.l.take k0) ++ [.int .u64 (numOf l f)] := by
    rw [List.take_add_one, hf]
    simp [numsV]
  rw [e]
  refine hown.kept g6 ?_
  cases hv' : v'.ownBlock with
  | none => exact .inl rfl
  | some q => exact .inr (fun e => by injection e with e; have := (hown.lt q hv').1; simp at e; omega)
/-- What Read answers, behind the kind: the head, or 'of another form'. -/
def ReadPost (w : World) (l : List UInt8) (k : Knd) (op : Int) (nb : Bool) (fl : Int) (ok : Bool) (e : Ending) (w' : World) : Prop :=
  Below w.heap.size w w' ∧ ((ok = true ∧ ∃ v, e = .returned (.tuple #[.agg #[.int .i64 op, .bool nb, .int .i64 fl, v], .int .i64 (l.getD 4 0).toNat, .int .i64 (beN ((l.drop 5).take 3)), .nilIface]) ∧
    w'.ownsRow w.heap.size 60 1 v k.l.length (numsV l k.l)) ∨ (ok = false ∧ e = .returned (.tuple #[hzV, .int .i64 0, .int .i64 0, errV 3])))
set_option maxRecDepth 100000 in
set_option maxHeartbeats 4000000 in
theorem read_main (s : ByteArray) (w : World) (hw : Laid w) (o : Nat) (nb : Bool) (k : Knd) (h : s.size = 48) (q1 : ¬ 128 ≤ (s[0].toNat : Int)) (ho : (s[0].toNat : Int) % 64 = (o : Int)) (hnb : ((s[0].toNat : Int) / 64 % 256 == 1) = nb) (q2 : kindOf (o : Int) = some k) :
    Calls Tryz.prog 32 #[.string s] w fun e w' => ReadPost w s.data.toList k o nb (s[1].toNat : Int) (!(hdForm k o nb (s[1].toNat : Int)) && headOk s.data.toList k) e w' := by
  have h0 : (((s.size : Nat) : Int) != 48) = false := by simp [h]
  have h1 : (0 : Int) < (s.size : Int) := by omega
  have h2 : (1 : Int) < (s.size : Int) := by omega
  have hw1 := IntWalk.i64_in ((s[1].toNat : Nat) : Int) (by have := s[1].toNat_lt; omega)
  have hbn : (bits .and .u8 (s[0].toNat : Int) 64 != 0) = nb := by rw [now_eq _ (by omega), hnb]
  have hF := fun w hw => fields_v (o : Int) (by omega) (by omega) k q2 w hw
  have hfit := kind_fit q2
  obtain ⟨z, hz⟩ : ∃ z : Nat, z = s[1].toNat := ⟨_, rfl⟩
  have hz255 : z < 256 := by rw [hz]; exact s[1].toNat_lt
  have hzr : s[1].toNat = z := hz.symm
  rw [← hz] at hw1 ⊢
  have HF := Lib.hid hF
  have HW := Lib.hid hw
  have HFIT := Lib.hid hfit
  have HNB := Lib.hid hnb
  have HZ := Lib.hid hz
  have HQ2 := Lib.hid q2
  clear hF hw q2 hfit hnb hz
  go_enter Tryz.func32, Tryz.ntmps32
  go_wp2_with fail
  go_region
  go_wp2_with fail
  refine (HF.out _ (HW.out.below (Below.alloc (Below.refl _ _) (Nat.le_refl _) _).drew)).mono ?_
  rintro e w1 ⟨g, cap, rfl, hb, hv, hgl⟩
  have hst : RdSt w w1.heap.size g k s.data.toList (fun v => [.int .i64 o, .bool nb, .int .i64 z, v]) w1 0 (.slice none 0 0) :=
    ⟨(Below.alloc (Below.refl _ w) (Nat.le_refl _) _).trans ((below_undrew hb).mono (by simp)), Nat.le_refl _, (hb.block _ (by simp)).trans (alloc_heap_new w _), hv, World.ownsRow_nil _ _ _ _⟩
  have hwlt1 : w.heap.size < w1.heap.size := heap_lt hst.head
  have hglt1 : g < w1.heap.size := hv.lt
  have hgne : g ≠ w.heap.size := by simp at hgl; omega
  have HST := Lib.hid hst
  clear hst hb hv hgl
  obtain ⟨i0, hi, hz0, hz1, hz2⟩ := info_parts u64_info
  have hl12 := HFIT.out.1
  go_wp2_with fail
  go_loopw [48] (fun i wr => ∃ (k0 : Nat) (v : Value), i = .int .i64 k0 ∧ k0 ≤ k.l.length ∧ RdSt w w1.heap.size g k s.data.toList (fun v => [.int .i64 o, .bool nb, .int .i64 z, v]) wr k0 v) (fun i _ => k.l.length - (intOf i).toNat)
  case atStart => exact ⟨0, _, rfl, by omega, HST.out⟩
  case round =>
    obtain ⟨k0, v, rfl, hk0, hst⟩ := hrel
    obtain ⟨av, nv, cv, rfl⟩ := own_slice hst.nums
    by_cases hlt : k0 < k.l.length
    · obtain ⟨f, hf⟩ : ∃ f, k.l[k0]? = some f := ⟨_, List.getElem?_eq_getElem hlt⟩
      obtain ⟨d0, d1, d2⟩ := hst.flds.fld hf
      obtain ⟨fa, fb1, fb8, fab⟩ := HFIT.out.2 f (List.mem_of_getElem? hf)
      have hki : (k0 : Int) < (k.l.length : Int) := by omega
      have hwa := IntWalk.i64_in (f.a + f.b) (by omega)
      have hs48 : (s.size : Int) = 48 := by omega
      have hfs : f.a + f.b ≤ (s.size : Int) := by omega
      have hfab : f.a ≤ f.a + f.b := by omega
      have HST0 := Lib.hid hst
      have HFF := Lib.hid hf
      have HS48 := Lib.hid hs48
      clear hst hf hs48
      go_wp2_with fail
      have hex : (s.extract f.a.toNat (f.a + f.b).toNat).data.toList = (s.data.toList.drop f.a.toNat).take f.b.toNat := by
        rw [Lib.extract_data]; congr 1; omega
      have hez : (s.extract f.a.toNat (f.a + f.b).toNat).size ≤ 8 := by
        rw [Lib.size_eq, hex]; exact Nat.le_trans (List.length_take_le _ _) (by omega)
      have hun := fun w => get_any (s.extract f.a.toNat (f.a + f.b).toNat) w hez
      rw [hex] at hun
      have HUN := Lib.hid hun
      clear hun hex hez
      refine (HUN.out _).mono ?_
      rintro e w' ⟨rfl, rfl⟩
      obtain ⟨N, hN⟩ : ∃ N, N = beN ((s.data.toList.drop f.a.toNat).take f.b.toNat) := ⟨_, rfl⟩
      rw [← hN]
      have HN := Lib.hid hN
      have hstA := HST0.out.later ((Below.refl _ wr).alloc (Nat.le_refl _) (.cells #[.string f.n, .int .i64 f.a, .int .i64 f.b] 112))
      have hc3 : (wr.alloc (.cells #[.string f.n, .int .i64 f.a, .int .i64 f.b] 112)).cell? ⟨w.heap.size, 3, none⟩ = some (.slice av nv cv) := by simp [World.cell?, hstA.head]
      have HSTA := Lib.hid hstA
      have q1' : k0 + 1 ≤ maxLen := by unfold maxLen; omega
      have q2' : (k0 + 1) * 8 ≤ 140737488355328 := by omega
      have q3' : w1.heap.size ≤ ((wr.alloc (.cells #[.string f.n, .int .i64 f.a, .int .i64 f.b] 112)).alloc (.cells #[.int .u64 N] 60)).heap.size := by have := HST0.out.size; simp; omega
      have Q1 := Lib.hid q1'
      have Q2 := Lib.hid q2'
      have Q3 := Lib.hid q3'
      clear hN hstA q1' q2' q3'
      go_wp2_with (at_builtin; refine wpList_append_own _ rfl _ _ 35 rfl w1.heap.size 60 i0 (.int .u64 0) 1 8 Tryz.underlying35 hi hz0 hz1 hz2 rfl (by decide) _ _ _ rfl (HSTA.out.nums.alloc _) ⟨wr.heap.size + 1, 0, none⟩ 1 1 [.int .u64 N] rfl rfl (cell_one_new' _ _ _ _ (by simp)) (fun x hx => by simp at hx; subst hx; rfl) Q1.out Q2.out Q3.out ?_; intro v' w5 hown' hgrow5 hnil5; obtain ⟨av', nv', cv', rfl⟩ := own_slice hown'; have hnum : N = numOf s.data.toList f := HN.out; rw [hnum] at hown'; have H5 := HSTA.out.stored hglt1 hwlt1 hgne hgrow5 HFF.out hown'; have hc5 := H5.2.1; have hf5 := H5.2.2; have HH5 := Lib.hid H5.1; clear H5 hown' hgrow5 hnil5 hnum)
      go_roundw
      case rel => exact ⟨k0 + 1, _, by go_num, by omega, HH5.out⟩
      case measure => simp [intOf]; omega
    · obtain rfl : k0 = k.l.length := by omega
      have hnb2 := HNB.out
      have hkne : 1 ≤ k.l.length := kind_ne HQ2.out
      obtain ⟨gv, capv, hv', _, hgvlt⟩ := hst.nums.form hkne
      injection hv' with e1 e2 e3
      subst e1 e2 e3
      have hvals : U64s wr (some ⟨gv, 0, none⟩) (k.l.map (numOf s.data.toList)) := ⟨fun j x hx => ⟨_, rfl, hgvlt, hst.nums.cells (g := gv) rfl j _ (by
        rw [List.take_length]
        unfold numsV
        rw [List.getElem?_map] at hx ⊢
        cases hkj : k.l[j]? with
        | none => rw [hkj] at hx; cases hx
        | some f => rw [hkj] at hx; injection hx with hx; rw [← hx]; rfl)⟩, fun x hx => by
        obtain ⟨f, hf, rfl⟩ := List.mem_map.1 hx
        exact numOf_64 _ _ (HFIT.out.2 f hf).2.1 (HFIT.out.2 f hf).2.2.1⟩
      have hhd : hdRight (o : Int) nb (z : Int) (k.l.map (numOf s.data.toList)) = if hdForm k o nb z then (3, -1) else (0, -1) := by
        unfold hdRight
        rw [HQ2.out]
        simp only [List.length_map, ne_eq, not_true_eq_false, if_false]
        obtain ⟨g1, _⟩ | ⟨j, f, v, _, g2, g3, g4, _⟩ := firstBad_split k.l (k.l.map (numOf s.data.toList)) 0 (by simp)
        · rw [g1]
        · exfalso
          rw [List.getElem?_map, g2] at g3
          injection g3 with g3
          rw [← g3, numOf_fits _ _ (HFIT.out.2 f (List.mem_of_getElem? g2)).2.1 (HFIT.out.2 f (List.mem_of_getElem? g2)).2.2.1] at g4
          cases g4
      have HST0 := Lib.hid hst
      have HVALS := Lib.hid hvals
      have HHD := Lib.hid hhd
      clear hvals hhd hnb2
      by_cases hfm : hdForm k o nb z = true
      · have hR := right_form (o : Int) nb (z : Int) (some ⟨gv, 0, none⟩) k.l.length cv (by omega) (by omega) k HQ2.out hfm wr (HW.out.below hst.below)
        have HR := Lib.hid hR
        have HFM := Lib.hid hfm
        clear hR hst hfm
        go_wp2_with (refine wpList_load_row rfl 37 _ rfl w.heap.size rfl 37 _ _ _ HST0.out.head Tryz.underlying37 rfl headinfo ?_)
        refine HR.out.mono ?_
        rintro e w3 ⟨rfl, hb3⟩
        have hst3 := HST0.out.later hb3
        have HST3 := Lib.hid hst3
        clear hst3 hb3
        rw [show errV 3 = .iface 31 (.int .i64 3) from rfl]
        go_wp2_with (refine wpList_store_row rfl 37 _ _ rfl w.heap.size #[.int .i64 0, .bool false, .int .i64 0, .slice none 0 0] rfl rfl 37 _ HST3.out.head headinfo rfl (by simp [Value.oneCell']) ?_)
        refine bodyPost_ret (results_cell3 Tryz.results32 _ _ w.heap.size [.int .i64 0, .bool false, .int .i64 0, .slice none 0 0] _ rfl (range_of_heap (setRow_heap _ _ _ _ _ _ HST3.out.head)) Tryz.underlying37 rfl headinfo) rfl ⟨below_setRow HST3.out.below (Nat.le_refl _) _, .inr ⟨by rw [HFM.out]; rfl, rfl⟩⟩
      · have hfm' : hdForm k o nb z = false := by simpa using hfm
        have hR := right_any (o : Int) nb (z : Int) (some ⟨gv, 0, none⟩) k.l.length cv (k.l.map (numOf s.data.toList)) (by omega) (by omega) (by simp) wr (HW.out.below hst.below) HVALS.out
        have hr0 : (hdRight (o : Int) nb (z : Int) (k.l.map (numOf s.data.toList))).1 = 0 := by rw [HHD.out, hfm']; rfl
        rw [hr0] at hR
        have HR := Lib.hid hR
        have HFM := Lib.hid hfm'
        have HR0 := Lib.hid hr0
        clear hR hst hfm hfm' hr0
        go_wp2_with (refine wpList_load_row rfl 37 _ rfl w.heap.size rfl 37 _ _ _ HST0.out.head Tryz.underlying37 rfl headinfo ?_)
        refine HR.out.mono ?_
        rintro e w3 ⟨v, rfl, hb3, hie⟩
        have hvn : v = .nilIface := by
          rcases hie with ⟨he, -⟩ | ⟨hne, -⟩
          · exact he
          · exact absurd rfl hne
        subst hvn
        have hst3 := HST0.out.later hb3
        have hval3 := HVALS.out.below hb3
        have HST3 := Lib.hid hst3
        have HVAL3 := Lib.hid hval3
        clear hst3 hb3 hie hval3
        have hi4 : (4 : Int) < (s.size : Int) := by omega
        have hi5 : (5 : Int) < (s.size : Int) := by omega
        have hi6 : (6 : Int) < (s.size : Int) := by omega
        have hi7 : (7 : Int) < (s.size : Int) := by omega
        have h4 := byte_lt (s[4]'(by omega))
        have h5 := byte_lt (s[5]'(by omega))
        have h6 := byte_lt (s[6]'(by omega))
        have h7 := byte_lt (s[7]'(by omega))
        have q1 : IntKind.i64.wrap ((s[5]'(by omega)).toNat : Int) = (s[5]'(by omega)).toNat := IntWalk.i64_in _ (by omega)
        have q2 : IntKind.i64.wrap ((s[6]'(by omega)).toNat : Int) = (s[6]'(by omega)).toNat := IntWalk.i64_in _ (by omega)
        have q3 : IntKind.i64.wrap ((s[7]'(by omega)).toNat : Int) = (s[7]'(by omega)).toNat := IntWalk.i64_in _ (by omega)
        have q4 : IntKind.i64.wrap ((s[4]'(by omega)).toNat : Int) = (s[4]'(by omega)).toNat := IntWalk.i64_in _ (by omega)
        have q5 : IntKind.i64.wrap (((s[5]'(by omega)).toNat : Int) * 65536) = (s[5]'(by omega)).toNat * 65536 := IntWalk.i64_in _ (by omega)
        have q6 : IntKind.i64.wrap (((s[6]'(by omega)).toNat : Int) * 256) = (s[6]'(by omega)).toNat * 256 := IntWalk.i64_in _ (by omega)
        obtain ⟨D, hD⟩ : ∃ D, D = dlen s.data.toList := ⟨_, rfl⟩
        have e3 : bits .or .i64 (bits .or .i64 (((s[5]'(by omega)).toNat : Int) * 65536) (((s[6]'(by omega)).toNat : Int) * 256)) ((s[7]'(by omega)).toNat : Int) = (D : Int) := by
          rw [or3, hD, dlen_eq s (by omega)]
        have hD24 : D ≤ 16777215 := by rw [hD]; exact dlen_lt _
        have HD := Lib.hid hD
        clear hD
        go_wp2_with fail
        go_quiet (fail)
        go_wp2_with (refine wpList_load_row rfl 37 _ rfl w.heap.size rfl 37 _ _ _ HST3.out.head Tryz.underlying37 rfl headinfo ?_)
        clear q1 q2 q3 q4 q5 q6 e3 hw1
        have hbn2 := below_drewN (Below.refl w3.heap.size w3) nq
        have hst4 := HST3.out.later hbn2
        have hW := write_any (o : Int) nb (z : Int) (some ⟨gv, 0, none⟩) k.l.length cv (k.l.map (numOf s.data.toList)) (s[4]'(by omega)).toNat D (by omega) (by omega) (by omega) (by simp) (w3.drewN nq) (HW.out.below hst4.below) (HVAL3.out.below hbn2) HR0.out (by omega) hD24 k HQ2.out
        obtain ⟨X, hX⟩ : ∃ X, X = hdN (k.l.zip (k.l.map (numOf s.data.toList))) (hdBase (o : Int).toNat nb (z : Int).toNat (s[4]'(by omega)).toNat D) := ⟨_, rfl⟩
        rw [← hX] at hW
        have hlen48 : s.data.toList.length = 48 := by rw [← Lib.size_eq]; exact h
        have hXs : X = s.data.toList ↔ headOk s.data.toList k = true := by
          rw [hX, HD.out, HZ.out, Int.toNat_natCast, Int.toNat_natCast, ← getD_byte s 1 (by omega), ← getD_byte s 4 (by omega)]
          refine written_read s.data.toList hlen48 k HFIT.out.2 o nb ?_
          rw [getD_byte s 0 (by omega)]
          have hnb3 := HNB.out
          cases nb
          · simp at hnb3 ⊢; omega
          · simp at hnb3 ⊢; omega
        have HST4 := Lib.hid hst4
        have HWR := Lib.hid hW
        have HXS := Lib.hid hXs
        have HXD := Lib.hid hX
        clear hst4 hW hXs hX hbn2
        refine HWR.out.mono ?_
        rintro e w5 ⟨rfl, hb5⟩
        have hst5 := HST4.out.later hb5
        have HST5 := Lib.hid hst5
        clear hst5 hb5
        by_cases hok : headOk s.data.toList k = true
        · have hXe : bs X = s := (bs_eq (HXS.out.2 hok).symm).symm
          have HOK := Lib.hid hok
          rw [hXe]
          clear hXe hok
          go_wp2_with (first
            | (refine wpList_load_row rfl 37 _ rfl w.heap.size rfl 37 _ _ _ HST5.out.head Tryz.underlying37 rfl headinfo ?_)
            | (refine wpList_store_row rfl 37 _ _ rfl w.heap.size #[.int .i64 o, .bool nb, .int .i64 z, .slice (some ⟨gv, 0, none⟩) k.l.length cv] rfl rfl 37 _ HST5.out.head headinfo rfl (by simp [Value.oneCell']) ?_))
          have g6 : w5.grownBy (w5.setRow w.heap.size #[.int .i64 o, .bool nb, .int .i64 z, .slice (some ⟨gv, 0, none⟩) k.l.length cv]) (some w.heap.size) := ⟨rfl, rfl, rfl, by simp [World.setRow], fun i _ hne => setRow_other w5 _ i _ (fun e => hne (by rw [e]))⟩
          refine bodyPost_ret (results_cell3 Tryz.results32 _ _ w.heap.size [.int .i64 o, .bool nb, .int .i64 z, .slice (some ⟨gv, 0, none⟩) k.l.length cv] _ rfl (range_of_heap (setRow_heap _ _ _ _ _ _ HST5.out.head)) Tryz.underlying37 rfl headinfo) rfl ⟨below_setRow HST5.out.below (Nat.le_refl _) _, .inl ⟨by rw [HFM.out, HOK.out]; rfl, .slice (some ⟨gv, 0, none⟩) k.l.length cv, ?_, ?_⟩⟩
          · rw [getD_byte s 4 (by omega), show beN ((s.data.toList.drop 5).take 3) = D from HD.out.symm]
            rfl
          · have hr := HST5.out.nums
            rw [List.take_length] at hr
            refine own_mono (hr.kept g6 (.inr (fun e => by injection e with e; have e' : gv = w.heap.size := e; omega))) (by omega)
        · have hXe : ¬ X = s.data.toList := fun e => hok (HXS.out.1 e)
          have HOK := Lib.hid hok
          have hq : (!(bs X).toList == s.toList) = true := by
            have : ((bs X).toList == s.toList) = false := by
              rw [bs_toList, Lib.toList_data]; simpa using hXe
            rw [this]; rfl
          clear hok hXe
          go_wp2_with (refine wpList_store_row rfl 37 _ _ rfl w.heap.size #[.int .i64 0, .bool false, .int .i64 0, .slice none 0 0] rfl rfl 37 _ HST5.out.head headinfo rfl (by simp [Value.oneCell']) ?_)
          refine bodyPost_ret (results_cell3 Tryz.results32 _ _ w.heap.size [.int .i64 0, .bool false, .int .i64 0, .slice none 0 0] _ rfl (range_of_heap (setRow_heap _ _ _ _ _ _ HST5.out.head)) Tryz.underlying37 rfl headinfo) rfl ⟨below_setRow HST5.out.below (Nat.le_refl _) _, .inr ⟨by rw [HFM.out]; simpa using HOK.out, rfl⟩⟩
/-- head.Read against the spec that quaymasterref.HeadRead has too. -/
def ReadAll (w : World) (l : List UInt8) (e : Ending) (w' : World) : Prop := Below w.heap.size w w' ∧
    ((headErr l = 0 ∧ ∃ v, e = .returned (.tuple #[.agg #[.int .i64 (headOp l), .bool (headNow l), .int .i64 (l.getD 1 0).toNat, v],
        .int .i64 (l.getD 4 0).toNat, .int .i64 (beN ((l.drop 5).take 3)), .nilIface]) ∧ w'.ownsRow w.heap.size 60 1 v (headVals l).length (headVals l)) ∨
     (headErr l ≠ 0 ∧ e = .returned (.tuple #[hzV, .int .i64 0, .int .i64 0, errV (headErr l)])))
theorem read_any (s : ByteArray) (w : World) (hw : Laid w) : Calls Tryz.prog 32 #[.string s] w fun e w' => ReadAll w s.data.toList e w' := by
  have refuse : ∀ c : Int, c ≠ 0 → headErr s.data.toList = c → (Calls Tryz.prog 32 #[.string s] w fun e w' => e = .returned (.tuple #[hzV, .int .i64 0, .int .i64 0, errV c]) ∧ Below w.heap.size w w') →
      Calls Tryz.prog 32 #[.string s] w fun e w' => ReadAll w s.data.toList e w' :=
    fun c hc he h => h.mono (fun e w' hh => ⟨hh.2, .inr ⟨by rw [he]; exact hc, by rw [he]; exact hh.1⟩⟩)
  have hlen : s.data.toList.length = s.size := by rw [← Lib.size_eq]
  by_cases h : s.size = 48
  · have g0 := getD_byte s 0 (by omega)
    have g1 := getD_byte s 1 (by omega)
    have hlt := (s[0]'(by omega)).toNat_lt
    have hbig : (((s[0]'(by omega)).toNat : Int) / 128 % 256 == 1) = decide (128 ≤ ((s[0]'(by omega)).toNat : Int)) := by
      rw [Bool.eq_iff_iff]; simp; omega
    by_cases q1 : 128 ≤ (s[0].toNat : Int)
    · exact refuse 3 (by decide) (by unfold headErr; rw [hlen, if_pos h, g0, if_pos (by rw [hbig]; exact decide_eq_true q1)]) (read_high s w h q1)
    · have hop : headOp s.data.toList = (s[0].toNat : Int) % 64 := by unfold headOp; rw [g0]
      have hnow : headNow s.data.toList = ((s[0].toNat : Int) / 64 % 256 == 1) := by unfold headNow; rw [g0]
      have hq1 : ¬ (((s[0]'(by omega)).toNat : Int) / 128 % 256 == 1) = true := by rw [hbig]; simpa using q1
      cases q2 : kindOf ((s[0].toNat : Int) % 64) with
      | none => exact refuse 1 (by decide) (by unfold headErr; rw [hlen, if_pos h, g0, if_neg hq1, hop, q2]) (read_none s w hw h q1 q2)
      | some k =>
        obtain ⟨o, ho⟩ : ∃ o : Nat, (s[0].toNat : Int) % 64 = o := ⟨s[0].toNat % 64, by omega⟩
        obtain ⟨nb, hnb⟩ : ∃ nb, ((s[0].toNat : Int) / 64 % 256 == 1) = nb := ⟨_, rfl⟩
        rw [ho] at q2 hop
        rw [hnb] at hnow
        have hkn := kind_num q2
        have he : headErr s.data.toList = if (!(hdForm k o nb (s[1].toNat : Int)) && headOk s.data.toList k) = true then 0 else 3 := by
          unfold headErr
          rw [hlen, if_pos h, g0, if_neg hq1, hop, q2, hnow, g1]
          simp only []
          rw [flags_or _ _ hkn.1.1 (by omega)]
          unfold hdForm
          have hneg : decide ((s[1].toNat : Int) < 0) = false := by simp
          rw [hneg, Bool.or_false]
          cases h1 : (nb && decide ((32 : Int) ≤ (o : Int)) || (bits .andNot .i64 (s[1].toNat : Int) k.m != 0))
          · simp
          · simp
        have hvals : headVals s.data.toList = numsV s.data.toList k.l := by unfold headVals; rw [hop, q2]
        have hvl : (headVals s.data.toList).length = k.l.length := by rw [hvals]; simp [numsV]
        refine (read_main s w hw o nb k h q1 ho hnb q2).mono ?_
        rintro e w' ⟨hb, ⟨hok, v, rfl, hown⟩ | ⟨hok, rfl⟩⟩
        · refine ⟨hb, .inl ⟨by rw [he, hok]; rfl, v, ?_, ?_⟩⟩
          · rw [hop, hnow, g1]
          · rw [hvl, hvals]; exact hown
        · refine ⟨hb, .inr ⟨by rw [he, hok]; decide, ?_⟩⟩
          rw [he, hok]; rfl
  · exact refuse 7 (by decide) (by unfold headErr; rw [hlen, if_neg h]) (read_size s w (by simp; omega))
end Go.Proofs.YtincgdbfmnnpaaaGreatDoor

/- pdu.Read: the first refusals. -/
namespace Go.Proofs.YtincgdbfmnnpaaaGreatDoor
open Go.RowKit
set_option maxRecDepth 100000 in
theorem pr_size (s : ByteArray) (mode : Int) (w : World) (hs : s.size ≤ 140737488355328) (h : (pduSize s.data.toList mode).2 ≠ 0) : Calls Tryz.prog 21 #[.string s, .int .i64 mode] w fun e w' =>
    e = .returned (.tuple #[.agg pzL.toArray, .int .i64 0, errV (pduSize s.data.toList mode).2]) ∧ Below w.heap.size w w' := by
  have hz := fun w => size_any s mode w hs
  obtain ⟨a, ha⟩ : ∃ a, a = (pduSize s.data.toList mode).1 := ⟨_, rfl⟩
  obtain ⟨b, hb⟩ : ∃ b, b = (pduSize s.data.toList mode).2 := ⟨_, rfl⟩
  rw [← hb] at h ⊢
  rw [← ha, ← hb, errV_ne h] at hz
  rw [errV_ne h]
  have HZ := Lib.hid hz
  clear ha hb hz
  go_enter Tryz.func21, Tryz.ntmps21
  go_wp2_with fail
  refine (HZ.out _).mono ?_
  rintro e w1 ⟨rfl, kq, rfl⟩
  have hH : ((w.alloc (.cells #[.int .i64 0, .bool false, .int .i64 0, .slice none 0 0, .slice none 0 0, .string ⟨#[]⟩] 40)).drewN kq).heap[w.heap.size]? = some (.cells #[.int .i64 0, .bool false, .int .i64 0, .slice none 0 0, .slice none 0 0, .string ⟨#[]⟩] 40 (0, 0)) := alloc_heap_new w _
  have hbb : Below w.heap.size w ((w.alloc (.cells #[.int .i64 0, .bool false, .int .i64 0, .slice none 0 0, .slice none 0 0, .string ⟨#[]⟩] 40)).drewN kq) := below_drewN ((Below.refl _ w).alloc (Nat.le_refl _) _) kq
  have HH := Lib.hid hH
  clear hH
  go_wp2_with (refine wpList_store_row rfl 40 _ _ rfl w.heap.size #[.int .i64 0, .bool false, .int .i64 0, .slice none 0 0, .slice none 0 0, .string ⟨#[]⟩] rfl rfl 40 _ HH.out pduinfo rfl (by simp [Value.oneCell']) ?_)
  exact bodyPost_ret (results_cell2 Tryz.results21 _ _ w.heap.size pzL _ rfl (range_of_heap (setRow_heap _ _ _ _ _ _ HH.out)) Tryz.underlying40 rfl pduinfo) rfl ⟨rfl, below_setRow hbb (Nat.le_refl _) _⟩
set_option maxRecDepth 100000 in
theorem pr_short (s : ByteArray) (mode : Int) (w : World) (hs : s.size ≤ 140737488355328) (z : Nat) (h : pduSize s.data.toList mode = ((z : Int), 0)) (h2 : s.size < z) : Calls Tryz.prog 21 #[.string s, .int .i64 mode] w fun e w' =>
    e = .returned (.tuple #[.agg pzL.toArray, .int .i64 0, errV 7]) ∧ Below w.heap.size w w' := by
  have hz := fun w => size_any s mode w hs
  rw [h] at hz
  have HZ := Lib.hid hz
  clear h hz
  go_enter Tryz.func21, Tryz.ntmps21
  go_wp2_with fail
  refine (HZ.out _).mono ?_
  rintro e w1 ⟨rfl, kq, rfl⟩
  have hH : ((w.alloc (.cells #[.int .i64 0, .bool false, .int .i64 0, .slice none 0 0, .slice none 0 0, .string ⟨#[]⟩] 40)).drewN kq).heap[w.heap.size]? = some (.cells #[.int .i64 0, .bool false, .int .i64 0, .slice none 0 0, .slice none 0 0, .string ⟨#[]⟩] 40 (0, 0)) := alloc_heap_new w _
  have hbb : Below w.heap.size w ((w.alloc (.cells #[.int .i64 0, .bool false, .int .i64 0, .slice none 0 0, .slice none 0 0, .string ⟨#[]⟩] 40)).drewN kq) := below_drewN ((Below.refl _ w).alloc (Nat.le_refl _) _) kq
  have HH := Lib.hid hH
  clear hH
  rw [show errV 0 = .nilIface from rfl]
  go_wp2_with (refine wpList_store_row rfl 40 _ _ rfl w.heap.size #[.int .i64 0, .bool false, .int .i64 0, .slice none 0 0, .slice none 0 0, .string ⟨#[]⟩] rfl rfl 40 _ HH.out pduinfo rfl (by simp [Value.oneCell']) ?_)
  exact bodyPost_ret (results_cell2 Tryz.results21 _ _ w.heap.size pzL _ rfl (range_of_heap (setRow_heap _ _ _ _ _ _ HH.out)) Tryz.underlying40 rfl pduinfo) rfl ⟨rfl, below_setRow hbb (Nat.le_refl _) _⟩
/-- A PDU out of bytes, as a value. -/
def PduIs (w' : World) (B : Nat) (l : List UInt8) (mode : Int) (v : Value) : Prop := ∃ v1 v2, v = .agg #[.int .i64 (headOp (l.take 48)), .bool (headNow (l.take 48)), .int .i64 ((l.take 48).getD 1 0).toNat, v1, v2, .string (bs (unpad (pduRest l mode) (dlen l)).1)] ∧
  w'.ownsRow B 60 1 v1 (headVals (l.take 48)).length (headVals (l.take 48)) ∧ w'.ownsRow B 62 2 v2 (ahsAll (((pduAll l mode).take (pduEnd l)).drop 48)).1.length (ahsV (ahsAll (((pduAll l mode).take (pduEnd l)).drop 48)).1)
def PrPost (w : World) (l : List UInt8) (mode : Int) (e : Ending) (w' : World) : Prop := Below w.heap.size w w' ∧
  ((pduErr l mode = 0 ∧ ∃ v, e = .returned (.tuple #[v, .int .i64 (pduSize l mode).1, .nilIface]) ∧ PduIs w' w.heap.size l mode v) ∨ (pduErr l mode ≠ 0 ∧ e = .returned (.tuple #[.agg pzL.toArray, .int .i64 0, errV (pduErr l mode)])))
theorem and_one {m : Int} (h0 : 0 ≤ m) (h3 : m ≤ 3) : (bits .and .i64 m 1 != 0) = decide (m % 2 = 1) ∧ (bits .and .i64 m 2 != 0) = decide (m / 2 = 1) := by
  have hmm : m = 0 ∨ m = 1 ∨ m = 2 ∨ m = 3 := by omega
  rcases hmm with rfl | rfl | rfl | rfl <;> decide
/-- Between the stages: the result's cell and p's block. -/
structure PSt (w : World) (g : Nat) (pc : List Value) (wr : World) : Prop where
  below : Below w.heap.size w wr
  res : wr.heap[w.heap.size]? = some (.cells #[.int .i64 0, .bool false, .int .i64 0, .slice none 0 0, .slice none 0 0, .string ⟨#[]⟩] 40 (0, 0))
  pb : wr.heap[g]? = some (.cells pc.toArray 40 (0, 0))
  ne : w.heap.size < g
theorem PSt.later {w : World} {g : Nat} {pc : List Value} {wr w' : World} (h : PSt w g pc wr) (hb : Below wr.heap.size wr w') : PSt w g pc w' :=
  ⟨h.below.trans (hb.mono h.below.size), (hb.block _ (heap_lt h.res)).trans h.res, (hb.block _ (heap_lt h.pb)).trans h.pb, h.ne⟩
theorem ps_start (w : World) (kq : Nat) : Below w.heap.size w ((w.alloc (.cells #[.int .i64 0, .bool false, .int .i64 0, .slice none 0 0, .slice none 0 0, .string ⟨#[]⟩] 40)).drewN kq) ∧
    ((w.alloc (.cells #[.int .i64 0, .bool false, .int .i64 0, .slice none 0 0, .slice none 0 0, .string ⟨#[]⟩] 40)).drewN kq).heap[w.heap.size]? = some (.cells #[.int .i64 0, .bool false, .int .i64 0, .slice none 0 0, .slice none 0 0, .string ⟨#[]⟩] 40 (0, 0)) :=
  ⟨below_drewN ((Below.refl _ w).alloc (Nat.le_refl _) _) kq, alloc_heap_new w _⟩
structure PS0 (w wr : World) : Prop where
  below : Below w.heap.size w wr
  res : wr.heap[w.heap.size]? = some (.cells #[.int .i64 0, .bool false, .int .i64 0, .slice none 0 0, .slice none 0 0, .string ⟨#[]⟩] 40 (0, 0))
theorem PS0.later {w wr w' : World} (h : PS0 w wr) (hb : Below wr.heap.size wr w') : PS0 w w' := ⟨h.below.trans (hb.mono h.below.size), (hb.block _ (heap_lt h.res)).trans h.res⟩
end Go.Proofs.YtincgdbfmnnpaaaGreatDoor

/- pdu.Read. -/
namespace Go.Proofs.YtincgdbfmnnpaaaGreatDoor
open Go.RowKit
theorem px_of {w X : World} (h : PS0 w X) : ∀ wR, Below (X.alloc (.cells #[.int .i64 0, .bool false, .int .i64 0, .slice none 0 0, .slice none 0 0, .string ⟨#[]⟩] 40)).heap.size (X.alloc (.cells #[.int .i64 0, .bool false, .int .i64 0, .slice none 0 0, .slice none 0 0, .string ⟨#[]⟩] 40)) wR →
    PSt w X.heap.size [.int .i64 0, .bool false, .int .i64 0, .slice none 0 0, .slice none 0 0, .string ⟨#[]⟩] wR := fun wR hb => by
  have h1 := h.later ((Below.refl _ X).alloc (Nat.le_refl _) (.cells #[.int .i64 0, .bool false, .int .i64 0, .slice none 0 0, .slice none 0 0, .string ⟨#[]⟩] 40))
  have h2 := h1.later hb
  exact ⟨h2.below, h2.res, (hb.block _ (by simp)).trans (alloc_heap_new X _), heap_lt h.res⟩
theorem PSt.cells {w : World} {g : Nat} {a b c d e f : Value} {wr : World} (h : PSt w g [a, b, c, d, e, f] wr) : wr.cell? ⟨g, 0, none⟩ = some a ∧ wr.cell? ⟨g, 1, none⟩ = some b ∧ wr.cell? ⟨g, 2, none⟩ = some c ∧ wr.cell? ⟨g, 3, none⟩ = some d ∧ wr.cell? ⟨g, 4, none⟩ = some e ∧ wr.cell? ⟨g, 5, none⟩ = some f := by
  simp [World.cell?, h.pb]
theorem PSt.frz {w : World} {g : Nat} {pc : List Value} {wr : World} (h : PSt w g pc wr) : wr.frozen? ⟨g, 0, none⟩ = false ∧ wr.frozen? ⟨g, 1, none⟩ = false ∧ wr.frozen? ⟨g, 2, none⟩ = false ∧ wr.frozen? ⟨g, 3, none⟩ = false ∧ wr.frozen? ⟨g, 4, none⟩ = false ∧ wr.frozen? ⟨g, 5, none⟩ = false := by
  simp [World.frozen?, h.pb]
theorem PSt.set {w : World} {g : Nat} {pc : List Value} {wr : World} (h : PSt w g pc wr) (i : Nat) (v : Value) : PSt w g (pc.set i v) (wr.setCell ⟨g, i, none⟩ v) := by
  have g6 := grown_setCell wr ⟨g, i, none⟩ v
  refine ⟨h.below.setCell (p := ⟨g, i, none⟩) (Nat.le_of_lt h.ne) _, (g6.block _ (heap_lt h.res) (fun e => by injection e with e; have e' : w.heap.size = g := e; have := h.ne; omega)).trans h.res, ?_, h.ne⟩
  have := h.pb
  simp [World.setCell, Array.getElem?_modify, this]
theorem PSt.set4 {w : World} {g : Nat} {a b c d e f : Value} {wr : World} (h : PSt w g [a, b, c, d, e, f] wr) (a' b' c' d' : Value) :
    PSt w g [a', b', c', d', e, f] ((((wr.setCell ⟨g, 0, none⟩ a').setCell ⟨g, 1, none⟩ b').setCell ⟨g, 2, none⟩ c').setCell ⟨g, 3, none⟩ d') := (((h.set 0 a').set 1 b').set 2 c').set 3 d'
theorem own_set {w : World} {base : Nat} {e : TypeId} {size n : Nat} {v : Value} {xs : List Value} (h : w.ownsRow base e size v n xs) (g i : Nat) (hg : g < base) (u : Value) : (w.setCell ⟨g, i, none⟩ u).ownsRow base e size v n xs := by
  refine h.kept (grown_setCell w ⟨g, i, none⟩ u) ?_
  cases hv : v.ownBlock with
  | none => exact .inl rfl
  | some q => exact .inr (fun e => by injection e with e; have e' : q = g := e; have := (h.lt q hv).1; omega)
theorem own_set4 {w : World} {base : Nat} {e : TypeId} {size n : Nat} {v : Value} {xs : List Value} (h : w.ownsRow base e size v n xs) (g : Nat) (hg : g < base) (a b c d : Value) :
    ((((w.setCell ⟨g, 0, none⟩ a).setCell ⟨g, 1, none⟩ b).setCell ⟨g, 2, none⟩ c).setCell ⟨g, 3, none⟩ d).ownsRow base e size v n xs :=
  own_set (own_set (own_set (own_set h g 0 hg a) g 1 hg b) g 2 hg c) g 3 hg d
theorem unpad_num {l : List UInt8} {n : Int} (h0 : 0 ≤ n) (h : (unpad l n).2.2 = 0) : (unpad l n).2.1 = n + padI n := by
  unfold unpad at h ⊢
  rw [if_neg (by omega)] at h ⊢
  by_cases a : n > l.length ∨ n + padI n > l.length
  · rw [if_pos a] at h; simp at h
  · rw [if_neg a] at h ⊢
    by_cases b : padded (l.take n.toNat) ≠ l.take (n + padI n).toNat
    · rw [if_pos b] at h; simp at h
    · rw [if_neg b]
theorem pr_refuse (w : World) (l : List UInt8) (mode c : Int) (hc : pduErr l mode = c) (h0 : c ≠ 0) {wr : World} (hb : Below w.heap.size w wr) : PrPost w l mode (.returned (.tuple #[.agg pzL.toArray, .int .i64 0, .iface 31 (.int .i64 c)])) wr :=
  ⟨hb, .inr ⟨by rw [hc]; exact h0, by rw [hc, errV_ne h0]⟩⟩
theorem own_setRow {w : World} {base : Nat} {e : TypeId} {size n : Nat} {v : Value} {xs : List Value} (h : w.ownsRow base e size v n xs) (g : Nat) (hg : g < base) (cs : Array Value) : (w.setRow g cs).ownsRow base e size v n xs := by
  refine ⟨h.1, ?_⟩
  rcases h.2 with hn | ⟨q, cap, cur, h1, h2, h3, h4⟩
  · exact .inl hn
  · refine .inr ⟨q, cap, cur, h1, h2, ?_, h4⟩
    have hne : ¬ g = q := by omega
    simp only [World.setRow, Array.getElem?_modify, if_neg hne]
    exact h3
theorem pr_done (w : World) (l : List UInt8) (mode : Int) (g z E : Nat) (hg : w.heap.size < g) (h0 : pduErr l mode = 0) (hz : pduSize l mode = ((z : Int), 0)) {O1 : Int} {O2 : Bool} {O3 : Int} (h1 : O1 = headOp (l.take 48)) (h2 : O2 = headNow (l.take 48))
    (h3 : O3 = (((l.take 48).getD 1 0).toNat : Int)) {v1 v2 : Value} {t : ByteArray} {wF : World} {pc : List Value} (hst : PSt w g pc (wF.setCell ⟨g, 5, none⟩ (.string t))) (hE : pduEnd l = E) (hEz : E ≤ z)
    (hv1 : wF.ownsRow (g + 1) 60 1 v1 (headVals (l.take 48)).length (headVals (l.take 48)))
    (hv2 : wF.ownsRow (g + 1) 62 2 v2 (ahsAll ((l.take E).drop 48)).1.length (ahsV (ahsAll ((l.take E).drop 48)).1))
    (ht : t = bs (unpad (pduRest l mode) (dlen l)).1) (cs : Array Value) :
    PrPost w l mode (.returned (.tuple #[.agg #[.int .i64 O1, .bool O2, .int .i64 O3, v1, v2, .string t], .int .i64 (z : Int), .nilIface])) ((wF.setCell ⟨g, 5, none⟩ (.string t)).setRow w.heap.size cs) := by
  refine ⟨below_setRow hst.below (Nat.le_refl _) _, .inl ⟨h0, _, by rw [hz], v1, v2, by rw [h1, h2, h3, ht], ?_, ?_⟩⟩
  · exact own_mono (own_setRow (own_set hv1 g 5 (Nat.lt_succ_self g) _) w.heap.size (by omega) cs) (by omega)
  · have : (pduAll l mode).take (pduEnd l) = l.take E := by
      rw [hE]; unfold pduAll; rw [hz]
      show (l.take (z : Int).toNat).take E = _
      rw [Int.toNat_natCast, List.take_take, Nat.min_eq_left hEz]
    rw [this]
    exact own_mono (own_setRow (own_set hv2 g 5 (Nat.lt_succ_self g) _) w.heap.size (by omega) cs) (by omega)
set_option maxRecDepth 100000 in
set_option maxHeartbeats 4000000 in
theorem pr_main (s : ByteArray) (mode : Int) (w : World) (hw : Laid w) (he : ErrTy w) (hs : s.size ≤ 140737488355328) (z E P : Nat) (hN : PduNum s.data.toList mode z E P) (hz : z ≤ s.size) :
    Calls Tryz.prog 21 #[.string s, .int .i64 mode] w fun e w' => PrPost w s.data.toList mode e w' := by
  have hlen : s.data.toList.length = s.size := by rw [← Lib.size_eq]
  have h4s : 4 < s.size := by have := hN.len; rw [hlen] at this; omega
  have hb := hN.bounds
  have hm0 := hN.m0
  have hm3 := hN.m3
  obtain ⟨n, hn⟩ : ∃ n, n = dlen s.data.toList := ⟨_, rfl⟩
  rw [← hn] at hb
  obtain ⟨b1, b2, b3, b4, b5, b6, b7⟩ := hb
  have hZ := fun w => size_any s mode w hs
  rw [hN.size] at hZ
  have hE4 : (48 : Int) + (4 : Int) * ((s[4]'h4s).toNat : Int) = (E : Int) := by
    have e1 := hN.E_eq
    rw [hw4_eq s (by have := hN.len; rw [hlen] at this; exact this)] at e1
    omega
  have hi4 : (4 : Int) < (s.size : Int) := by omega
  have h4 := byte_lt (s[4]'h4s)
  have hE4n : 48 + 4 * (s[4]'h4s).toNat = E := by omega
  have hEx : (48 : Int) + (4 : Int) * ((s[4]'h4s).toNat : Int) ≤ (s.size : Int) := by omega
  have hEs : (E : Int) ≤ (s.size : Int) := by omega
  have hzs : (z : Int) ≤ (s.size : Int) := by omega
  have ha1 := (and_one hm0 hm3).1
  have ha2 := (and_one hm0 hm3).2
  have herr := pdu_err hN (by rw [hlen]; exact hz)
  rw [← hn] at herr
  have HERR := Lib.hid herr
  have HLEN := Lib.hid hlen
  have HNN := Lib.hid hN
  have HN := Lib.hid hn
  have HZ := Lib.hid hZ
  have HW := Lib.hid hw
  have HE := Lib.hid he
  have HA1 := Lib.hid ha1
  have HA2 := Lib.hid ha2
  have HB7 := Lib.hid b7
  have HE4 := Lib.hid hE4
  have HE4N := Lib.hid hE4n
  clear herr hlen hN hn hZ hw he hE4 hE4n ha1 ha2 b7
  obtain ⟨T, hT⟩ : ∃ T, T = at2 E mode := ⟨_, rfl⟩
  have HT := Lib.hid hT
  clear hT
  rcases (by omega : mode % 2 = 1 ∨ mode % 2 = 0) with hm1 | hm1
  case' inl =>
    have ha1 : (bits .and .i64 mode 1 != 0) = true := by rw [HA1.out]; exact decide_eq_true hm1
    have hTE : T = E + 4 := by rw [HT.out]; unfold at2; rw [hm1]; rfl
    have b7 := HB7.out hm1
    have HM1 := Lib.hid hm1
    have HTE := Lib.hid hTE
    clear hm1 hTE
    obtain ⟨X, hX⟩ : ∃ X, X = bs (digest (s.extract 0 E).data.toList) := ⟨_, rfl⟩
    have hDg := fun w => digest_any (s.extract 0 E) w (by rw [Lib.size_eq, Lib.extract_data]; simp; omega)
    rw [← hX] at hDg
    have hXl : X.toList = digest (s.data.toList.take E) := by rw [hX, bs_toList, Lib.extract_data]; simp
    have hSl : (s.extract E T).toList = (s.data.toList.drop E).take 4 := by rw [Lib.extract_toList, HTE.out]; congr 1; omega
    have hE44 : (T : Int) ≤ (s.size : Int) := by have := HTE.out; omega
    have hE45 : (E : Int) ≤ (T : Int) := by have := HTE.out; omega
    have hE46 : IntKind.i64.wrap ((E : Int) + 4) = (T : Int) := by have := HTE.out; rw [IntWalk.i64_in _ (by omega)]; omega
    have HDG := Lib.hid hDg
    have HXL := Lib.hid hXl
    have HSL := Lib.hid hSl
    clear hDg hX hXl hSl
    go_enter Tryz.func21, Tryz.ntmps21
    go_wp2_with fail
    refine (HZ.out _).mono ?_
    rintro e w1 ⟨rfl, kq, rfl⟩
    rw [show errV 0 = .nilIface from rfl]
    go_wp2_with fail
    rw [HE4.out, HE4N.out]
    clear h4 hEx
    by_cases hcd : (s.data.toList.drop E).take 4 = digest (s.data.toList.take E)
    case' neg =>
      have hq : (!X.toList == (s.extract E T).toList) = true := by
        have : (X.toList == (s.extract E T).toList) = false := by rw [HXL.out, HSL.out]; simpa using fun h => hcd h.symm
        rw [this]; rfl
      have HCD := Lib.hid hcd
      clear hcd
      go_region_held3 (fun _ => True) (trivial) ((go_at_call 31; refine (HDG.out _).mono ?_; rintro e w6 ⟨rfl, hb6⟩))
      have hps : PS0 w w6 := PS0.later ⟨(ps_start w (kq + 1)).1, (ps_start w (kq + 1)).2⟩ hb6
      have HPS := Lib.hid hps
      clear hps hb6
      go_wp2_with (refine wpList_store_row rfl 40 _ _ rfl w.heap.size #[.int .i64 0, .bool false, .int .i64 0, .slice none 0 0, .slice none 0 0, .string ⟨#[]⟩] rfl rfl 40 _ HPS.out.res pduinfo rfl (by simp [Value.oneCell']) ?_)
      have he15 : pduErr s.data.toList mode = 15 := by rw [HERR.out, if_pos ⟨HM1.out, HCD.out⟩]
      exact bodyPost_ret (results_cell2 Tryz.results21 _ _ w.heap.size pzL _ rfl (range_of_heap (setRow_heap _ _ _ _ _ _ HPS.out.res)) Tryz.underlying40 rfl pduinfo) rfl ⟨below_setRow HPS.out.below (Nat.le_refl _) _, .inr ⟨by rw [he15]; decide, by rw [he15]; rfl⟩⟩
    case' pos =>
      have hq : (!X.toList == (s.extract E T).toList) = false := by rw [HXL.out, HSL.out, hcd]; simp
      have hnd : ¬ (mode % 2 = 1 ∧ (s.data.toList.drop E).take 4 ≠ digest (s.data.toList.take E)) := fun x => x.2 hcd
      have HND := Lib.hid hnd
      clear hcd hnd
      go_region_held3 (fun _ => True) (trivial) ((go_at_call 31; refine (HDG.out _).mono ?_; rintro e w6 ⟨rfl, hb6⟩))
      have hps : PS0 w w6 := PS0.later ⟨(ps_start w (kq + 1)).1, (ps_start w (kq + 1)).2⟩ hb6
      have HPS := Lib.hid hps
      clear hps hb6 hq HDG HXL HSL HM1 HTE hE44 hE45
      go_wp2_with fail
      have hX := px_of HPS.out
      have hL : Laid (w6.alloc (.cells #[.int .i64 0, .bool false, .int .i64 0, .slice none 0 0, .slice none 0 0, .string ⟨#[]⟩] 40)) := HW.out.below (HPS.out.below.alloc HPS.out.below.size _)
      obtain ⟨g, hg⟩ : ∃ g, g = w6.heap.size := ⟨_, rfl⟩
      rw [← hg] at hX ⊢
      have HX := Lib.hid hX
      have HL := Lib.hid hL
      clear hX hL hg HPS hE46
  case' inr =>
    have ha1 : (bits .and .i64 mode 1 != 0) = false := by rw [HA1.out]; exact decide_eq_false (by omega)
    have hTE : T = E := by rw [HT.out]; unfold at2; rw [hm1]; rfl
    have hnd : ¬ (mode % 2 = 1 ∧ (s.data.toList.drop E).take 4 ≠ digest (s.data.toList.take E)) := fun x => by omega
    have HND := Lib.hid hnd
    have HTE := Lib.hid hTE
    clear hm1 hnd hTE
    go_enter Tryz.func21, Tryz.ntmps21
    go_wp2_with fail
    refine (HZ.out _).mono ?_
    rintro e w1 ⟨rfl, kq, rfl⟩
    rw [show errV 0 = .nilIface from rfl]
    go_wp2_with fail
    rw [show (48 : Int) + (4 : Int) * ((s[4]'h4s).toNat : Int) = (T : Int) by rw [HTE.out]; exact HE4.out, HE4N.out]
    clear h4 hEx
    have hps : PS0 w ((w.alloc (.cells #[.int .i64 0, .bool false, .int .i64 0, .slice none 0 0, .slice none 0 0, .string ⟨#[]⟩] 40)).drewN kq) := ⟨(ps_start w kq).1, (ps_start w kq).2⟩
    have hX := px_of hps
    have hL : Laid (((w.alloc (.cells #[.int .i64 0, .bool false, .int .i64 0, .slice none 0 0, .slice none 0 0, .string ⟨#[]⟩] 40)).drewN kq).alloc (.cells #[.int .i64 0, .bool false, .int .i64 0, .slice none 0 0, .slice none 0 0, .string ⟨#[]⟩] 40)) := HW.out.below (hps.below.alloc hps.below.size _)
    rw [show ((w.alloc (.cells #[.int .i64 0, .bool false, .int .i64 0, .slice none 0 0, .slice none 0 0, .string ⟨#[]⟩] 40)).drewN kq).heap.size = w.heap.size + 1 by simp] at hX
    obtain ⟨g, hg⟩ : ∃ g, g = w.heap.size + 1 := ⟨_, rfl⟩
    rw [← hg] at hX ⊢
    have HX := Lib.hid hX
    have HL := Lib.hid hL
    clear hX hL hg hps HTE
  all_goals
    have hgw := (HX.out _ (Below.refl _ _)).ne
    have hTz : (T : Int) ≤ (z : Int) := by have := HT.out; unfold at2 at this; have := HB7.out; omega
    have hET : E ≤ T := by have := HT.out; unfold at2 at this; omega
    have hr48 : ((s.extract 0 E).extract 0 48).data.toList = s.data.toList.take 48 := by
      rw [Lib.extract_data, Lib.extract_data]; simp [List.take_take]; omega
    have hRd := fun w hw => read_any ((s.extract 0 E).extract 0 48) w hw
    rw [hr48] at hRd
    have HRD := Lib.hid hRd
    clear hRd hr48
    refine (HRD.out _ HL.out).mono ?_
    rintro e wR ⟨hbR, hR⟩
    have hst := HX.out wR hbR
    have HST := Lib.hid hst
    obtain ⟨c0, c1, c2, c3, c4, c5⟩ := hst.cells
    obtain ⟨f0, f1, f2, f3, f4, f5⟩ := hst.frz
    clear hst
    by_cases hhe : headErr (s.data.toList.take 48) = 0
    case' neg =>
      obtain ⟨h0, -⟩ | ⟨-, rfl⟩ := hR
      case' inl => exact absurd h0 hhe
      case' inr =>
        rw [errV_ne hhe]
        have hmj : pduErr s.data.toList mode = headErr (s.data.toList.take 48) := by rw [HERR.out, if_neg HND.out, if_pos hhe]
        obtain ⟨c, hc⟩ : ∃ c, c = headErr (s.data.toList.take 48) := ⟨_, rfl⟩
        rw [← hc] at hmj hhe ⊢
        have HMJ := Lib.hid hmj
        have HHE := Lib.hid hhe
        clear hmj hhe hc
        unfold hzV
        go_wp2_with fail
        have hst2 := HST.out.set4 (.int .i64 0) (.bool false) (.int .i64 0) (.slice none 0 0)
        refine (tell_any _ c (-1) _ (HE.out.below hst2.below) (.inl ⟨(errV_ne HHE.out).symm, rfl⟩)).mono ?_
        rintro e wT ⟨rfl, hbT⟩
        have hst3 := hst2.later hbT
        have HST3 := Lib.hid hst3
        clear hst2 hst3 hbT c0 c1 c2 c3 c4 c5 f0 f1 f2 f3 f4 f5
        go_wp2_with (refine wpList_store_row rfl 40 _ _ rfl w.heap.size #[.int .i64 0, .bool false, .int .i64 0, .slice none 0 0, .slice none 0 0, .string ⟨#[]⟩] rfl rfl 40 _ HST3.out.res pduinfo rfl (by simp [Value.oneCell']) ?_)
        exact bodyPost_ret (results_cell2 Tryz.results21 _ _ w.heap.size pzL _ rfl (range_of_heap (setRow_heap _ _ _ _ _ _ HST3.out.res)) Tryz.underlying40 rfl pduinfo) rfl (pr_refuse w _ mode c HMJ.out HHE.out (below_setRow HST3.out.below (Nat.le_refl _) _))
    case' pos =>
      obtain ⟨-, v, hve, hvo⟩ | ⟨h0, -⟩ := hR
      case' inr => exact absurd hhe h0
      case' inl =>
        subst hve
        have hgB := heap_lt (HX.out _ (Below.refl _ _)).pb
        have hvg := own_mono (base' := g + 1) hvo hgB
        obtain ⟨av, nv, cv, rfl⟩ := own_slice hvo
        have HHE0 := Lib.hid hhe
        have HVG := Lib.hid hvg
        have hn3 : beN ((((s.data.toList.take 48).drop 5)).take 3) = n := by
          rw [HN.out]; unfold dlen; rw [List.drop_take, List.take_take]; rfl
        clear hvo hvg hgB HX hhe c4 c5 f5
        have hhe : headErr (s.data.toList.take 48) = 0 := HHE0.out
        rw [hn3]
        obtain ⟨O1, hO1⟩ : ∃ O1, O1 = headOp (s.data.toList.take 48) := ⟨_, rfl⟩
        obtain ⟨O2, hO2⟩ : ∃ O2, O2 = headNow (s.data.toList.take 48) := ⟨_, rfl⟩
        obtain ⟨O3, hO3⟩ : ∃ O3 : Int, O3 = (((s.data.toList.take 48).getD 1 0).toNat : Int) := ⟨_, rfl⟩
        obtain ⟨O4, hO4⟩ : ∃ O4 : Int, O4 = (((s.data.toList.take 48).getD 4 0).toNat : Int) := ⟨_, rfl⟩
        rw [← hO1, ← hO2, ← hO3, ← hO4]
        have HO1 := Lib.hid hO1
        have HO2 := Lib.hid hO2
        have HO3 := Lib.hid hO3
        clear hn3 hO1 hO2 hO3 hO4
        go_wp2_with fail
        have hst2 := HST.out.set4 (.int .i64 O1) (.bool O2) (.int .i64 O3) (.slice av nv cv)
        have hal : ((s.extract 0 E).extract 48 (min E s.size)).data.toList = (s.data.toList.take E).drop 48 := by
          rw [Lib.extract_data, Lib.extract_data]
          have : min E s.size = E := by omega
          rw [this]; simp [List.drop_take, List.take_take]
        have hA := ahs_any ((s.extract 0 E).extract 48 (min E s.size)) _ (HE.out.below hst2.below)
        rw [hal] at hA
        refine hA.mono ?_
        rintro e wA ⟨hbA, va, ea, rfl, hea, hoa⟩
        have hgl := heap_lt hst2.pb
        have hst3 := hst2.later hbA
        have hvg := own_later (own_set4 HVG.out g (Nat.lt_succ_self g) (.int .i64 O1) (.bool O2) (.int .i64 O3) (.slice av nv cv)) hbA
        have hog := own_mono (base' := g + 1) hoa hgl
        obtain ⟨aa, na, ca, rfl⟩ := own_slice hoa
        have HVG2 := Lib.hid hvg
        have HOG := Lib.hid hog
        have HST3 := Lib.hid hst3
        clear hA hal hgl hvg hoa hog hbA hst2
        obtain ⟨-, -, -, -, c4, c5⟩ := hst3.cells
        obtain ⟨-, -, -, -, f4, f5⟩ := hst3.frz
        clear hst3 c0 c1 c2 c3 f0 f1 f2 f3 HST
        by_cases hae : (ahsAll ((s.data.toList.take E).drop 48)).2.1 = 0
        case' neg =>
          have hmj : pduErr s.data.toList mode = (ahsAll ((s.data.toList.take E).drop 48)).2.1 := by rw [HERR.out, if_neg HND.out, if_neg (fun x => x hhe), if_pos hae]
          obtain ⟨c, hc⟩ : ∃ c, c = (ahsAll ((s.data.toList.take E).drop 48)).2.1 := ⟨_, rfl⟩
          obtain ⟨pl, hpl⟩ : ∃ pl, pl = (ahsAll ((s.data.toList.take E).drop 48)).2.2 := ⟨_, rfl⟩
          rw [← hc, ← hpl] at hea
          rw [← hc] at hmj hae
          have HMJ := Lib.hid hmj
          have HHE := Lib.hid hae
          clear hmj hae hc hpl hhe
          have hea2 : IsErr (wA.setCell ⟨g, 4, none⟩ (.slice aa na ca)) ea c pl := by
            rcases hea with hea | ⟨h0, b, hb0, hb1, hb2⟩
            · exact .inl hea
            · refine .inr ⟨h0, b, hb0, ?_, ?_⟩
              · refine (World.cell?_setCell_other _ _ _ _ (fun h => ?_)).trans ?_; · injection h with _ h2; cases h2
                exact hb1
              · refine (World.cell?_setCell_other _ _ _ _ (fun h => ?_)).trans ?_; · injection h with _ h2; cases h2
                exact hb2
          obtain ⟨te, ve, rfl⟩ : ∃ te ve, ea = .iface te ve := by
            rcases hea with ⟨h, -⟩ | ⟨-, b, h, -⟩
            · exact ⟨_, _, h.trans (errV_ne HHE.out)⟩
            · exact ⟨_, _, h⟩
          have HEA := Lib.hid hea2
          clear hea hea2
          go_wp2_with fail
          have hst4 := HST3.out.set 4 (.slice aa na ca)
          refine (tell_any _ c pl _ (HE.out.below hst4.below) HEA.out).mono ?_
          rintro e wT ⟨rfl, hbT⟩
          have hst5 := hst4.later hbT
          have HST5 := Lib.hid hst5
          clear hst4 hst5 hbT c4 c5 f4 f5
          go_wp2_with (refine wpList_store_row rfl 40 _ _ rfl w.heap.size #[.int .i64 0, .bool false, .int .i64 0, .slice none 0 0, .slice none 0 0, .string ⟨#[]⟩] rfl rfl 40 _ HST5.out.res pduinfo rfl (by simp [Value.oneCell']) ?_)
          exact bodyPost_ret (results_cell2 Tryz.results21 _ _ w.heap.size pzL _ rfl (range_of_heap (setRow_heap _ _ _ _ _ _ HST5.out.res)) Tryz.underlying40 rfl pduinfo) rfl (pr_refuse w _ mode c HMJ.out HHE.out (below_setRow HST5.out.below (Nat.le_refl _) _))
        case' pos =>
          have hea' : ea = .nilIface := by
            rw [hae] at hea
            rcases hea with ⟨h, -⟩ | ⟨h, -⟩
            · exact h
            · exact absurd rfl h
          subst hea'
          have HAE := Lib.hid hae
          have HHE := Lib.hid hhe
          clear hae hhe hea
          have hul : (s.extract T z).data.toList = pduRest s.data.toList mode := by
            rw [pdu_rest HNN.out, Lib.extract_data, HT.out]
            simp [List.drop_take]
          have hU := fun w => unpad_any (s.extract T z) n w (by rw [Lib.size_eq, Lib.extract_data]; simp; omega) (by omega)
          rw [hul] at hU
          have HU := Lib.hid hU
          clear hul hU
          go_wp2_with fail
          refine (HU.out _).mono ?_
          rintro e wU ⟨⟨t, a, b, rfl, hu⟩, kU, rfl⟩
          have hst6 := (HST3.out.set 4 (.slice aa na ca)).later (below_drewN (Below.refl _ _) kU)
          have HST6 := Lib.hid hst6
          by_cases hb0 : b = 0
          case' neg =>
            have hmj : pduErr s.data.toList mode = b := by
              rw [HERR.out, if_neg HND.out, if_neg (fun x => x HHE.out), if_neg (fun x => x HAE.out), hu, if_pos hb0]
            have HMJ := Lib.hid hmj
            have HB0 := Lib.hid hb0
            rw [errV_ne hb0]
            clear hmj hb0 hu hst6 c4 c5 f4 f5
            go_wp2_with (refine wpList_store_row rfl 40 _ _ rfl w.heap.size #[.int .i64 0, .bool false, .int .i64 0, .slice none 0 0, .slice none 0 0, .string ⟨#[]⟩] rfl rfl 40 _ HST6.out.res pduinfo rfl (by simp [Value.oneCell']) ?_)
            exact bodyPost_ret (results_cell2 Tryz.results21 _ _ w.heap.size pzL _ rfl (range_of_heap (setRow_heap _ _ _ _ _ _ HST6.out.res)) Tryz.underlying40 rfl pduinfo) rfl (pr_refuse w _ mode b HMJ.out HB0.out (below_setRow HST6.out.below (Nat.le_refl _) _))
          case' pos =>
            subst hb0
            have ha := unpad_num (l := pduRest s.data.toList mode) (n := (n : Int)) (by omega) (by rw [hu])
            rw [hu] at ha
            have hpa : padI (n : Int) = (P : Int) := by rw [HN.out]; exact HNN.out.P_eq
            rw [hpa] at ha
            obtain ⟨S, hS⟩ : ∃ S, S = n + P := ⟨_, rfl⟩
            have ha' : a = (S : Int) := by have : a = (n : Int) + (P : Int) := ha; omega
            subst ha'
            have hTU : T + S ≤ z := by have := HT.out; unfold at2 at this; have := HB7.out; omega
            obtain ⟨U, hU⟩ : ∃ U, U = T + S := ⟨_, rfl⟩
            have hUw : IntKind.i64.wrap ((T : Int) + (S : Int)) = (U : Int) := by rw [IntWalk.i64_in _ (by omega)]; omega
            have hTU : (T : Int) ≤ (U : Int) := by omega
            have hUz : (U : Int) ≤ (z : Int) := by omega
            have hUs : (U : Int) ≤ (s.size : Int) := by omega
            have hd1 : (s.extract T U).data.toList = (pduRest s.data.toList mode).take (n + P) := by
              rw [pdu_rest HNN.out, Lib.extract_data, ← HT.out]
              simp [List.drop_take, List.take_take]; omega
            have hd2 : (s.extract U z).toList = (pduRest s.data.toList mode).drop (n + P) := by
              rw [pdu_rest HNN.out, Lib.extract_toList, ← HT.out, List.drop_drop, ← hS, ← hU, List.drop_take]
            have HU3 := Lib.hid hu
            have HD1 := Lib.hid hd1
            have HD2 := Lib.hid hd2
            have HS := Lib.hid hS
            have HUU := Lib.hid hU
            have hv1 := own_later (own_set HVG2.out g 4 (Nat.lt_succ_self g) (.slice aa na ca)) (below_drewN (Below.refl _ _) kU)
            have hv2 := own_later (own_set HOG.out g 4 (Nat.lt_succ_self g) (.slice aa na ca)) (below_drewN (Below.refl _ _) kU)
            have HV1 := Lib.hid hv1
            have HV2 := Lib.hid hv2
            obtain ⟨c0, c1, c2, c3, -, -⟩ := hst6.cells
            clear ha hpa hu hS hU hst6 hd1 hd2 hv1 hv2 HVG2 HOG
            rw [show errV 0 = .nilIface from rfl]
            by_cases hm2 : mode / 2 = 1 ∧ 0 < n
            case' neg =>
              have hq : ¬ (mode / 2 = 1 ∧ 0 < n ∧ (pduRest s.data.toList mode).drop (n + P) ≠ digest ((pduRest s.data.toList mode).take (n + P))) := fun x => hm2 ⟨x.1, x.2.1⟩
              have HQ := Lib.hid hq
              have hg : (bits .and .i64 mode 2 != 0) = false ∨ n = 0 := by
                by_cases h : mode / 2 = 1
                · right; omega
                · left; rw [HA2.out]; exact decide_eq_false h
              clear hm2 hq
              go_wp2_with fail
              rcases hg with hg | hg
              case' inl => go_quiet (fail)
              case' inr =>
                have hg2 : ¬ (0 : Int) < (n : Int) := by omega
                by_cases hg : (bits .and .i64 mode 2 != 0) = true
                case' neg =>
                  rw [Bool.not_eq_true] at hg
                  go_quiet (fail)
                case' pos => go_quiet (fail)
              all_goals
                have hF := HST6.out.later (below_drewN (Below.refl _ _) nq)
                have hv1 := own_later HV1.out (below_drewN (Below.refl _ _) nq)
                have hv2 := own_later HV2.out (below_drewN (Below.refl _ _) nq)
                generalize (((wA.setCell ⟨g, 4, none⟩ (Value.slice aa na ca)).drewN kU).drewN nq) = wF at hF hv1 hv2 ⊢
                have HF := Lib.hid hF
                have HV1F := Lib.hid hv1
                have HV2F := Lib.hid hv2
                obtain ⟨c0, c1, c2, c3, c4, c5⟩ := hF.cells
                obtain ⟨-, -, -, -, -, f5⟩ := hF.frz
                clear hF hv1 hv2 HV1 HV2
                by_cases hbig : 100000 < n
                case' pos =>
                  first
                  | (exfalso; omega)
                  | (have hmj : pduErr s.data.toList mode = 4 := by
                       rw [HERR.out, if_neg HND.out, if_neg (fun x => x HHE.out), if_neg (fun x => x HAE.out), if_neg (fun x => x (by rw [HU3.out])), if_neg HQ.out, if_pos hbig]
                     have HMJ := Lib.hid hmj
                     clear hmj c0 c1 c2 c3 c4 c5 f5
                     go_wp2_with (refine wpList_store_row rfl 40 _ _ rfl w.heap.size #[.int .i64 0, .bool false, .int .i64 0, .slice none 0 0, .slice none 0 0, .string ⟨#[]⟩] rfl rfl 40 _ HF.out.res pduinfo rfl (by simp [Value.oneCell']) ?_)
                     refine bodyPost_ret (results_cell2 Tryz.results21 _ _ w.heap.size pzL _ rfl (range_of_heap (setRow_heap _ _ _ _ _ _ HF.out.res)) Tryz.underlying40 rfl pduinfo) rfl ?_
                     exact pr_refuse w _ mode 4 HMJ.out (by decide) (below_setRow HF.out.below (Nat.le_refl _) _))
                case' neg =>
                  have hmj : pduErr s.data.toList mode = 0 := by
                    rw [HERR.out, if_neg HND.out, if_neg (fun x => x HHE.out), if_neg (fun x => x HAE.out), if_neg (fun x => x (by rw [HU3.out])), if_neg HQ.out, if_neg hbig]
                  have HMJ := Lib.hid hmj
                  clear hmj
                  have hst7 := HF.out.set 5 (.string t)
                  have HST7 := Lib.hid hst7
                  clear hst7
                  go_wp2_with (refine wpList_store_row rfl 40 _ _ rfl w.heap.size #[.int .i64 O1, .bool O2, .int .i64 O3, .slice av nv cv, .slice aa na ca, .string t] rfl rfl 40 _ HST7.out.res pduinfo rfl (by simp [Value.oneCell']) ?_)
                  refine bodyPost_ret (results_cell2 Tryz.results21 _ _ w.heap.size [.int .i64 O1, .bool O2, .int .i64 O3, .slice av nv cv, .slice aa na ca, .string t] _ rfl (range_of_heap (setRow_heap _ _ _ _ _ _ HST7.out.res)) Tryz.underlying40 rfl pduinfo) rfl ?_
                  exact pr_done w s.data.toList mode g z E hgw HMJ.out HNN.out.size HO1.out HO2.out HO3.out HST7.out (pdu_end HNN.out) (by omega) HV1F.out HV2F.out (by rw [← HN.out, HU3.out]; exact bs_eq rfl) _
            case' pos =>
              obtain ⟨hm2, hn0⟩ := hm2
              have hg : (bits .and .i64 mode 2 != 0) = true := by rw [HA2.out]; exact decide_eq_true hm2
              have hg2 : (0 : Int) < (n : Int) := by omega
              have hg3 : decide (0 < n) = true := decide_eq_true hn0
              obtain ⟨X, hX⟩ : ∃ X, X = bs (digest (s.extract T U).data.toList) := ⟨_, rfl⟩
              have hDg := fun w => digest_any (s.extract T U) w (by rw [Lib.size_eq, Lib.extract_data]; simp; omega)
              rw [← hX] at hDg
              have hXl : X.toList = digest ((pduRest s.data.toList mode).take (n + P)) := by rw [hX, bs_toList, HD1.out]
              have HDG := Lib.hid hDg
              have HXL := Lib.hid hXl
              have HM2 := Lib.hid hm2
              have HN0 := Lib.hid hn0
              clear hDg hX hXl hm2 hn0
              go_wp2_with fail
              by_cases hcd : (pduRest s.data.toList mode).drop (n + P) = digest ((pduRest s.data.toList mode).take (n + P))
              case' neg =>
                have hq : (!X.toList == (s.extract U z).toList) = true := by
                  have : (X.toList == (s.extract U z).toList) = false := by rw [HXL.out, HD2.out]; simpa using fun h => hcd h.symm
                  rw [this]; rfl
                have HCD := Lib.hid hcd
                clear hcd
                go_region_held3 (fun _ => True) (trivial) ((go_at_call 31; refine (HDG.out _).mono ?_; rintro e w6 ⟨rfl, hb6⟩))
                have he13 : pduErr s.data.toList mode = 13 := by
                  rw [HERR.out, if_neg HND.out, if_neg (fun x => x HHE.out), if_neg (fun x => x HAE.out), if_neg (fun x => x (by rw [HU3.out])), if_pos ⟨HM2.out, HN0.out, HCD.out⟩]
                have hF := HST6.out.later ((below_drewN (Below.refl _ _) 1).trans hb6)
                have HF := Lib.hid hF
                have HMJ := Lib.hid he13
                clear hF he13 hb6 c0 c1 c2 c3
                go_wp2_with (refine wpList_store_row rfl 40 _ _ rfl w.heap.size #[.int .i64 0, .bool false, .int .i64 0, .slice none 0 0, .slice none 0 0, .string ⟨#[]⟩] rfl rfl 40 _ HF.out.res pduinfo rfl (by simp [Value.oneCell']) ?_)
                exact bodyPost_ret (results_cell2 Tryz.results21 _ _ w.heap.size pzL _ rfl (range_of_heap (setRow_heap _ _ _ _ _ _ HF.out.res)) Tryz.underlying40 rfl pduinfo) rfl (pr_refuse w _ mode 13 HMJ.out (by decide) (below_setRow HF.out.below (Nat.le_refl _) _))
              case' pos =>
                have hq : (!X.toList == (s.extract U z).toList) = false := by rw [HXL.out, HD2.out, hcd]; simp
                have HQ := Lib.hid (show ¬ (mode / 2 = 1 ∧ 0 < n ∧ (pduRest s.data.toList mode).drop (n + P) ≠ digest ((pduRest s.data.toList mode).take (n + P))) from fun x => x.2.2 hcd)
                clear hcd
                go_region_held3 (fun _ => True) (trivial) ((go_at_call 31; refine (HDG.out _).mono ?_; rintro e wF ⟨rfl, hb6⟩))
                have hF := HST6.out.later ((below_drewN (Below.refl _ _) 1).trans hb6)
                have hv1 := own_later HV1.out ((below_drewN (Below.refl _ _) 1).trans hb6)
                have hv2 := own_later HV2.out ((below_drewN (Below.refl _ _) 1).trans hb6)
                clear hq hb6 c0 c1 c2 c3
                have HF := Lib.hid hF
                have HV1F := Lib.hid hv1
                have HV2F := Lib.hid hv2
                obtain ⟨c0, c1, c2, c3, c4, c5⟩ := hF.cells
                obtain ⟨-, -, -, -, -, f5⟩ := hF.frz
                clear hF hv1 hv2 HV1 HV2
                by_cases hbig : 100000 < n
                case' pos =>
                  have hmj : pduErr s.data.toList mode = 4 := by
                    rw [HERR.out, if_neg HND.out, if_neg (fun x => x HHE.out), if_neg (fun x => x HAE.out), if_neg (fun x => x (by rw [HU3.out])), if_neg HQ.out, if_pos hbig]
                  have HMJ := Lib.hid hmj
                  clear hmj c0 c1 c2 c3 c4 c5 f5
                  go_wp2_with (refine wpList_store_row rfl 40 _ _ rfl w.heap.size #[.int .i64 0, .bool false, .int .i64 0, .slice none 0 0, .slice none 0 0, .string ⟨#[]⟩] rfl rfl 40 _ HF.out.res pduinfo rfl (by simp [Value.oneCell']) ?_)
                  refine bodyPost_ret (results_cell2 Tryz.results21 _ _ w.heap.size pzL _ rfl (range_of_heap (setRow_heap _ _ _ _ _ _ HF.out.res)) Tryz.underlying40 rfl pduinfo) rfl ?_
                  exact pr_refuse w _ mode 4 HMJ.out (by decide) (below_setRow HF.out.below (Nat.le_refl _) _)
                case' neg =>
                  have hmj : pduErr s.data.toList mode = 0 := by
                    rw [HERR.out, if_neg HND.out, if_neg (fun x => x HHE.out), if_neg (fun x => x HAE.out), if_neg (fun x => x (by rw [HU3.out])), if_neg HQ.out, if_neg hbig]
                  have HMJ := Lib.hid hmj
                  clear hmj
                  have hst7 := HF.out.set 5 (.string t)
                  have HST7 := Lib.hid hst7
                  clear hst7
                  go_wp2_with (refine wpList_store_row rfl 40 _ _ rfl w.heap.size #[.int .i64 O1, .bool O2, .int .i64 O3, .slice av nv cv, .slice aa na ca, .string t] rfl rfl 40 _ HST7.out.res pduinfo rfl (by simp [Value.oneCell']) ?_)
                  refine bodyPost_ret (results_cell2 Tryz.results21 _ _ w.heap.size [.int .i64 O1, .bool O2, .int .i64 O3, .slice av nv cv, .slice aa na ca, .string t] _ rfl (range_of_heap (setRow_heap _ _ _ _ _ _ HST7.out.res)) Tryz.underlying40 rfl pduinfo) rfl ?_
                  exact pr_done w s.data.toList mode g z E hgw HMJ.out HNN.out.size HO1.out HO2.out HO3.out HST7.out (pdu_end HNN.out) (by omega) HV1F.out HV2F.out (by rw [← HN.out, HU3.out]; exact bs_eq rfl) _
end Go.Proofs.YtincgdbfmnnpaaaGreatDoor

/- pdu.Read, all of it. -/
namespace Go.Proofs.YtincgdbfmnnpaaaGreatDoor
open Go.RowKit
theorem pr_any (s : ByteArray) (mode : Int) (w : World) (hw : Laid w) (he : ErrTy w) (hs : s.size ≤ 140737488355328) :
    Calls Tryz.prog 21 #[.string s, .int .i64 mode] w fun e w' => PrPost w s.data.toList mode e w' := by
  have hlen : s.data.toList.length = s.size := by rw [← Lib.size_eq]
  by_cases h0 : (pduSize s.data.toList mode).2 = 0
  · obtain ⟨z, E, P, hN⟩ := pdu_num h0
    by_cases hz : s.size < z
    · have h7 : pduErr s.data.toList mode = 7 := by
        unfold pduErr
        rw [hN.size]
        rw [if_neg (show ¬ (((z : Int), (0 : Int)).2 ≠ 0) from fun x => x rfl), if_pos (show ((s.data.toList.length : Int) < ((z : Int), (0 : Int)).1) by show (s.data.toList.length : Int) < (z : Int); omega)]
      refine (pr_short s mode w hs z hN.size hz).mono ?_
      rintro e w' ⟨rfl, hb⟩
      exact ⟨hb, .inr ⟨by rw [h7]; decide, by rw [h7]⟩⟩
    · exact pr_main s mode w hw he hs z E P hN (by omega)
  · have h7 : pduErr s.data.toList mode = (pduSize s.data.toList mode).2 := by unfold pduErr; rw [if_pos h0]
    refine (pr_size s mode w hs h0).mono ?_
    rintro e w' ⟨rfl, hb⟩
    exact ⟨hb, .inr ⟨by rw [h7]; exact h0, by rw [h7]⟩⟩
end Go.Proofs.YtincgdbfmnnpaaaGreatDoor
