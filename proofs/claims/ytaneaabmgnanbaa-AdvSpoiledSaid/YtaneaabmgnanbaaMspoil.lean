/- Own lemmas: a byte of an encoding that is changed is noticed. -/
import Derived.Test.YtaneaabmgnanbaaMdec
namespace Go.Proofs.Ytaneaabmgnanbaa.M
open Go.RowKit Go.Proofs.YtaneaabmgnanbaaW.PrintWords Go.Proofs.YtaneaabmgnanbaaW.PrintLast Go.Proofs.YtaneaabmgnanbaaW.PrintMore Go.Proofs.Ytaneaabmgnanbaa.PAdvBack
set_option linter.unusedVariables false
set_option linter.unusedSimpArgs false

/-! The pure law -/
theorem str_append (a b : List Int) : strOfNums a ++ strOfNums b = strOfNums (a ++ b) := by
  apply ByteArray.ext
  rw [ByteArray.data_append]
  simp [strOfNums]
theorem str_take (l : List Int) (q : Nat) (h : q ≤ l.length) : (strOfNums l).extract 0 q = strOfNums (l.take q) := by
  apply ByteArray.ext
  rw [ByteArray.data_extract]
  simp [strOfNums, List.map_take]
theorem str_drop (l : List Int) (q : Nat) : (strOfNums l).extract q (strOfNums l).size = strOfNums (l.drop q) := by
  apply ByteArray.ext
  rw [ByteArray.data_extract, strOfNums_size]
  simp [strOfNums, List.map_drop]
  rw [List.take_of_length_le (by simp)]
theorem str_set (l : List Int) (q : Nat) (h : q < l.length) (c : Int) : (strOfNums l).extract 0 q ++ strOfNums [c] ++ (strOfNums l).extract (q + 1) (strOfNums l).size = strOfNums (l.set q c) := by
  rw [str_take l q (by omega), str_drop, str_append, str_append, List.set_eq_take_append_cons_drop, if_pos h]
  simp
theorem fl_fst : ∀ (l : List Int) (x y : Int), 0 ≤ x → x < 255 → (fl x y l).1 = (x + l.sum) % 255
  | [], x, y, h0, h1 => by simp [fl]; omega
  | c :: l, x, y, h0, h1 => by
    rw [fl, fl_fst l _ _ (by omega) (by omega), List.sum_cons]
    omega
theorem sum_set : ∀ (l : List Int) (i : Nat) (h : i < l.length) (c : Int), (l.set i c).sum = l.sum - l[i] + c
  | a :: l, 0, h, c => by simp; omega
  | a :: l, i + 1, h, c => by
    simp only [List.set_cons_succ, List.sum_cons, List.getElem_cons_succ]
    rw [sum_set l i (by simpa using h) c]; omega

/-- The links' bytes are those that were read. -/
theorem lks_bytes (l : List Int) (hb : ∀ c ∈ l, Byte c) : ∀ d i, i + 3 * d ≤ l.length → (lksFrom (strOfNums l) i d).flatMap lk = (l.drop i).take (3 * d)
  | 0, i, h => by simp [lksFrom]
  | d + 1, i, h => by
    have e0 := bt_str l hb i (by omega)
    have e1 := bt_str l hb (i + 1) (by omega)
    have e2 := bt_str l hb (i + 2) (by omega)
    have h0 := hb l[i] (List.getElem_mem _)
    have h1 := hb l[i + 1] (List.getElem_mem _)
    have h2 := hb l[i + 2] (List.getElem_mem _)
    unfold Byte at h0 h1 h2
    rw [lksFrom, List.flatMap_cons, lks_bytes l hb d (i + 3) (by omega)]
    have e1' : bt (strOfNums l) ((i : Int) + 1) = l[i + 1] := by have : ((i + 1 : Nat) : Int) = (i : Int) + 1 := by omega
                                                                 rw [this] at e1; exact e1
    have e2' : bt (strOfNums l) ((i : Int) + 2) = l[i + 2] := by have : ((i + 2 : Nat) : Int) = (i : Int) + 2 := by omega
                                                                 rw [this] at e2; exact e2
    unfold lkAt
    rw [e0, e1', e2']
    rw [List.drop_eq_getElem_cons (show i < l.length by omega), List.drop_eq_getElem_cons (show i + 1 < l.length by omega), List.drop_eq_getElem_cons (show i + 2 < l.length by omega)]
    rw [show 3 * (d + 1) = 3 * d + 1 + 1 + 1 by omega, List.take_succ_cons, List.take_succ_cons, List.take_succ_cons]
    unfold lk
    simp only [List.cons_append, List.nil_append]
    rw [show l[i] % 256 = l[i] by omega, show (l[i + 1] * 256 + l[i + 2]) / 256 % 256 = l[i + 1] by omega, show (l[i + 1] * 256 + l[i + 2]) % 256 = l[i + 2] by omega]

/-- The bytes that are summed. -/
def zs (l : List Int) (n : Nat) : List Int := [l.getD 0 0, l.getD 1 0, l.getD 2 0, l.getD 3 0, l.getD 4 0, 0, 0, l.getD 7 0] ++ (l.drop 8).take (3 * n)
theorem byts_zs (l : List Int) (hb : ∀ c ∈ l, Byte c) (n : Nat) (hl : l.length = 10 + 3 * n) (h7 : l.getD 7 0 = n) :
    byts (bt (strOfNums l) 0) (decSeq (strOfNums l)) (lksFrom (strOfNums l) 8 n) 0 = zs l n := by
  have g : ∀ i : Nat, i < l.length → bt (strOfNums l) (i : Int) = l.getD i 0 ∧ Byte (l.getD i 0) := fun i hi => by
    have e : l.getD i 0 = l[i] := by simp [List.getD_eq_getElem?_getD, hi]
    rw [e]
    exact ⟨bt_str l hb i hi, hb _ (List.getElem_mem _)⟩
  obtain ⟨e0, b0⟩ := g 0 (by omega)
  obtain ⟨e1, b1⟩ := g 1 (by omega)
  obtain ⟨e2, b2⟩ := g 2 (by omega)
  obtain ⟨e3, b3⟩ := g 3 (by omega)
  obtain ⟨e4, b4⟩ := g 4 (by omega)
  unfold Byte at b0 b1 b2 b3 b4
  have e0 : bt (strOfNums l) 0 = _ := e0
  have e1 : bt (strOfNums l) 1 = _ := e1
  have e2 : bt (strOfNums l) 2 = _ := e2
  have e3 : bt (strOfNums l) 3 = _ := e3
  have e4 : bt (strOfNums l) 4 = _ := e4
  obtain ⟨_, b7⟩ := g 7 (by omega)
  rw [h7] at b7
  unfold Byte at b7
  unfold byts zs hd decSeq
  rw [lks_bytes l hb n 8 (by omega), lksFrom_length, e0, e1, e2, e3, e4, h7]
  congr 1
  simp only [List.cons.injEq, and_true]
  refine ⟨by omega, by omega, by omega, by omega, by omega, by omega, by omega, by omega⟩

theorem zs_sum_set (l : List Int) (n q : Nat) (hl : l.length = 10 + 3 * n) (hq : q < 8 + 3 * n) (h5 : q ≠ 5) (h6 : q ≠ 6) (c : Int) : (zs (l.set q c) n).sum = (zs l n).sum - l.getD q 0 + c := by
  have gs : ∀ i, i < l.length → (l.set q c).getD i 0 = if q = i then c else l.getD i 0 := fun i hi => by
    simp only [List.getD_eq_getElem?_getD, List.getElem?_set]
    split
    · rename_i h; subst h; simp [hi]
    · rfl
  unfold zs
  simp only [List.sum_append, List.sum_cons, List.sum_nil]
  rw [gs 0 (by omega), gs 1 (by omega), gs 2 (by omega), gs 3 (by omega), gs 4 (by omega), gs 7 (by omega)]
  by_cases h8 : q < 8
  · have e : (l.set q c).drop 8 = l.drop 8 := by rw [List.drop_set, if_pos h8]
    rw [e]
    match q, h8, h5, h6 with
    | 0, _, _, _ => simp; omega
    | 1, _, _, _ => simp; omega
    | 2, _, _, _ => simp; omega
    | 3, _, _, _ => simp; omega
    | 4, _, _, _ => simp; omega
    | 5, _, h, _ => exact absurd rfl h
    | 6, _, _, h => exact absurd rfl h
    | 7, _, _, _ => simp; omega
  · rw [if_neg (by omega), if_neg (by omega), if_neg (by omega), if_neg (by omega), if_neg (by omega), if_neg (by omega)]
    have e : ((l.set q c).drop 8).take (3 * n) = ((l.drop 8).take (3 * n)).set (q - 8) c := by
      rw [List.drop_set, if_neg (by omega), List.take_set]
    have hlen : q - 8 < ((l.drop 8).take (3 * n)).length := by rw [List.length_take, List.length_drop]; omega
    rw [e, sum_set _ _ hlen]
    have e2 : ((l.drop 8).take (3 * n))[q - 8] = l.getD q 0 := by
      rw [List.getElem_take, List.getElem_drop]
      have e3 : l[8 + (q - 8)]? = l[q]? := by rw [show 8 + (q - 8) = q by omega]
      rw [List.getD_eq_getElem?_getD, ← e3]
      simp [show 8 + (q - 8) < l.length by omega]
    rw [e2]; omega

theorem spoil {id seq age : Int} {ls : List S28} (h : Valid id seq age ls) (q : Nat) (hq : q < (encL id seq age ls).length) (h5 : q ≠ 5) (h6 : q ≠ 6) (c y : Int) (hy0 : 0 < y) (hy : y < 255)
    (hc : c = (encL id seq age ls)[q] + y) (hc1 : c ≤ 255) : (dec (strOfNums ((encL id seq age ls).set q c))).2.2.2.2 ≠ 0 := by
  have hlen := h.len
  have hl := encL_length id seq age ls
  have hb := encL_byte id seq age ls
  have hbq := hb _ (List.getElem_mem hq)
  unfold Byte at hbq
  obtain ⟨l, hle⟩ : ∃ l, l = encL id seq age ls := ⟨_, rfl⟩
  have t := enc_tail id seq age ls (by omega) (by omega)
  have hn7 := enc_head id seq age ls 7 (by omega) (by omega)
  have hz := byts_zs l (by rw [hle]; exact hb) ls.length (by rw [hle]; exact hl) (by rw [hle]; simp [List.getD_eq_getElem?_getD, show 7 < (encL id seq age ls).length by omega, hn7, hd]; omega)
  have hdec := dec_enc h
  simp only [← hle] at hq hc hb hl hbq t hn7 ⊢
  have hb' : ∀ d ∈ l.set q c, Byte d := fun d hd => by
    rcases List.mem_or_eq_of_mem_set hd with h1 | h1
    · exact hb d h1
    · subst h1; unfold Byte; omega
  have hs : (strOfNums (l.set q c)).size = 10 + 3 * ls.length := by rw [strOfNums_size, List.length_set, hl]
  have b7 := bt_str (l.set q c) hb' 7 (by rw [List.length_set]; omega)
  have b7 : bt (strOfNums (l.set q c)) 7 = _ := b7
  rw [List.getElem_set] at b7
  have h7 : l[7] = ls.length := by rw [hn7]; simp [hd]; omega
  by_cases q7 : q = 7
  · subst q7
    rw [if_pos rfl] at b7
    unfold dec
    rw [if_neg (by omega)]
    split
    · simp
    · split
      · simp
      · omega
  rw [if_neg q7, h7] at b7
  unfold dec
  rw [if_neg (by omega), if_neg (by omega), if_neg (by omega), b7, Int.toNat_natCast]
  unfold decEnd
  split
  · rename_i hh
    exfalso
    obtain ⟨h1, h2⟩ := hh
    rw [hs] at h1 h2
    have d0 := bt_str (l.set q c) hb' (8 + 3 * ls.length) (by rw [List.length_set]; omega)
    have d1 := bt_str (l.set q c) hb' (9 + 3 * ls.length) (by rw [List.length_set]; omega)
    rw [show ((8 + 3 * ls.length : Nat) : Int) = ((10 + 3 * ls.length : Nat) : Int) - 2 by omega, h1, List.getElem_set] at d0
    rw [show ((9 + 3 * ls.length : Nat) : Int) = ((10 + 3 * ls.length : Nat) : Int) - 1 by omega, h2, List.getElem_set] at d1
    have hz' := byts_zs (l.set q c) hb' ls.length (by rw [List.length_set]; exact hl) (by
      simp [List.getD_eq_getElem?_getD, List.getElem?_set, q7, show 7 < l.length by omega, h7])
    have e0 : sums id seq ls = fl 0 0 (zs l ls.length) := by
      have := hz
      have g0 : bt (strOfNums l) 0 = id := by
        have := enc_head id seq age ls 0 (by omega) (by omega)
        have e := bt_str l hb 0 (by omega)
        have e : bt (strOfNums l) 0 = _ := e
        rw [e]
        simp only [hle, this, hd]
        simp
        have := h.id0; have := h.id1; omega
      have g1 : decSeq (strOfNums l) = seq := by
        have i1 := enc_head id seq age ls 1 (by omega) (by omega)
        have i2 := enc_head id seq age ls 2 (by omega) (by omega)
        have i3 := enc_head id seq age ls 3 (by omega) (by omega)
        have i4 := enc_head id seq age ls 4 (by omega) (by omega)
        have e1 := bt_str l hb 1 (by omega)
        have e2 := bt_str l hb 2 (by omega)
        have e3 := bt_str l hb 3 (by omega)
        have e4 := bt_str l hb 4 (by omega)
        have e1 : bt (strOfNums l) 1 = _ := e1
        have e2 : bt (strOfNums l) 2 = _ := e2
        have e3 : bt (strOfNums l) 3 = _ := e3
        have e4 : bt (strOfNums l) 4 = _ := e4
        unfold decSeq
        rw [e1, e2, e3, e4]
        simp only [hle, i1, i2, i3, i4, hd]
        simp
        have := h.seq0; have := h.seq1; omega
      have g2 : lksFrom (strOfNums l) 8 ls.length = ls := by
        have := lks_enc (id := id) (seq := seq) (age := age) h.peer ls.length 0 (by omega)
        simpa [hle] using this
      rw [g0, g1, g2] at hz
      rw [sums, hz]
    have e1 : sums (bt (strOfNums (l.set q c)) 0) (decSeq (strOfNums (l.set q c))) (lksFrom (strOfNums (l.set q c)) 8 ls.length) = fl 0 0 (zs (l.set q c) ls.length) := by
      rw [sums, hz']
    rw [e1] at d0 d1
    rw [e0] at t
    by_cases hq8 : q < 8 + 3 * ls.length
    · rw [if_neg (by omega), t.1, fl_fst _ _ _ (by omega) (by omega), fl_fst _ _ _ (by omega) (by omega), zs_sum_set l ls.length q hl hq8 h5 h6 c] at d0
      have e : l.getD q 0 = l[q] := by simp [List.getD_eq_getElem?_getD, hq]
      rw [e] at d0
      omega
    · have ez : zs (l.set q c) ls.length = zs l ls.length := by
        have gs : ∀ i, i < 8 → (l.set q c).getD i 0 = l.getD i 0 := fun i hi => by
          simp only [List.getD_eq_getElem?_getD, List.getElem?_set]
          rw [if_neg (by omega)]
        unfold zs
        rw [gs 0 (by omega), gs 1 (by omega), gs 2 (by omega), gs 3 (by omega), gs 4 (by omega), gs 7 (by omega), List.drop_set, if_neg (by omega), List.take_set, List.set_eq_of_length_le (by rw [List.length_take, List.length_drop]; omega)]
      rw [ez] at d0 d1
      by_cases q8 : q = 8 + 3 * ls.length
      · subst q8
        rw [if_pos rfl] at d0
        rw [← t.1] at d0
        omega
      · have q9 : q = 9 + 3 * ls.length := by omega
        subst q9
        rw [if_pos rfl, ← t.2] at d1
        omega
  · simp

theorem spoil_any {id seq age : Int} {ls : List S28} (h : Valid id seq age ls) (s : ByteArray) (hs : s = strOfNums (encL id seq age ls)) (q : Nat) (hq : q < s.size) (h5 : q ≠ 5) (h6 : q ≠ 6) (c y : Int) (hy0 : 0 < y) (hy : y < 255)
    (hc : wrap64 (wrap64 ((s[q]'hq).toNat : Int) + y) = c) (hc1 : c ≤ 255) : (dec (s.extract 0 q ++ strOfNums [IntKind.u8.wrap c] ++ s.extract (q + 1) s.size)).2.2.2.2 ≠ 0 := by
  subst hs
  have hq' : q < (encL id seq age ls).length := by rw [strOfNums_size] at hq; exact hq
  have hb := encL_byte id seq age ls _ (List.getElem_mem hq')
  unfold Byte at hb
  have e : (((strOfNums (encL id seq age ls))[q]'hq).toNat : Int) = (encL id seq age ls)[q] := by
    have h1 := bt_at (strOfNums (encL id seq age ls)) q hq
    have h2 := bt_str _ (encL_byte id seq age ls) q hq'
    exact h1.trans h2
  rw [e, wrap_in (encL id seq age ls)[q] (by omega) (by omega), wrap_in _ (by omega) (by omega)] at hc
  rw [IntKind.wrap_u8, show c % 256 = c by omega, str_set _ q hq']
  exact spoil h q hq' h5 h6 c y hy0 hy hc.symm hc1

end Go.Proofs.Ytaneaabmgnanbaa.M
