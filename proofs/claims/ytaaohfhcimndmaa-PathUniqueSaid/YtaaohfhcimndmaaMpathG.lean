/- Own lemmas: Decode as a whole; encodings are read as they were, and unique. -/
import Derived.Test.YtaaohfhcimndmaaMpathF
namespace Go.Proofs.Ytaaohfhcimndmaa.M
open Go.RowKit Go.Proofs.YtaaohfhcimndmaaW.PrintWords Go.Proofs.YtaaohfhcimndmaaW.PrintLast Go.Proofs.YtaaohfhcimndmaaW.PrintMore Go.Proofs.Ytaaohfhcimndmaa.PPathBack
set_option linter.unusedVariables false
set_option linter.unusedSimpArgs false

/-! Decode as a whole -/
def N1 (l : List Int) := num u1 1 l false
def N2 (l : List Int) := num u4 4 (N1 l).2.1 (N1 l).2.2
def N3 (l : List Int) := num u4 4 (N2 l).2.1 (N2 l).2.2
def N4 (l : List Int) := num u4 4 (N3 l).2.1 (N3 l).2.2
def N5 (l : List Int) := rlist (N4 l).2.1 (N4 l).2.2
def N6 (l : List Int) := rlist (N5 l).2.1 (N5 l).2.2
structure Reads6 (s : ByteArray) (l : List Int) (k : Nat) : Prop where
  H1 : path_reader_num.f k s false 1 = some ((N1 l).1, strOfNums (N1 l).2.1, (N1 l).2.2)
  H2 : path_reader_num.f k (strOfNums (N1 l).2.1) (N1 l).2.2 4 = some ((N2 l).1, strOfNums (N2 l).2.1, (N2 l).2.2)
  H3 : path_reader_num.f k (strOfNums (N2 l).2.1) (N2 l).2.2 4 = some ((N3 l).1, strOfNums (N3 l).2.1, (N3 l).2.2)
  H4 : path_reader_num.f k (strOfNums (N3 l).2.1) (N3 l).2.2 4 = some ((N4 l).1, strOfNums (N4 l).2.1, (N4 l).2.2)
  H5 : path_reader_list.f k (strOfNums (N4 l).2.1) (N4 l).2.2 = some ((N5 l).1, strOfNums (N5 l).2.1, (N5 l).2.2)
  H6 : path_reader_list.f k (strOfNums (N5 l).2.1) (N5 l).2.2 = some ((N6 l).1, strOfNums (N6 l).2.1, (N6 l).2.2)
theorem N1b {l : List Int} (hb : ∀ c ∈ l, Byte c) : ∀ c ∈ (N1 l).2.1, Byte c := by unfold N1; exact num_bytes hb
theorem N2b {l : List Int} (hb : ∀ c ∈ l, Byte c) : ∀ c ∈ (N2 l).2.1, Byte c := by unfold N2; exact num_bytes (N1b hb)
theorem N3b {l : List Int} (hb : ∀ c ∈ l, Byte c) : ∀ c ∈ (N3 l).2.1, Byte c := by unfold N3; exact num_bytes (N2b hb)
theorem N4b {l : List Int} (hb : ∀ c ∈ l, Byte c) : ∀ c ∈ (N4 l).2.1, Byte c := by unfold N4; exact num_bytes (N3b hb)
theorem N5b {l : List Int} (hb : ∀ c ∈ l, Byte c) : ∀ c ∈ (N5 l).2.1, Byte c := by unfold N5; exact rlist_bytes (N4b hb)
theorem reads6 (s : ByteArray) (l : List Int) (hs : s = strOfNums l) (hb : ∀ c ∈ l, Byte c) : ∃ k, Reads6 s l k := by
  subst hs
  obtain ⟨k5, h5⟩ := list_ends _ (N4b hb) (N4 l).2.2
  obtain ⟨k6, h6⟩ := list_ends _ (N5b hb) (N5 l).2.2
  have a := num1 l hb false
  have b := num4 _ (N1b hb) (N1 l).2.2
  have c := num4 _ (N2b hb) (N2 l).2.2
  have d := num4 _ (N3b hb) (N3 l).2.2
  have h5 : path_reader_list.f k5 (strOfNums (N4 l).2.1) (N4 l).2.2 = some ((N5 l).1, strOfNums (N5 l).2.1, (N5 l).2.2) := by unfold N5; exact h5
  have h6 : path_reader_list.f k6 (strOfNums (N5 l).2.1) (N5 l).2.2 = some ((N6 l).1, strOfNums (N6 l).2.1, (N6 l).2.2) := by unfold N6; exact h6
  exact ⟨5 + k5 + k6, ⟨up (fun k => path_reader_num.mono _ _ _ k) a (by omega), up (fun k => path_reader_num.mono _ _ _ k) b (by omega), up (fun k => path_reader_num.mono _ _ _ k) c (by omega), up (fun k => path_reader_num.mono _ _ _ k) d (by omega),
    up (fun k => path_reader_list.mono _ _ k) h5 (by omega), up (fun k => path_reader_list.mono _ _ k) h6 (by omega)⟩⟩
theorem u4_range {l : List Int} (hb : ∀ c ∈ l, Byte c) (b : Bool) : 0 ≤ (num u4 4 l b).1 ∧ (num u4 4 l b).1 ≤ 4294967295 := by
  unfold num
  split
  · decide
  · exact (split4 hb (by omega)).2

/-- The route is read: everything of s, and valid. -/
structure Dec (l : List Int) (a b : Int) (ws : List Int) (pr md : Int) (ts : List Int) : Prop where
  short : (N6 l).2.2 = false
  rest : (N6 l).2.1 = []
  va : (N2 l).1 = a
  vb : (N1 l).1 = b
  vw : (N5 l).1 = ws
  vp : (N3 l).1 = pr
  vm : (N4 l).1 = md
  vt : (N6 l).1 = ts

def zeroP : Value := .agg #[.int .u32 0, .int .i64 0, .slice none 0 0, .int .i64 0, .int .i64 0, .slice none 0 0]
theorem str_empty {l : List Int} (h : l = []) : (strOfNums l).toList.isEmpty = true ∧ (!(strOfNums l).toList.isEmpty) = false := by subst h; rw [ByteArray.toList_eq]; exact ⟨rfl, rfl⟩
theorem toList_isEmpty (s : ByteArray) (h : 0 < s.size) : s.toList.isEmpty = false := by
  have : s.toList.length = s.size := by rw [ByteArray.toList_eq, Array.length_toList]; rfl
  cases hs : s.toList with
  | nil => rw [hs] at this; simp at this; omega
  | cons a l => rfl
theorem str_more {l : List Int} (h : l ≠ []) : (strOfNums l).toList.isEmpty = false ∧ (!(strOfNums l).toList.isEmpty) = true := by
  have hp : 0 < (strOfNums l).size := by
    rw [strOfNums_size]
    exact List.length_pos_iff.2 h
  have := toList_isEmpty _ hp
  exact ⟨this, by rw [this]; rfl⟩

theorem Decode_all (s : ByteArray) (l : List Int) (hs : s = strOfNums l) (hb : ∀ c ∈ l, Byte c) (w : World) :
    (∃ er, er ≠ 0 ∧ (∀ a b ws pr md ts, Dec l a b ws pr md ts → pchk a b ws pr md ts ≠ 0) ∧ Calls Try.prog 15 #[.string s] w fun e w' => e = .returned (.tuple #[zeroP, .int .i64 er]) ∧ Below w.heap.size w w') ∨
    (∃ a b ws pr md ts, Dec l a b ws pr md ts ∧ pchk a b ws pr md ts = 0 ∧ 0 ≤ a ∧ a ≤ 4294967295 ∧ Calls Try.prog 15 #[.string s] w fun e w' => ∃ Aw At cw ct, e = .returned (.tuple #[.agg #[.int .u32 a, .int .i64 b, .slice Aw ws.length cw, .int .i64 pr, .int .i64 md, .slice At ts.length ct], .int .i64 0]) ∧ (ws.length ≤ cw ∧ Kd.C (Kd.int .i64) w' Aw ws.length ws) ∧ (ts.length ≤ ct ∧ Kd.C (Kd.int .i64) w' At ts.length ts) ∧ Below w.heap.size w w') := by
  obtain ⟨k, H⟩ := reads6 s l hs hb
  have r : 0 ≤ (N2 l).1 ∧ (N2 l).1 ≤ 4294967295 := by unfold N2; exact u4_range (N1b hb) (N1 l).2.2
  cases hsh : (N6 l).2.2 with
  | true =>
    refine .inl ⟨9, by decide, fun a b ws pr md ts h => ?_, Decode_short s _ _ _ _ _ _ _ _ _ _ _ _ _ _ _ _ _ _ k w r.1 r.2 H.H1 H.H2 H.H3 H.H4 H.H5 H.H6 hsh⟩
    have := h.short
    rw [hsh] at this
    cases this
  | false =>
    by_cases hr : (N6 l).2.1 = []
    · by_cases hc : pchk (N2 l).1 (N1 l).1 (N5 l).1 (N3 l).1 (N4 l).1 (N6 l).1 = 0
      · exact .inr ⟨_, _, _, _, _, _, ⟨hsh, hr, rfl, rfl, rfl, rfl, rfl, rfl⟩, hc, r.1, r.2, Decode_good s _ _ _ _ _ _ _ _ _ _ _ _ _ _ _ _ _ _ k w r.1 r.2 H.H1 H.H2 H.H3 H.H4 H.H5 H.H6 hsh (str_empty hr).1 (str_empty hr).2 hc⟩
      · refine .inl ⟨_, hc, fun a b ws pr md ts h => ?_, Decode_bad s _ _ _ _ _ _ _ _ _ _ _ _ _ _ _ _ _ _ k w r.1 r.2 H.H1 H.H2 H.H3 H.H4 H.H5 H.H6 hsh (str_empty hr).1 (str_empty hr).2 _ hc (Lib.hid rfl)⟩
        rw [← h.va, ← h.vb, ← h.vw, ← h.vp, ← h.vm, ← h.vt]
        exact hc
    · refine .inl ⟨3, by decide, fun a b ws pr md ts h => absurd h.rest hr, Decode_more s _ _ _ _ _ _ _ _ _ _ _ _ _ _ _ _ _ _ k w r.1 r.2 H.H1 H.H2 H.H3 H.H4 H.H5 H.H6 hsh (str_more hr).1 (str_more hr).2⟩

theorem head1 : ∀ {l : List Int}, 1 ≤ l.length → l = [u1 l] ++ l.drop 1
  | x :: l, _ => rfl
/-- What is read wholly is the encoding of what was read. -/
theorem dec_unique {l : List Int} (hb : ∀ c ∈ l, Byte c) {a b : Int} {ws : List Int} {pr md : Int} {ts : List Int} (h : Dec l a b ws pr md ts) : encP a b ws pr md ts = l := by
  obtain ⟨h1, hw6, e6⟩ := rlist_inv (l := (N5 l).2.1) (b := (N5 l).2.2) (N5b hb) (by have := h.short; unfold N6 at this; exact this)
  obtain ⟨h2, hw5, e5⟩ := rlist_inv (l := (N4 l).2.1) (b := (N4 l).2.2) (N4b hb) (by unfold N5 at h1; exact h1)
  obtain ⟨h3, l4, e4⟩ := num_inv (v := u4) (n := 4) (l := (N3 l).2.1) (b := (N3 l).2.2) (by unfold N4 at h2; exact h2)
  obtain ⟨h4, l3, e3⟩ := num_inv (v := u4) (n := 4) (l := (N2 l).2.1) (b := (N2 l).2.2) (by unfold N3 at h3; exact h3)
  obtain ⟨h5, l2, e2⟩ := num_inv (v := u4) (n := 4) (l := (N1 l).2.1) (b := (N1 l).2.2) (by unfold N2 at h4; exact h4)
  obtain ⟨_, l1, e1⟩ := num_inv (v := u1) (n := 1) (l := l) (b := false) (by unfold N1 at h5; exact h5)
  have q6 : (rlist (N5 l).2.1 (N5 l).2.2).1 = ts := by have := h.vt; unfold N6 at this; exact this
  have q6r : (rlist (N5 l).2.1 (N5 l).2.2).2.1 = [] := by have := h.rest; unfold N6 at this; exact this
  have q5 : (rlist (N4 l).2.1 (N4 l).2.2).1 = ws := by have := h.vw; unfold N5 at this; exact this
  rw [q6, q6r] at e6
  rw [q6] at hw6
  rw [q5] at e5 hw5
  have g5 : (rlist (N4 l).2.1 (N4 l).2.2).2.1 = (N5 l).2.1 := by unfold N5; exact rfl
  rw [g5, e6] at e5
  have g4 : (N4 l).2.1 = (N3 l).2.1.drop 4 := by unfold N4; rw [e4]
  have g3 : (N3 l).2.1 = (N2 l).2.1.drop 4 := by unfold N3; rw [e3]
  have g2 : (N2 l).2.1 = (N1 l).2.1.drop 4 := by unfold N2; rw [e2]
  have g1 : (N1 l).2.1 = l.drop 1 := by unfold N1; rw [e1]
  have v4 : md = u4 (N3 l).2.1 := by rw [← h.vm]; unfold N4; rw [e4]
  have v3 : pr = u4 (N2 l).2.1 := by rw [← h.vp]; unfold N3; rw [e3]
  have v2 : a = u4 (N1 l).2.1 := by rw [← h.va]; unfold N2; rw [e2]
  have v1 : b = u1 l := by rw [← h.vb]; unfold N1; rw [e1]
  have s4 := (split4 (N3b hb) l4).1
  have s3 := (split4 (N2b hb) l3).1
  have s2 := (split4 (N1b hb) l2).1
  rw [← v4, ← g4, e5] at s4
  rw [← v3, ← g3, s4] at s3
  rw [← v2, ← g2, s3] at s2
  have s1 : l = [b] ++ (N1 l).2.1 := by
    rw [g1, v1]
    exact head1 l1
  have hb0 : 0 ≤ b ∧ b ≤ 255 := by rw [v1]; exact g_byte hb 0
  rw [s2] at s1
  conv => rhs; rw [s1]
  unfold encP
  rw [show b % 256 = b by omega, show (ws.length : Int) % 256 = ws.length by omega, show (ts.length : Int) % 256 = ts.length by omega]
  simp

/-! a route's encoding is read as it was -/
theorem num1_enc (x : Int) (r : List Int) : num u1 1 ([x] ++ r) false = (x, r, false) := by
  unfold num
  rw [if_neg (by simp)]
  rfl
theorem num4_enc (n : Int) (r : List Int) (h0 : 0 ≤ n) (h1 : n ≤ 4294967295) : num u4 4 (pb4 n ++ r) false = (n, r, false) := by
  unfold num
  rw [if_neg (by simp [pb4])]
  have e : u4 (pb4 n ++ r) = n := by
    unfold u4
    have e0 : g (pb4 n ++ r) 0 = n / 16777216 % 256 := rfl
    have e1 : g (pb4 n ++ r) 1 = n / 65536 % 256 := rfl
    have e2 : g (pb4 n ++ r) 2 = n / 256 % 256 := rfl
    have e3 : g (pb4 n ++ r) 3 = n % 256 := rfl
    rw [e0, e1, e2, e3]; omega
  rw [e]
  rfl
theorem num2_enc (n : Int) (r : List Int) (h0 : 0 ≤ n) (h1 : n ≤ 65535) : num u2 2 (pb2 n ++ r) false = (n, r, false) := by
  unfold num
  rw [if_neg (by simp [pb2])]
  have e : u2 (pb2 n ++ r) = n := by
    unfold u2
    have e0 : g (pb2 n ++ r) 0 = n / 256 % 256 := rfl
    have e1 : g (pb2 n ++ r) 1 = n % 256 := rfl
    rw [e0, e1]; omega
  rw [e]
  rfl
theorem rdL_enc : ∀ (xs r acc : List Int), (∀ n ∈ xs, 1 ≤ n ∧ n ≤ 65535) → rdL xs.length (xs.flatMap pb2 ++ r) false acc = (acc ++ xs, r, false)
  | [], r, acc, _ => by simp [rdL]
  | x :: xs, r, acc, h => by
    have hx := h x (List.mem_cons_self)
    rw [List.length_cons, rdL, if_neg (by simp), List.flatMap_cons, List.append_assoc, num2_enc x _ (by omega) (by omega), rdL_enc xs r _ (fun n hn => h n (List.mem_cons_of_mem _ hn))]
    simp
theorem rlist_enc (xs r : List Int) (h : ∀ n ∈ xs, 1 ≤ n ∧ n ≤ 65535) (hl : xs.length ≤ 255) : rlist ([((xs.length : Int)) % 256] ++ (xs.flatMap pb2 ++ r)) false = (xs, r, false) := by
  unfold rlist
  rw [num1_enc, show ((xs.length : Int) % 256).toNat = xs.length by omega, rdL_enc xs r [] h]
  rfl
theorem dec_enc {a b : Int} {ws : List Int} {pr md : Int} {ts : List Int} (ha0 : 0 ≤ a) (ha1 : a ≤ 4294967295) (h : PValid a b ws pr md ts) : Dec (encP a b ws pr md ts) a b ws pr md ts := by
  have h1 := h.bits0; have h2 := h.bits1; have h3 := h.wlen; have h4 := h.tlen; have h5 := h.pr0; have h6 := h.pr1; have h7 := h.md0; have h8 := h.md1
  have e : encP a b ws pr md ts = [b % 256] ++ (pb4 a ++ (pb4 pr ++ (pb4 md ++ ([(ws.length : Int) % 256] ++ (ws.flatMap pb2 ++ ([(ts.length : Int) % 256] ++ (ts.flatMap pb2 ++ []))))))) := by
    unfold encP; simp
  have q1 : N1 (encP a b ws pr md ts) = (b % 256, pb4 a ++ (pb4 pr ++ (pb4 md ++ ([(ws.length : Int) % 256] ++ (ws.flatMap pb2 ++ ([(ts.length : Int) % 256] ++ (ts.flatMap pb2 ++ [])))))), false) := by unfold N1; rw [e]; exact num1_enc _ _
  have q2 : N2 (encP a b ws pr md ts) = (a, pb4 pr ++ (pb4 md ++ ([(ws.length : Int) % 256] ++ (ws.flatMap pb2 ++ ([(ts.length : Int) % 256] ++ (ts.flatMap pb2 ++ []))))), false) := by unfold N2; rw [q1]; exact num4_enc a _ ha0 ha1
  have q3 : N3 (encP a b ws pr md ts) = (pr, pb4 md ++ ([(ws.length : Int) % 256] ++ (ws.flatMap pb2 ++ ([(ts.length : Int) % 256] ++ (ts.flatMap pb2 ++ [])))), false) := by unfold N3; rw [q2]; exact num4_enc pr _ (by omega) (by omega)
  have q4 : N4 (encP a b ws pr md ts) = (md, [(ws.length : Int) % 256] ++ (ws.flatMap pb2 ++ ([(ts.length : Int) % 256] ++ (ts.flatMap pb2 ++ []))), false) := by unfold N4; rw [q3]; exact num4_enc md _ (by omega) (by omega)
  have q5 : N5 (encP a b ws pr md ts) = (ws, [(ts.length : Int) % 256] ++ (ts.flatMap pb2 ++ []), false) := by unfold N5; rw [q4]; exact rlist_enc ws _ h.way (by omega)
  have q6 : N6 (encP a b ws pr md ts) = (ts, [], false) := by unfold N6; rw [q5]; exact rlist_enc ts _ h.tag (by omega)
  exact ⟨by rw [q6], by rw [q6], by rw [q2], by rw [q1]; simp; omega, by rw [q5], by rw [q3], by rw [q4], by rw [q6]⟩
theorem enc_byte (a b : Int) (ws : List Int) (pr md : Int) (ts : List Int) : ∀ c ∈ encP a b ws pr md ts, Byte c := by
  intro c hc
  unfold Byte
  unfold encP pb4 pb2 at hc
  simp only [List.mem_append, List.mem_cons, List.not_mem_nil, or_false, List.mem_flatMap] at hc
  rcases hc with ((((((hc | hc) | hc) | hc) | hc) | ⟨x, _, hc⟩) | hc) | ⟨x, _, hc⟩ <;> omega

end Go.Proofs.Ytaaohfhcimndmaa.M
