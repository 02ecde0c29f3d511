import Derived.Test.YtaneaabmgnanbaaKMput
import Derived.LoopTactic
namespace Go.Proofs.Ytaneaabmgnanbaa.M
open Go.RowKit Go.Proofs.YtaneaabmgnanbaaW.PrintWords Go.Proofs.YtaneaabmgnanbaaW.PrintLast Go.Proofs.YtaneaabmgnanbaaW.PrintMore Go.Proofs.Ytaneaabmgnanbaa.PAdvBack
set_option linter.unusedVariables false
set_option linter.unusedSimpArgs false
theorem zero_at {i : Nat} (hi : i < 16) : Try.zeroCells93[i * 4]? = some (.int .i64 0) ∧ Try.zeroCells93[i * 4 + 1]? = some (.int .i64 0) ∧ Try.zeroCells93[i * 4 + 2]? = some (.int .i64 0) ∧ Try.zeroCells93[64 + i]? = some (.bool false) ∧ Try.zeroCells93[i * 4 + 3]? = some (.slice none 0 0) := by
 have h : i = 0 ∨ i = 1 ∨ i = 2 ∨ i = 3 ∨ i = 4 ∨ i = 5 ∨ i = 6 ∨ i = 7 ∨ i = 8 ∨ i = 9 ∨ i = 10 ∨ i = 11 ∨ i = 12 ∨ i = 13 ∨ i = 14 ∨ i = 15 := by omega
 rcases h with rfl | rfl | rfl | rfl | rfl | rfl | rfl | rfl | rfl | rfl | rfl | rfl | rfl | rfl | rfl | rfl <;> exact ⟨by kernel_rfl, by kernel_rfl, by kernel_rfl, by kernel_rfl, by kernel_rfl⟩
theorem BaseAt.zero (w : World) : BaseAt (w.alloc (.cells Try.zeroCells93 93)) w.heap.size (fun _ => ⟨0, 0, 0, []⟩) (fun _ => false) :=
 ⟨Try.zeroCells93, blk_alloc w _, by kernel_rfl, fun i hi => by
  obtain ⟨a, b, c, d, e⟩ := zero_at hi
  exact ⟨a, b, c, d, none, 0, e, Nat.le_refl _, fun W' _ => Kd.C_nil k28 W'⟩⟩
set_option maxHeartbeats 400000 in
set_option maxRecDepth 100000 in
theorem New49 (w : World) : Calls Try.prog 49 #[] w fun e w' => e = .returned (.pointer (some ⟨w.heap.size, 0, none⟩)) ∧ BaseAt w' w.heap.size (fun _ => ⟨0, 0, 0, []⟩) (fun _ => false) ∧ Below w.heap.size w w' := by
 have hu := Try.underlying93
 go_enter Try.func49, Try.ntmps49
 go_wp2_with fail
 go_ret
 exact ⟨rfl, BaseAt.zero w, below_alloc (Below.refl _ _) _⟩
abbrev Db := (Nat → S24) × (Nat → Bool)
def Chk (a : S24) : Int := chk a.f0 a.f1 a.f2 a.f3
def setDb (d : Db) (i : Nat) (a : S24) : Db := (fun j => if j = i then a else d.1 j, fun j => if j = i then true else d.2 j)
def put (d : Db) (a : S24) : Db := if Chk a = 0 ∧ (d.2 a.f0.toNat = true → 0 < newerP a (d.1 a.f0.toNat)) then setDb d a.f0.toNat a else d
def noDb : Db := (fun _ => ⟨0, 0, 0, []⟩, fun _ => false)
def DbOk (d : Db) : Prop := ∀ i, (d.2 i = true → Chk (d.1 i) = 0 ∧ (d.1 i).f0 = i) ∧ (d.2 i = false → d.1 i = ⟨0, 0, 0, []⟩)
theorem noDb_ok : DbOk noDb := fun i => ⟨(fun h => nomatch h), (fun _ => rfl)⟩
theorem put_ok {d : Db} (h : DbOk d) (a : S24) : DbOk (put d a) := by
 unfold put
 split
 · rename_i hc
   intro i
   have hv := chk_zero hc.1
   unfold setDb
   by_cases e : i = a.f0.toNat
   · have := hv.id0
     simp only [e, if_true]
     exact ⟨fun _ => ⟨hc.1, by omega⟩, fun h => by cases h⟩
   · simp only [if_neg e]
     exact h i
 · exact h
theorem DbOk.valid {d : Db} (h : DbOk d) (i : Nat) : ((d.1 i).f3.length ≤ 16) ∧ ∀ x ∈ (d.1 i).f3, 0 ≤ x.f0 ∧ x.f0 < 16 := by
 cases e : d.2 i with
 | true => have hv := chk_zero ((h i).1 e).1; exact ⟨hv.len, fun x hx => ⟨(hv.peer x hx).1, (hv.peer x hx).2.1⟩⟩
 | false => rw [(h i).2 e]; exact ⟨by simp, fun x hx => by cases hx⟩
theorem Put_any (a : S24) (A : Option Addr) (ca p : Nat) (d : Db) (w w0 : World) (hd : DbOk d) (hca : a.f3.length ≤ ca) (HKC : Hid (Kd.C k28 w A a.f3.length a.f3)) (H : Hid (BaseAt w p d.1 d.2)) (HB0 : Hid (Below w0.heap.size w0 w)) (hp0 : w0.heap.size ≤ p) :
 Calls Try.prog 50 #[.pointer (some ⟨p, 0, none⟩), .agg #[.int .i64 a.f0, .int .i64 a.f1, .int .i64 a.f2, .slice A a.f3.length ca]] w fun e w' => ∃ n er, e = .returned (.tuple #[.int .i64 n, .int .i64 er]) ∧ BaseAt w' p (put d a).1 (put d a).2 ∧ Below w0.heap.size w0 w' ∧ KeepBut w w' p none := by
 by_cases hc : Chk a = 0
 · have hv := chk_zero hc
   have h0 := hv.id0
   have h1 := hv.id1
   have hai : a.f0 = ((a.f0.toNat : Nat) : Int) := by omega
   cases hh : d.2 a.f0.toNat with
   | false =>
    have e : put d a = setDb d a.f0.toNat a := if_pos ⟨hc, fun h => by rw [hh] at h; cases h⟩
    rw [e]
    exact (Put_new a A ca p d.1 d.2 w w0 hca HKC H HB0 hp0 a.f0.toNat (by omega) hai hc (Lib.hid (by have := hv.len; omega)) hh).mono fun e w' ⟨h1, h2, h3, h4⟩ => ⟨_, _, h1, h2, h3, h4⟩
   | true =>
    by_cases hn : newerP a (d.1 a.f0.toNat) > 0
    · have e : put d a = setDb d a.f0.toNat a := if_pos ⟨hc, fun _ => hn⟩
      rw [e]
      exact (Put_more a A ca p d.1 d.2 w w0 hca HKC H HB0 hp0 a.f0.toNat (by omega) hai hc (Lib.hid (by have := hv.len; omega)) hv.len (hd.valid _).1 hh _ (Lib.hid rfl) hn).mono fun e w' ⟨h1, h2, h3, h4⟩ => ⟨_, _, h1, h2, h3, h4⟩
    · have e : put d a = d := if_neg fun h => hn (h.2 hh)
      rw [e]
      exact (Put_stays a A ca p d.1 d.2 w w0 hca HKC H HB0 hp0 a.f0.toNat (by omega) hai hc (Lib.hid (by have := hv.len; omega)) hv.len (hd.valid _).1 hh _ (Lib.hid rfl) hn).mono fun e w' ⟨h1, h2, h3, h4⟩ => ⟨_, _, h1, h2, h3, KeepBut.of_below h4 _ _⟩
 · have e : put d a = d := if_neg fun h => hc h.1
   rw [e]
   exact (Put_bad a A ca p d.1 d.2 w w0 hca HKC H HB0 hp0 hc).mono fun e w' ⟨h1, h2, h3, h4⟩ => ⟨_, _, h1, h2, h3, KeepBut.of_below h4 _ _⟩
def z24 : S24 := ⟨0, 0, 0, []⟩
instance : Inhabited S24 := ⟨z24⟩
theorem C24_cell {w : World} {A : Option Addr} {xs : List S24} (h : Kd.C k24 w A xs.length xs) (hp : 0 < xs.length) : ∃ ad, A = some ad ∧ ∀ j, j < xs.length → ∃ B c, w.cell? (ad.add (j * 4)) = some (.int .i64 (xs.getD j z24).f0) ∧ w.cell? ⟨(ad.add (j * 4)).block, (ad.add (j * 4)).off + 1, none⟩ = some (.int .i64 (xs.getD j z24).f1) ∧ w.cell? ⟨(ad.add (j * 4)).block, (ad.add (j * 4)).off + 2, none⟩ = some (.int .i64 (xs.getD j z24).f2) ∧ w.cell? ⟨(ad.add (j * 4)).block, (ad.add (j * 4)).off + 3, none⟩ = some (.slice B (xs.getD j z24).f3.length c) ∧ (xs.getD j z24).f3.length ≤ c ∧ Kd.C k28 w B (xs.getD j z24).f3.length (xs.getD j z24).f3 := by
 obtain ⟨ad, _, rfl, _⟩ := Kd.C_get h z24 0 (by omega) (by omega)
 refine ⟨ad, rfl, fun j hj => ?_⟩
 obtain ⟨ad', c, e, hl, hK, hc⟩ := Kd.C_get h z24 j (by omega) (by omega)
 cases e
 obtain ⟨B, n, hcs, hle, hC⟩ := k24_open hK
 subst hcs
 exact ⟨B, n, hc 0 _ rfl, by rw [← add_field _ _ 1 (by omega)]; exact hc 1 _ rfl, by rw [← add_field _ _ 2 (by omega)]; exact hc 2 _ rfl, by rw [← add_field _ _ 3 (by omega)]; exact hc 3 _ rfl, hle, hC⟩
end Go.Proofs.Ytaneaabmgnanbaa.M
