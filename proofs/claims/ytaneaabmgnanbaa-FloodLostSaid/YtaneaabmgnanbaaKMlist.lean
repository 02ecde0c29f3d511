import Derived.Test.YtaneaabmgnanbaaKMAdvBoth2
import Derived.LoopTactic
import Derived.Deep.MidRow
import Derived.RegionTactic
import Derived.BigRegion
namespace Go.Proofs.Ytaneaabmgnanbaa.M
open Go.RowKit Go.Proofs.YtaneaabmgnanbaaW.PrintWords Go.Proofs.YtaneaabmgnanbaaW.PrintLast Go.Proofs.YtaneaabmgnanbaaW.PrintMore Go.Proofs.Ytaneaabmgnanbaa.PAdvBack
set_option linter.unusedVariables false
set_option linter.unusedSimpArgs false
theorem info24 : (Try.prog.info? 24).map (fun i => (i.zero, i.size, i.bytes)) = some (some (.agg #[.int .i64 0, .int .i64 0, .int .i64 0, .slice none 0 0]), 4, 48) := by kernel_rfl
def listTo (d : Db) (n : Nat) : List S24 := ((List.range n).filter d.2).map d.1
def listOf (d : Db) : List S24 := listTo d 16
theorem listTo_succ (d : Db) (n : Nat) : listTo d (n + 1) = listTo d n ++ (if d.2 n = true then [d.1 n] else []) := by
 unfold listTo
 rw [List.range_succ, List.filter_append, List.map_append]
 congr 1
 cases h : d.2 n <;> simp [List.filter_cons, h]
theorem listTo_le (d : Db) (n : Nat) : (listTo d n).length ≤ n := by
 unfold listTo
 rw [List.length_map]
 exact Nat.le_trans (List.length_filter_le _ _) (by simp)
theorem k24_mkM {W : World} {base : Nat} {ok : Nat → Prop} {x y z : Int} {ls : List S28} {v : Value} (h : Kd.R k28 28 W base ok v ls) : k24.M W base ok ⟨x, y, z, ls⟩ [.int .i64 x, .int .i64 y, .int .i64 z, v] :=
 ⟨[.int .i64 x], [.int .i64 y, .int .i64 z, v], rfl, rfl, [.int .i64 y], [.int .i64 z, v], rfl, rfl, [.int .i64 z], [v], rfl, rfl, v, rfl, h⟩
set_option maxHeartbeats 2000000 in
set_option maxRecDepth 100000 in
theorem List27 (p : Nat) (d : Db) (hd : DbOk d) (w : World) (H : Hid (BaseAt w p d.1 d.2)) : Calls Try.prog 27 #[.pointer (some ⟨p, 0, none⟩)] w fun e w' => ∃ v, e = .returned v ∧ Kd.R k24 24 w' w.heap.size (fun k => w.heap.size ≤ k) v (listOf d) ∧ Below w.heap.size w w' := by
 have hu93 := Try.underlying93
 have hu24 := Try.underlying24
 have hu43 := Try.underlying43
 have hu91 := Try.underlying91
 have hlt := H.out.lt
 have HD := Lib.hid hd
 clear hd
 obtain ⟨V, hVs, hVr, hVi⟩ := H.out.whole
 have HVS := Lib.hid hVs
 have HVR := Lib.hid hVr
 have HVI := Lib.hid hVi
 clear hVs hVr hVi
 go_enter Try.func27, Try.ntmps27
 go_wp2_with ((with_reducible refine gate_dst (N := 9) rfl ?_); refine wpList_load_mid rfl 90 (.tmp 8) rfl p 0 rfl V.toList (.array 16 24) HVR.out Try.underlying90 rfl (by rw [size90, Array.length_toList, HVS.out]) ?_)
 go_loopw [3, 10] (fun v i wr => ∃ k : Nat, k ≤ 16 ∧ i = .int .i64 k ∧ Hid (Kd.R k24 24 wr w.heap.size (fun k => w.heap.size ≤ k) v (listTo d k)) ∧ Hid (Below w.heap.size w wr)) (fun _ i _ => 16 - (intOf i).toNat)
 case atStart => exact ⟨0, Nat.zero_le _, rfl, Lib.hid (Kd.R_nil _ _ _ _ _), Lib.hid (Below.refl _ _)⟩
 case round =>
  obtain ⟨k, hk, rfl, HR, HB⟩ := hrel
  by_cases hlt16 : k < 16
  · obtain ⟨A, c, v0, v1, v2, v3, hle, hC⟩ := HVI.out k hlt16
    have hix := idx90 V k _ _ _ _ hlt16 HVS.out v0 v1 v2 v3
    have HLE := Lib.hid hle
    have HC := Lib.hid hC
    clear v0 v1 v2 v3 hle hC
    have hki : (k : Int) < 16 := by omega
    have hll := (HD.out.valid k).1
    obtain ⟨_, _, _, _, _, _, h4, _, _, _⟩ := (H.out.below HB.out).read hlt16
    have hpl := (H.out.below HB.out).lt
    have hsc := listTo_succ d k
    have hbe := below_alloc (Below.refl wr.heap.size wr) (.cells #[.int .i64 (d.1 k).f0, .int .i64 (d.1 k).f1, .int .i64 (d.1 k).f2, .slice A (d.1 k).f3.length c] 24)
    obtain ⟨xs, Hxs⟩ : ∃ l, Hid (l = listTo d k) := ⟨_, Lib.hid rfl⟩
    have hxl : xs.length ≤ 16 := by rw [Hxs.out]; exact Nat.le_trans (listTo_le d k) hk
    rw [← Hxs.out] at HR
    rw [← Hxs.out] at hsc
    have HBE := Lib.hid hbe
    clear hbe
    cases hh : d.2 k with
    | false =>
     rw [hh] at h4 hsc
     have HSC := Lib.hid hsc
     have HH := Lib.hid hh
     clear hh hsc
     go_wp2_with fail
     go_round
     case rel => exact ⟨k + 1, by omega, by go_num, by rw [HSC.out, if_neg (by simp), List.append_nil]; exact Lib.hid (Kd.R_below HR.out HBE.out), Lib.hid (below_self HB.out HBE.out)⟩
     case measure => simp [intOf]; omega
    | true =>
     rw [hh] at h4 hsc
     have HSC := Lib.hid hsc
     have HH := Lib.hid hh
     clear hh hsc
     go_wp2_with fail
     have HB1 := Lib.hid (below_self HB.out HBE.out)
     refine (own53 (d.1 k).f0 (d.1 k).f1 (d.1 k).f2 A c (d.1 k).f3 _ (by omega) (Lib.hid (Kd.C_below HC.out HB1.out))).mono ?_
     rintro e w4 ⟨A', c', rfl, hle4, hR4, hb4⟩
     have HB4 := Lib.hid (below_self HB1.out hb4)
     have HRX := Lib.hid (Kd.R_below (Kd.R_below HR.out HBE.out) hb4)
     have hs1 : (wr.alloc (.cells #[.int .i64 (d.1 k).f0, .int .i64 (d.1 k).f1, .int .i64 (d.1 k).f2, .slice A (d.1 k).f3.length c] 24)).heap.size = wr.heap.size + 1 := by simp
     rw [hs1] at hR4
     have HR4 := Lib.hid (Kd.R_lower hR4 (Nat.le_trans HB.out.size (Nat.le_succ _)))
     have HOWN : Hid (∀ b, u3.ownBlock = some b → b < wr.heap.size) := Lib.hid (fun b hb => by obtain ⟨inner, ho⟩ := Kd.R_own HR.out; exact own_lt ho b hb)
     have hs4 : w.heap.size ≤ wr.heap.size := HB.out.size
     have HS4 := Lib.hid hs4
     clear hR4 hb4 hle4 hix h4 hpl hs1 hs4
     go_wp2_with ((with_reducible refine gate_builtin (b := .append) (xs := #[.tmp 20, .tmp 23]) rfl ?_); at_builtin; refine Kd.R_append k24 (w0 := w) w.heap.size rfl (.tmp 20) (.tmp 23) 43 24 (.agg #[.int .i64 0, .int .i64 0, .int .i64 0, .slice none 0 0]) 48 rfl Try.underlying43 info24 rfl (by decide) (by omega) u3 xs (d.1 k) [.int .i64 (d.1 k).f0, .int .i64 (d.1 k).f1, .int .i64 (d.1 k).f2, .slice A' (d.1 k).f3.length c'] (fun k => w.heap.size ≤ k) (fun q => wr.heap.size + 1 ≤ q) rfl rfl ?aP ?aK ?aF ?aO ?aB ?aS ?aL ?_; (case aP => exact k24_mkM HR4.out); (case aK => exact fun q hq => ⟨by have := HS4.out; omega, fun e => by have := HOWN.out q e.symm; omega⟩); (case aF => exact fun q hq => Nat.le_trans HB4.out.size hq); (case aO => exact HRX.out); (case aB => exact HB4.out); (case aS => exact HB4.out.size); (case aL => omega); intro v5 w5 ho hb hg hat; have HR5 := Lib.hid ho; have HB5 := Lib.hid hb; clear ho hb hg hat)
     go_round
     case rel => exact ⟨k + 1, by omega, by go_num, by rw [HSC.out, if_pos (by trivial)]; exact HR5, HB5⟩
     case measure => simp [intOf]; omega
  · obtain rfl : k = 16 := by omega
    go_wp2_with fail
    go_ret
    exact ⟨_, rfl, HR.out, HB.out⟩
set_option maxHeartbeats 2000000 in
set_option maxRecDepth 100000 in
theorem EqualFunc26 (A B : Option Addr) (c c2 : Nat) (l : List S24) (w : World) (hl : l.length ≤ 1000) (hll : ∀ x ∈ l, x.f3.length ≤ 1000) (hA : Hid (Kd.C k24 w A l.length l)) (hB : Hid (Kd.C k24 w B l.length l)) :
 Calls Try.prog 26 #[.slice A l.length c, .slice B l.length c2, .func (.func 19) #[] #[]] w fun e w' => e = .returned (.bool true) ∧ Below w.heap.size w w' := by
 have hu43 := Try.underlying43
 have hu24 := Try.underlying24
 have HLL := Lib.hid hll
 clear hll
 go_enter Try.func26, Try.ntmps26
 go_wp2_with fail
 go_loopw [17] (fun i wr => ∃ k : Nat, k ≤ l.length ∧ i = .int .i64 k ∧ Hid (Below w.heap.size w wr)) (fun i _ => l.length - (intOf i).toNat)
 case atStart => exact ⟨0, Nat.zero_le _, rfl, Lib.hid (Below.refl _ _)⟩
 case round =>
  obtain ⟨k, hk, rfl, HBr⟩ := hrel
  by_cases hlt : k < l.length
  · obtain ⟨ad, rfl, hcA⟩ := C24_cell (Kd.C_below hA.out HBr.out) (by omega)
    obtain ⟨bd, rfl, hcB⟩ := C24_cell (Kd.C_below hB.out HBr.out) (by omega)
    obtain ⟨x, Hx⟩ : ∃ v, Hid (v = l.getD k z24) := ⟨_, Lib.hid rfl⟩
    obtain ⟨C1, d1, a0, a1, a2, a3, ale, aC⟩ := hcA k hlt
    obtain ⟨C2, d2, b0, b1, b2, b3, ble, bC⟩ := hcB k hlt
    rw [← Hx.out] at a0 a1 a2 a3 ale aC b0 b1 b2 b3 ble bC
    have hxl := HLL.out x (by rw [Hx.out, List.getD_eq_getElem?_getD, List.getElem?_eq_getElem hlt]; exact List.getElem_mem hlt)
    obtain ⟨k3, hs⟩ := sameAdv_refl x.f0 x.f1 x.f2 x.f3 (by omega)
    have HS := Lib.hid hs
    have HA2 := Lib.hid aC
    have HB2 := Lib.hid bC
    have HAL := Lib.hid ale
    have HBL := Lib.hid ble
    have hbe := below_alloc (Below.refl wr.heap.size wr) (.cells #[.int .i64 x.f0, .int .i64 x.f1, .int .i64 x.f2, .slice C1 x.f3.length d1] 24)
    have HBE := Lib.hid hbe
    have HXE := Lib.hid (blk_alloc wr (.cells #[.int .i64 x.f0, .int .i64 x.f1, .int .i64 x.f2, .slice C1 x.f3.length d1] 24))
    have B0 := Lib.hid (pw_cell_below hbe b0)
    have B1 := Lib.hid (pw_cell_below hbe b1)
    have B2 := Lib.hid (pw_cell_below hbe b2)
    have B3 := Lib.hid (pw_cell_below hbe b3)
    clear hcA hcB hs aC bC ale ble hxl hbe b0 b1 b2 b3
    go_upto_region 6 with (fail)
    obtain ⟨xb, Hxb⟩ : ∃ b, Hid (b = wr.heap.size) := ⟨_, Lib.hid rfl⟩
    rw [← Hxb.out] at HXE
    rw [← Hxb.out]
    generalize wr.alloc (.cells #[.int .i64 x.f0, .int .i64 x.f1, .int .i64 x.f2, .slice C1 x.f3.length d1] 24) = w2 at HBE HXE B0 B1 B2 B3 ⊢
    have b0 := B0.out
    have b1 := B1.out
    have b2 := B2.out
    have b3 := B3.out
    obtain ⟨p0, p1, p2, p3, pf⟩ := blk_cells4 HXE.out
    have hpl := blk_lt HXE.out
    have HBB := Lib.hid (below_self HBE.out (below_alloc (Below.refl w2.heap.size w2) (.cells #[.int .i64 x.f0, .int .i64 x.f1, .int .i64 x.f2, .slice C2 x.f3.length d2] 24)))
    go_wp2_with fail
    refine (patchbaykeep2_sameAdv.calls k3 x.f0 x.f1 x.f2 C1 d1 x.f3 x.f0 x.f1 x.f2 C2 d2 x.f3 true _ (Kd.C_below HA2.out HBB.out) HAL.out (Kd.C_below HB2.out HBB.out) HBL.out HS.out).mono ?_
    rintro e w3 ⟨rfl, hb3⟩
    have HB3 := Lib.hid (below_self HBr.out (below_self HBB.out hb3))
    clear hb3
    go_wp2_with fail
    go_round
    case rel => exact ⟨k + 1, by omega, by go_num, HB3⟩
    case measure => simp [intOf]; omega
  · go_wp2_with fail
    go_ret
    exact ⟨rfl, HBr.out⟩
end Go.Proofs.Ytaneaabmgnanbaa.M
