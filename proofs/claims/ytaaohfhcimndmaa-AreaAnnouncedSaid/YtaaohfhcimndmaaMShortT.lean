/- Proved: ShortTurned. No condition. -/
import Derived.Test.YtaaohfhcimndmaaMlives
import Derived.LoopTactic
import Derived.BigQuiet
import Derived.RegionTactic
import Derived.BigRegion
namespace Go.Proofs.Ytaaohfhcimndmaa.M
open Go.RowKit Go.Proofs.YtaaohfhcimndmaaW.PrintWords Go.Proofs.YtaaohfhcimndmaaW.PrintLast Go.Proofs.YtaaohfhcimndmaaW.PrintMore 
set_option linter.unusedVariables false
set_option linter.unusedSimpArgs false

open Go.Proofs.Ytaaohfhcimndmaa.PAreaAnnounced
/-- A graph that is being filled. -/
def TS (V wr : World) (N bo : Nat) (L : List S46) : Prop := Below V.heap.size V wr ∧ ∃ A c, wr.heap[bo]? = some (.cells #[.int .i64 N, .slice A L.length c] 42 (0, 0)) ∧ L.length ≤ c ∧ Kd.R k46 46 wr V.heap.size (fun k => V.heap.size ≤ k) (.slice A L.length c) L
theorem TS.below {V wr w' : World} {N bo : Nat} {L : List S46} (h : TS V wr N bo L) (hb : Below wr.heap.size wr w') : TS V w' N bo L := by
  obtain ⟨h1, A, c, h3, h4, h5⟩ := h
  exact ⟨h1.trans (hb.mono h1.size), A, c, blk_keep hb h3, h4, Kd.R_below h5 hb⟩
theorem TS.add {V wr w1 : World} {N bo : Nat} {L L1 : List S46} {A A1 : Option Addr} {c c1 : Nat} (hb : Below V.heap.size V w1) (h3 : wr.heap[bo]? = some (.cells #[.int .i64 N, .slice A L.length c] 42 (0, 0)))
    (hR : Kd.R k46 46 wr V.heap.size (fun k => V.heap.size ≤ k) (.slice A L.length c) L) (ho : Kd.R k46 46 w1 V.heap.size (fun k => V.heap.size ≤ k) (.slice A1 L1.length c1) L1) (hle : L1.length ≤ c1) (hg : wr.grownBy w1 (Value.slice A L.length c).ownBlock) (hbo : V.heap.size ≤ bo) :
    TS V (w1.setCell ⟨bo, 1, none⟩ (.slice A1 L1.length c1)) N bo L1 := by
  have h4 := (hg.block bo (blk_lt h3) (Kd.R_ne hR h3 (by decide))).trans h3
  exact ⟨Below.setCell hb hbo _, A1, c1, blk_set h4 1 _, hle, Kd.R_set ho h4 (by decide) 1 _⟩
theorem turn_ok {n : Nat} {es : List S46} (h : GOk n es) : GOk n (es.map turn) := by
  refine ⟨h.n1, h.n16, by rw [List.length_map]; exact h.len, fun e he => ?_⟩
  obtain ⟨x, hx, rfl⟩ := List.mem_map.1 he
  obtain ⟨a, b, c, d, f, g⟩ := h.ok x hx
  exact ⟨c, d, a, b, f, g⟩
set_option maxHeartbeats 4000000 in
set_option maxRecDepth 100000 in
theorem ShortTurned_walk (a : Int) (A : Option Addr) (c : Nat) (es : List S46) (f t : Int) (w : World) (hle : es.length ≤ c) (hK : Kd.C k46 w A es.length es) :
    Calls Try.prog 5 #[.agg #[.int .i64 a, .slice A es.length c], .int .i64 f, .int .i64 t] w fun e w' => e = .returned (.bool true) ∧ Below w.heap.size w w' := by
  have hu25 := Try.underlying25
  have hu40 := Try.underlying40
  have hu42 := Try.underlying42
  have hu46 := Try.underlying46
  have HK := Lib.hid hK
  have HLE := Lib.hid hle
  obtain ⟨hN1, hN8, _⟩ := fitN_range a
  clear hK hle
  go_enter Try.func5, Try.ntmps5
  go_wp2_with fail
  have HX := Lib.hid (blk_alloc w (.cells #[.int .i64 a, .slice A es.length c] 42))
  have HB := Lib.hid (below_alloc (Below.refl w.heap.size w) (.cells #[.int .i64 a, .slice A es.length c] 42))
  refine (lives18 _).mono ?_
  rintro e w1 ⟨rfl, hb1⟩
  have HB1 := Lib.hid (below_self HB.out hb1)
  have HX1 := Lib.hid (blk_keep hb1 HX.out)
  obtain ⟨x0, x1, xf⟩ := blk_cells2 HX1.out
  have hxl := blk_lt HX1.out
  clear hb1
  go_wp2_with fail
  refine (fitted19 a 10 es A c w1 (by omega) HLE.out (Lib.hid (Kd.C_below HK.out HB1.out))).mono ?_
  rintro e w2 ⟨A1, c1, rfl, hl1, hR1, hb2⟩
  obtain ⟨N, HN⟩ : ∃ n, Hid (n = fitN a) := ⟨_, Lib.hid rfl⟩
  rw [← HN.out] at hN1 hN8 hl1 hR1
  rw [← HN.out]
  obtain ⟨L, HL⟩ : ∃ l, Hid (l = (es.take 10).map (fitE N)) := ⟨_, Lib.hid rfl⟩
  rw [← HL.out] at hl1 hR1
  rw [← HL.out]
  have hLl : L.length ≤ 10 := by rw [HL.out, List.length_map, List.length_take]; omega
  have HOK : Hid (GOk N L) := by rw [HL.out]; exact Lib.hid (fit_ok hN1 hN8 (by rw [List.length_take]; omega))
  have HB2 := Lib.hid (below_self HB1.out hb2)
  have HX2 := Lib.hid (blk_keep hb2 HX1.out)
  clear hb2 x0 x1 xf hxl
  obtain ⟨x0, x1, xf⟩ := blk_cells2 HX2.out
  have hxl := blk_lt HX2.out
  have HR1 := Lib.hid hR1
  have HL1 := Lib.hid hl1
  clear hl1 hR1
  go_wp2_with fail
  have HX3 := Lib.hid (blk_set (blk_set HX2.out 0 (.int .i64 N)) 1 (.slice A1 L.length c1))
  have HB3 := Lib.hid (Below.setCell (Below.setCell HB2.out (p := ⟨w.heap.size, 0, none⟩) (Nat.le_refl _) (.int .i64 N)) (p := ⟨w.heap.size, 1, none⟩) (Nat.le_refl _) (.slice A1 L.length c1))
  have HR3 := Lib.hid (Kd.R_set (Kd.R_set HR1.out HX2.out (by decide) 0 (.int .i64 N)) (blk_set HX2.out 0 (.int .i64 N)) (by decide) 1 (.slice A1 L.length c1))
  clear x0 x1 xf hxl
  generalize (w2.setCell ⟨w.heap.size, 0, none⟩ (.int .i64 N)).setCell ⟨w.heap.size, 1, none⟩ (.slice A1 L.length c1) = w3 at HX3 HB3 HR3 ⊢
  have HC3 := Lib.hid (Kd.R_reads' HR3.out).2.2
  have HXd := Lib.hid (show w3.drew.heap[w.heap.size]? = _ from HX3.out)
  have HBd := Lib.hid (below_drew (B := w.heap.size) HB3.out)
  have HCd := Lib.hid (Kd.C_below HC3.out (below_drew (Below.refl w3.heap.size w3)))
  have x0 : w3.drew.cell? ⟨w.heap.size, 0, none⟩ = some (.int .i64 N) := blk_cell HX3.out 0
  have x1 : w3.drew.cell? ⟨w.heap.size, 1, none⟩ = some (.slice A1 L.length c1) := blk_cell HX3.out 1
  refine start_ (n := 8) (S := fun w' => w'.cell? ⟨w.heap.size, 0, none⟩ = some (.int .i64 N) ∧ w'.cell? ⟨w.heap.size, 1, none⟩ = some (.slice A1 L.length c1)) (ds := []) #[false, false, false, false, false, false, false, false] (by kernel_rfl) rfl rfl ⟨x0, x1⟩ (fun hHeld => ?_)
  generalize w3.drew = wd at HXd HBd HCd x0 x1 hHeld ⊢
  refine pure_ (i := 1) (N := some 19) (v := ?_) (a' := ?_) #[false, true, false, false, false, false, false, false] rfl rfl (by kernel_rfl) (fun _ _ _ h => h) (Or.inl ⟨by rfl, ?_⟩) ?_ ?_
  rotate_left
  · intro w'
    go_simp
    with_reducible rfl
  rotate_left
  · simp only [Act.put, List.setIfInBounds_toArray, List.set_cons_zero, List.set_cons_succ, i64_w, i32_w]
    rfl
  refine pure_ (i := 4) (N := some 22) (v := ?_) (a' := ?_) #[false, true, false, false, true, false, false, false] rfl rfl (by kernel_rfl) (fun _ _ _ h => h) (Or.inl ⟨by rfl, ?_⟩) ?_ ?_
  rotate_left
  · intro w'
    go_simp
    with_reducible rfl
  rotate_left
  · simp only [Act.put, List.setIfInBounds_toArray, List.set_cons_zero, List.set_cons_succ, i64_w, i32_w]
    rfl
  refine take_ (i := 0) (N := some 18) (v := ?_) (a' := ?_) #[true, true, false, false, true, false, false, false] rfl rfl (by kernel_rfl) (fun _ _ _ h => h) (Or.inl ⟨by rfl, ?_⟩) hHeld ?_ ?_
  rotate_left
  · rintro w' ⟨s0, s1⟩
    go_simp
    with_reducible rfl
  rotate_left
  · simp only [Act.put, List.setIfInBounds_toArray, List.set_cons_zero, List.set_cons_succ, i64_w, i32_w]
    rfl
  refine take_ (i := 3) (N := some 21) (v := ?_) (a' := ?_) #[true, true, false, true, true, false, false, false] rfl rfl (by kernel_rfl) (fun _ _ _ h => h) (Or.inl ⟨by rfl, ?_⟩) hHeld ?_ ?_
  rotate_left
  · rintro w' ⟨s0, s1⟩
    go_simp
    with_reducible rfl
  rotate_left
  · simp only [Act.put, List.setIfInBounds_toArray, List.set_cons_zero, List.set_cons_succ, i64_w, i32_w]
    rfl
  refine one_ (i := 2) (N := some 20) #[true, true, true, true, true, false, false, false] rfl rfl (by kernel_rfl) (by decide) (fun K hK => ?_)
  refine goes_ Try.func20 (by kernel_rfl) rfl #[.agg #[.int .i64 N, .slice A1 L.length c1], .int .i64 f] (by rfl) rfl rfl (by simp only [List.map_toArray, List.map_cons, List.map_nil]; rfl) ?_
  with_reducible refine (node20 N f A1 L.length c1 _ hN1 hN8).mono ?_
  rintro e w4 ⟨rfl, hb4⟩
  refine ⟨_, rfl, ?_⟩
  have HX4 := Lib.hid (blk_keep hb4 HXd.out)
  have HB4 := Lib.hid (below_self HBd.out hb4)
  have HC4 := Lib.hid (Kd.C_below HCd.out hb4)
  clear hb4
  have y40 := blk_cell HX4.out 0
  have y41 := blk_cell HX4.out 1
  refine hK.out _ _ ⟨y40, y41⟩ (fun hHeld => ?_)
  clear hK K
  refine norm_ (a' := ?_) ?_ ?_
  rotate_left
  · show Act.put _ (some 20) _ = _
    simp only [Act.put, List.setIfInBounds_toArray, List.set_cons_zero, List.set_cons_succ, i64_w, i32_w]
    rfl
  refine one_ (i := 5) (N := some 23) #[true, true, true, true, true, true, false, false] rfl rfl (by kernel_rfl) (by decide) (fun K hK => ?_)
  refine goes_ Try.func20 (by kernel_rfl) rfl #[.agg #[.int .i64 N, .slice A1 L.length c1], .int .i64 t] (by rfl) rfl rfl (by simp only [List.map_toArray, List.map_cons, List.map_nil]; rfl) ?_
  with_reducible refine (node20 N t A1 L.length c1 _ hN1 hN8).mono ?_
  rintro e w5 ⟨rfl, hb5⟩
  refine ⟨_, rfl, ?_⟩
  have HX5 := Lib.hid (blk_keep hb5 HX4.out)
  have HB5 := Lib.hid (below_self HB4.out hb5)
  have HC5 := Lib.hid (Kd.C_below HC4.out hb5)
  clear hb5
  have y50 := blk_cell HX5.out 0
  have y51 := blk_cell HX5.out 1
  refine hK.out _ _ ⟨y50, y51⟩ (fun hHeld => ?_)
  clear hK K
  refine norm_ (a' := ?_) ?_ ?_
  rotate_left
  · show Act.put _ (some 23) _ = _
    simp only [Act.put, List.setIfInBounds_toArray, List.set_cons_zero, List.set_cons_succ, i64_w, i32_w]
    rfl
  refine pure_ (i := 6) (N := some 1) (v := ?_) (a' := ?_) #[true, true, true, true, true, true, true, false] rfl rfl (by kernel_rfl) (fun _ _ _ h => h) (Or.inl ⟨by rfl, ?_⟩) ?_ ?_
  rotate_left
  · intro w'
    go_simp
    with_reducible rfl
  rotate_left
  · simp only [Act.put, List.setIfInBounds_toArray, List.set_cons_zero, List.set_cons_succ, i64_w, i32_w]
    rfl
  refine pure_ (i := 7) (N := some 2) (v := ?_) (a' := ?_) #[true, true, true, true, true, true, true, true] rfl rfl (by kernel_rfl) (fun _ _ _ h => h) (Or.inl ⟨by rfl, ?_⟩) ?_ ?_
  rotate_left
  · intro w'
    go_simp
    with_reducible rfl
  rotate_left
  · simp only [Act.put, List.setIfInBounds_toArray, List.set_cons_zero, List.set_cons_succ, i64_w, i32_w]
    rfl
  refine done_ (by kernel_rfl) ?_

  have hf0 := fitV_range hN1 f
  have ht0 := fitV_range hN1 t
  obtain ⟨fv, hfv⟩ : ∃ v : Nat, fitV N f = v := ⟨(fitV N f).toNat, by omega⟩
  obtain ⟨tv, htv⟩ : ∃ v : Nat, fitV N t = v := ⟨(fitV N t).toNat, by omega⟩
  rw [hfv, htv]
  have hfn : fv < N := by omega
  have htn : tv < N := by omega
  clear hf0 ht0 hfv htv y40 y41
  have hxl := blk_lt HX5.out
  have xf := blk_free HX5.out
  go_wp2_with fail
  have HT0 : Hid (TS w5 (w5.alloc (.cells #[.int .i64 N, .slice none 0 0] 42)) N w5.heap.size []) := Lib.hid ⟨below_alloc (Below.refl _ _) _, none, 0, blk_alloc w5 _, Nat.le_refl _, Kd.R_nil _ _ _ _ _⟩
  obtain ⟨bo, Hbo⟩ : ∃ b, Hid (b = w5.heap.size) := ⟨_, Lib.hid rfl⟩
  have HBO := Lib.hid (show w5.heap.size ≤ bo from by rw [Hbo.out]; omega)
  rw [← Hbo.out] at HT0
  rw [← Hbo.out]
  generalize w5.alloc (.cells #[.int .i64 N, .slice none 0 0] 42) = w6 at HT0 ⊢
  clear y50 y51 hxl xf
  go_loopw [30] (fun u wr => ∃ k : Nat, k ≤ L.length ∧ u = .int .i64 k ∧ Hid (TS w5 wr N bo ((L.take k).map turn))) (fun u _ => L.length - (intOf u).toNat)
  case atStart => exact ⟨0, Nat.zero_le _, rfl, HT0⟩
  case round =>
    obtain ⟨k, hk, rfl, HT⟩ := hrel
    by_cases hlt : k < L.length
    · obtain ⟨ad, rfl, hcell⟩ := C46_cell (Kd.C_below HC5.out HT.out.1) (by omega)
      obtain ⟨x, Hx⟩ : ∃ e : S46, Hid (e = L.getD k z46) := ⟨_, Lib.hid rfl⟩
      obtain ⟨c0, c1', c2⟩ := hcell k hlt
      rw [← Hx.out] at c0 c1' c2
      have HSN : Hid ((L.take (k + 1)).map turn = (L.take k).map turn ++ [turn x]) := Lib.hid (by
        rw [List.take_add_one, List.map_append, Hx.out]
        simp [List.getD_eq_getElem?_getD, hlt])
      obtain ⟨M, HM⟩ : ∃ l, Hid (l = (L.take k).map turn) := ⟨_, Lib.hid rfl⟩
      have hMl : M.length ≤ 100 := by rw [HM.out, List.length_map, List.length_take]; omega
      rw [← HM.out] at HT HSN
      obtain ⟨hb3, A3, cc3, ho3, hle3, hR3⟩ := HT.out
      have o1 := blk_cell ho3 1
      have of := blk_free ho3
      have hol := blk_lt ho3
      have hbe := below_alloc (Below.refl wr.heap.size wr) (.cells #[.int .i64 x.f0, .int .i64 x.f1, .int .i64 x.f2] 46)
      have HRe := Lib.hid (Kd.R_below hR3 hbe)
      have HOe := Lib.hid (blk_keep hbe ho3)
      have HBe := Lib.hid (hb3.trans (hbe.mono hb3.size))
      have hse := HBe.out.size
      have HSE := Lib.hid hse
      have HX3 := Lib.hid (blk_alloc wr (.cells #[.int .i64 x.f0, .int .i64 x.f1, .int .i64 x.f2] 46))
      clear hcell hb3 ho3 hle3 hR3 hbe hse o1 of hol
      go_upto_region 9 with (fail)
      obtain ⟨xb, Hxb⟩ : ∃ b, Hid (b = wr.heap.size) := ⟨_, Lib.hid rfl⟩
      rw [← Hxb.out] at HX3
      rw [← Hxb.out]
      generalize wr.alloc (.cells #[.int .i64 x.f0, .int .i64 x.f1, .int .i64 x.f2] 46) = w3 at HX3 HRe HOe HBe HSE ⊢
      have o1 := blk_cell HOe.out 1
      have of := blk_free HOe.out
      have hol := blk_lt HOe.out
      have e0 := blk_cell HX3.out 0
      have e1 := blk_cell HX3.out 1
      have e2 := blk_cell HX3.out 2
      have hel := blk_lt HX3.out
      go_wp2_with ((with_reducible refine gate_builtin (b := .append) (xs := #[.tmp 35, .tmp 43]) rfl ?_); at_builtin; refine Kd.R_append k46 (w0 := w5) w5.heap.size rfl (.tmp 35) (.tmp 43) 40 46 (.agg #[.int .i64 0, .int .i64 0, .int .i64 0]) 24 rfl Try.underlying40 info46 rfl (by decide) (by omega) (.slice A3 M.length cc3) M (turn x) [.int .i64 x.f1, .int .i64 x.f0, .int .i64 x.f2] (fun k => w5.heap.size ≤ k) (fun _ => False) rfl rfl ?aP (fun _ hk => hk.elim) ?aF ?aO ?aB ?aS ?aL ?_; (case aP => exact k46_mkM _ _ _ (turn x)); (case aF => exact fun k hk => Nat.le_trans HSE.out hk); (case aO => exact HRe.out); (case aB => exact HBe.out); (case aS => exact HSE.out); (case aL => omega); intro v6 w7 ho hb hg hat; obtain ⟨L2, HL2⟩ : ∃ L2, Hid (L2 = M ++ [turn x]) := ⟨_, Lib.hid rfl⟩; rw [← HL2.out] at ho; obtain ⟨A6, c6, rfl, hle6, _⟩ := Kd.R_reads ho; have HTS := Lib.hid (TS.add hb HOe.out HRe.out ho hle6 hg HBO.out); have hbo6 := (hg.block bo (blk_lt HOe.out) (Kd.R_ne HRe.out HOe.out (by decide))).trans HOe.out; clear o1 of hol; have hol := blk_lt hbo6; have o1 := blk_cell hbo6 1; have of := blk_free hbo6; clear ho hb hg hat hbo6)
      go_round
      case rel => exact ⟨k + 1, by omega, by go_num, by rw [HSN.out, ← HL2.out]; exact HTS⟩
      case measure => simp [intOf]; omega
    · have HT2 : Hid (TS w5 wr N bo (L.map turn)) := by
        have h := HT.out
        rw [List.take_of_length_le (by omega)] at h
        exact Lib.hid h
      obtain ⟨M, HM⟩ : ∃ l, Hid (l = L.map turn) := ⟨_, Lib.hid rfl⟩
      rw [← HM.out] at HT2
      obtain ⟨hb3, A3, cc3, ho3, hle3, hR3⟩ := HT2.out
      have HX6 := Lib.hid (blk_keep hb3 HX5.out)
      have HO6 := Lib.hid ho3
      have HR6 := Lib.hid hR3
      have HL6 := Lib.hid hle3
      have HB6 := Lib.hid (below_self HB5.out hb3)
      have HC6 := Lib.hid (Kd.C_below HC5.out hb3)
      have x0 := blk_cell HX6.out 0
      have x1 := blk_cell HX6.out 1
      have o0 := blk_cell HO6.out 0
      have o1 := blk_cell HO6.out 1
      clear hb3 ho3 hle3 hR3
      go_wp2_with fail
      refine (Costs21 N fv L A1 c1 wr HOK.out hfn HL1.out HC6).mono ?_
      rintro e w7 ⟨G1, ca, rfl, hD, hGl, hGc, hb⟩
      have HD7 := Lib.hid hD
      have HG7 := Lib.hid hGc
      have HB7 := Lib.hid (below_self HB6.out hb)
      have HX7 := Lib.hid (blk_keep hb HX6.out)
      have HO7 := Lib.hid (blk_keep hb HO6.out)
      have HC7 := Lib.hid (Kd.C_below (Kd.R_reads' HR6.out).2.2 hb)
      clear hD hGl hGc hb x0 x1 o0 o1
      have x0 := blk_cell HX7.out 0
      have x1 := blk_cell HX7.out 1
      have o0 := blk_cell HO7.out 0
      have o1 := blk_cell HO7.out 1
      go_wp2_with fail
      have HOKM : Hid (GOk N M) := by rw [HM.out]; exact Lib.hid (turn_ok HOK.out)
      refine (Costs21 N tv M A3 cc3 w7 HOKM.out htn HL6.out HC7).mono ?_
      rintro e w8 ⟨G2, cb, rfl, hD, hGl, hGc, hb⟩
      have hd2 := hD
      rw [HM.out] at hd2
      have heq := dist_turn HD7.out hd2 (by omega) (by omega) (by omega) (by omega)
      obtain ⟨r, Hr⟩ : ∃ r, Hid (r = rd ca tv) := ⟨_, Lib.hid rfl⟩
      have g1 := row_cell (blk_keep hb HG7.out) (i := tv) (by rw [HD7.out.cl]; exact htn)
      have g2 := row_cell hGc (i := fv) (by rw [hD.cl]; exact hfn)
      rw [← heq, ← Hr.out] at g2
      rw [← Hr.out] at g1
      have HB8 := Lib.hid (below_self HB7.out hb)
      have HX8 := Lib.hid (blk_keep hb HX7.out)
      clear hD hGl hGc hb x0 x1 o0 o1 hd2 heq
      have x0 := blk_cell HX8.out 0
      have htn2 : (tv : Int) < N := by omega
      have hfn2 : (fv : Int) < N := by omega
      go_wp2_with fail
      go_quiet (fail)
      go_wp2_with fail
      go_ret
      exact ⟨rfl, HB8.out.trans (pw_below_drewN (Below.refl _ _) _)⟩

end Go.Proofs.Ytaaohfhcimndmaa.M
