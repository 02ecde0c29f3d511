/- Own lemmas: search. -/
import Derived.Test.YtaaohfhcimndmaaMsr3
import Derived.LoopTactic
import Derived.BigQuiet
import Derived.RegionTactic
import Derived.BigRegion
import Derived.Deep.LoopGhost
namespace Go.Proofs.Ytaaohfhcimndmaa.M
open Go.RowKit Go.Proofs.YtaaohfhcimndmaaW.PrintWords Go.Proofs.YtaaohfhcimndmaaW.PrintLast Go.Proofs.YtaaohfhcimndmaaW.PrintMore 
set_option linter.unusedVariables false
set_option linter.unusedSimpArgs false

open Go.Proofs.Ytaaohfhcimndmaa.PAreaAnnounced
theorem nums_rep (N : Nat) (v : Int) : (nums .i64 (List.replicate N v)).toArray = (List.replicate N (Value.int .i64 v)).toArray := by simp [nums]
set_option maxHeartbeats 8000000 in
set_option maxRecDepth 100000 in
theorem search41 (n s : Nat) (es : List S46) (A : Option Addr) (c : Nat) (w : World) (hg : GOk n es) (hs : s < n) (hle : es.length ≤ c) (HK : Hid (Kd.C k46 w A es.length es)) :
    Calls Try.prog 41 #[.agg #[.int .i64 n, .slice A es.length c], .int .i64 s] w fun e w' => ∃ G cost Ao lo co, e = .returned (.agg #[.slice (some ⟨G, 0, none⟩) n n, .slice Ao lo co]) ∧ Dist n es s cost ∧ w.heap.size ≤ G ∧ w'.heap[G]? = some (.cells (nums .i64 cost).toArray 3 (0, 0)) ∧ Below w.heap.size w w' := by
  have hu25 := Try.underlying25
  have hu42 := Try.underlying42
  have hu46 := Try.underlying46
  have hu84 := Try.underlying84
  have hu99 := Try.underlying99
  have hu101 := Try.underlying101
  have hu40 := Try.underlying40
  have HG := Lib.hid hg
  have hn16 := hg.n16
  have hel := hg.len
  have hsn : (s : Int) < n := by omega
  clear hg
  go_enter Try.func41, Try.ntmps41
  go_wp2_with fail
  have HB0 := Lib.hid ((((Below.refl w.heap.size w).alloc (Nat.le_refl _) (.cells #[.int .i64 n, .slice A es.length c] 42)).alloc (by simp) (.cells #[.slice none 0 0, .slice none 0 0] 84)).alloc (by simp; omega) (.cells #[.int .i64 (-1)] 3))
  have HT0 := Lib.hid (show (((w.alloc (.cells #[.int .i64 n, .slice A es.length c] 42)).alloc (.cells #[.slice none 0 0, .slice none 0 0] 84)).alloc (.cells #[.int .i64 (-1)] 3)).heap[w.heap.size]? = some (.cells #[.int .i64 n, .slice A es.length c] 42 (0, 0)) from blk_keep (below_alloc (Below.refl _ _) _) (blk_keep (below_alloc (Below.refl _ _) _) (blk_alloc w _)))
  have HT1 := Lib.hid (show (((w.alloc (.cells #[.int .i64 n, .slice A es.length c] 42)).alloc (.cells #[.slice none 0 0, .slice none 0 0] 84)).alloc (.cells #[.int .i64 (-1)] 3)).heap[w.heap.size + 1]? = some (.cells #[.slice none 0 0, .slice none 0 0] 84 (0, 0)) from blk_keep (below_alloc (Below.refl _ _) _) (blk_alloc_at (w.alloc (.cells #[.int .i64 n, .slice A es.length c] 42)) _ (by simp)))
  refine (Repeat42 (w.heap.size + 1 + 1) (-1) n _ HG.out.n1 HG.out.n16 (blk_cell (blk_alloc_at _ _ (by simp)) 0)).mono ?_
  rintro e w1 ⟨G, rfl, hGl, hGc, hb⟩
  have HB1 := Lib.hid (below_self HB0.out hb)
  have HT0 := Lib.hid (blk_keep hb HT0.out)
  have HT1 := Lib.hid (blk_keep hb HT1.out)
  have hsz : w.heap.size + 3 ≤ w1.heap.size := by have := hb.size; simpa using this
  have hGw : G < w1.heap.size := blk_lt hGc
  have hgc := blk_cell hGc s
  have hgf := blk_free hGc
  have hgs : w1.cell? ⟨G, s, none⟩ = some (.int .i64 (-1)) := by rw [hgc, List.getElem?_toArray, List.getElem?_replicate, if_pos hs]
  have hGl : w.heap.size + 3 ≤ G := by simpa using hGl
  have HGC := Lib.hid hGc
  clear hb hGc hgc
  go_wp2_with fail
  have HSR := Lib.hid (SR.start (s := s) HB1.out HT0.out HT1.out HGC.out hGl)
  have HSI := Lib.hid (SInv.start (x := 0) HG.out (s := (s : Int)) (by omega) hsn)
  rw [Int.toNat_natCast] at HSI
  obtain ⟨I, HI⟩ : ∃ I : Ids, Hid (I = ⟨w.heap.size, w.heap.size + 1, w1.heap.size, w1.heap.size + 1 + 1, G⟩) := ⟨_, Lib.hid rfl⟩
  rw [← HI.out] at HSR
  have i0 : w.heap.size = I.bg := by rw [HI.out]
  have i1 : w.heap.size + 1 = I.b4 := by rw [HI.out]
  have i2 : w1.heap.size = I.bf := by rw [HI.out]
  have i3' : w1.heap.size + 1 + 1 = I.qb := by rw [HI.out]
  have i4 : G = I.G := by rw [HI.out]
  obtain ⟨cost0, Hc0⟩ : ∃ l, Hid (l = (List.replicate n (-1 : Int)).set s 0) := ⟨_, Lib.hid rfl⟩
  rw [← Hc0.out] at HSR HSI
  have HQL : Hid ((n - ([] : List Int).length) * (es.length + 1) + [(⟨s, 0⟩ : S99)].length ≤ n * (es.length + 1) + 1) := Lib.hid (by simp)
  generalize ((((w1.setCell ⟨G, s, none⟩ (.int .i64 0)).alloc (.cells #[.slice (some ⟨G, 0, none⟩) n n, .slice none 0 0] 84)).alloc (.cells #[.int .i64 s, .int .i64 0] 99)).alloc (.cells #[.slice (some ⟨w1.heap.size + 1, 0, none⟩) 1 1] 101)) = W1 at HSR ⊢
  have HII := Lib.hid (show w.heap.size ≤ I.G from by rw [← i4]; omega)
  rw [i1, i3', i2]
  have i0' := Lib.hid i0
  clear i0 i1 i2 i3' i4 hgs hgf hGw hGl hsz HGC HB1 HT0 HT1 HB0
  go_loopg [7] (n * (es.length + 1) + 1) (fun kq v7 wr => ∃ (cost order : List Int) (q : List S99), Hid (SInv n es s [] 0 cost order q) ∧ Hid (SR w wr n A es.length c I (fun _ => False) cost order q) ∧ Hid ((n - order.length) * (es.length + 1) + q.length ≤ kq))
  case atStart => exact ⟨cost0, [], [⟨s, 0⟩], HSI, HSR, HQL⟩
  case round =>
    obtain ⟨cost, order, q, HV, HS, HM⟩ := hrel
    obtain ⟨Ao, co, Aq, cq, ⟨g0, g1⟩, ⟨f0, f1, ff⟩, q0, gf, ⟨lg, lf, lq, lG⟩, hoc, hCo, hRo, hbf⟩ := HS.out.look
    have HCo := Lib.hid hCo
    have HRo := Lib.hid hRo
    have HBf := Lib.hid hbf
    rw [← i0'.out] at g0 g1 lg
    have hgl4 := blk_lt HS.out.r
    obtain ⟨r0, r1, rf⟩ := blk_cells2 HS.out.r
    clear hCo hRo hbf
    rcases Nat.eq_zero_or_pos q.length with hq0 | hq0
    · have hqn : q = [] := List.eq_nil_of_length_eq_zero hq0
      subst hqn
      have HD := Lib.hid (SInv.end_ HG.out HV.out)
      clear hq0
      go_wp2_with fail
      have hne1 : I.G ≠ I.b4 := SR.blk_ne HS.out.cs HS.out.r (by decide)
      have hx := blk_set (blk_set HS.out.r 0 (.slice (some ⟨I.G, 0, none⟩) n n)) 1 (.slice Ao order.length co)
      have y0 := blk_cell hx 0
      have y1 := blk_cell hx 1
      refine bodyPost_ret (v := .agg #[.slice (some ⟨I.G, 0, none⟩) n n, .slice Ao order.length co]) (by simp [results, Try.results41, go_sem, y0, y1]) rfl ⟨I.G, cost, Ao, order.length, co, rfl, HD.out, HII.out, ?_, Below.setCell (Below.setCell HS.out.below HS.out.le.2.1 _) HS.out.le.2.1 _⟩
      exact (Below.heap_setCell _ ⟨I.b4, 1, none⟩ _ _ hne1).trans ((Below.heap_setCell _ ⟨I.b4, 0, none⟩ _ _ hne1).trans HS.out.cs)
    · obtain ⟨m, hm⟩ : ∃ m, q.length = m + 1 := ⟨q.length - 1, by omega⟩
      have hol := nodup_len HV.out.on HV.out.om
      have hql : q.length ≤ 100000 := by
        have h1 := HV.out.ql
        have h2 : order.length * es.length ≤ 16 * 256 := Nat.mul_le_mul (by omega) hel
        simp only [List.length_nil] at h1
        omega
      have hpp := pop_pure HV.out.hp hm
      have hPop := Pop56 w.heap.size I.qb m (okq w.heap.size wr (fun _ => False)) q wr HS.out.below.size hql hm (Lib.hid HS.out.q.strong)
      obtain ⟨⟨ya, yc⟩, Hy⟩ : ∃ y : S99, Hid (y = (dnF (m + 1) (swp q 0 m) 0 m).getD m z99) := ⟨_, Lib.hid rfl⟩
      obtain ⟨q', Hq'⟩ : ∃ y : List S99, Hid (y = (dnF (m + 1) (swp q 0 m) 0 m).take m) := ⟨_, Lib.hid rfl⟩
      rw [← Hy.out, ← Hq'.out] at hpp hPop
      have hym := HV.out.qm ⟨ya, yc⟩ (hpp.2.1.mem_iff.2 List.mem_cons_self)
      simp only at hym
      obtain ⟨yv, rfl⟩ : ∃ v : Nat, ya = v := ⟨ya.toNat, by omega⟩
      have hql' : q'.length + 1 = q.length := by have := hpp.2.1.length_eq; simp only [List.length_cons] at this; omega
      have HPP := Lib.hid hpp
      have HPop := Lib.hid hPop
      have hyn : yv < n := by omega
      have hyc0 : 0 ≤ yc := by omega
      have hycb : yc ≤ 65535 * 16 := by omega
      have hd0 : decide (0 < q.length) = true := decide_eq_true hq0
      have HQL' := Lib.hid hql'
      clear hpp hPop hm hym hql hq0 hql' r0 r1 rf hgl4
      go_wp2_with fail
      refine HPop.out.mono ?_
      rintro e w2 ⟨rfl, hq2, hf2⟩
      have HS2 := Lib.hid (HS.out.heap hq2 hf2)
      have hta := ta99 yv yc
      clear hq2 hf2 g0 g1 f0 f1 ff q0 gf lg lf lq lG HCo HRo HBf hoc hd0
      have HS3 := Lib.hid (HS2.out.box (.cells #[.int .i64 yv, .int .i64 yc] 99))
      have HX3 := Lib.hid (blk_alloc w2 (.cells #[.int .i64 yv, .int .i64 yc] 99))
      go_wp2_with fail
      obtain ⟨xb, Hxb⟩ : ∃ b, Hid (b = w2.heap.size) := ⟨_, Lib.hid rfl⟩
      rw [← Hxb.out] at HS3 HX3
      rw [← Hxb.out]
      generalize w2.alloc (.cells #[.int .i64 yv, .int .i64 yc] 99) = w3 at HS3 HX3 ⊢
      obtain ⟨Ao, co, Aq, cq, ⟨g0, g1⟩, ⟨f0, f1, ff⟩, q0, gf, ⟨lg, lf, lq, lG⟩, hoc, hCo, hRo, hbf⟩ := HS3.out.look
      have HCo := Lib.hid hCo
      have HRo := Lib.hid hRo
      have HBf := Lib.hid hbf
      rw [← i0'.out] at g0 g1 lg
      obtain ⟨x0, x1, xf⟩ := blk_cells2 HX3.out
      have hxl := blk_lt HX3.out
      obtain ⟨cv, Hcv⟩ : ∃ v, Hid (v = cost.getD yv 0) := ⟨_, Lib.hid rfl⟩
      have hcy := HS3.out.cell (i := yv) (by rw [HV.out.cl]; exact hyn)
      rw [← Hcv.out] at hcy
      have HCV := Lib.hid (show rd cost (yv : Int) = cv from by rw [Hcv.out]; rfl)
      have hyn2 : (yv : Int) < n := by omega
      have hol2 : order.length ≤ 1000000 := by omega
      clear hCo hRo hbf hta
      by_cases h1 : yc = cv
      · have d1 : (yc != cv) = false := by simp [h1]
        by_cases h2 : (yv : Int) ∈ order
        · have hd : decide ((yv : Int) ∈ order) = true := decide_eq_true h2
          have HV2 := Lib.hid (HV.out.pop_skip HPP.out.2.1 HPP.out.1 (.inr h2))
          clear h1 h2
          have HCQ := fun k => ContainsQ Ao co order yv (w3.drewN k) hol2 hoc (Kd.C_below HCo.out (pw_below_drewN (Below.refl _ _) k))
          rw [hd] at HCQ
          have HCQ := Lib.hid HCQ
          clear hd
          go_quiet ((go_at_call 57; exact Calls.quiet_of (HCQ.out _)))
          go_wp2_with fail
          go_roundg ((n - order.length) * (es.length + 1) + q'.length)
          case measure => have := HM.out; have := HQL'.out; omega
          case rel => exact ⟨cost, order, q', HV2, Lib.hid (HS3.out.unbox.step (pw_below_drewN (Below.refl _ _) _)), Lib.hid (Nat.le_refl _)⟩
        · have hd : decide ((yv : Int) ∈ order) = false := decide_eq_false h2
          obtain ⟨hv2, hx2⟩ := HV.out.pop_take HPP.out.2.1 HPP.out.1 HPP.out.2.2 (by show rd cost (yv : Int) = yc; rw [HCV.out, h1]) h2
          have HV2 := Lib.hid hv2
          have HXI := Lib.hid hx2
          have HNO := Lib.hid h2
          clear h1 h2 hv2 hx2
          have HCQ := fun k => ContainsQ Ao co order yv (w3.drewN k) hol2 hoc (Kd.C_below HCo.out (pw_below_drewN (Below.refl _ _) k))
          rw [hd] at HCQ
          have HCQ := Lib.hid HCQ
          clear hd
          go_quiet ((go_at_call 57; exact Calls.quiet_of (HCQ.out _)))
          clear g0 g1 f0 f1 ff q0 gf lg lf lq lG HCo HRo HBf hoc x0 x1 xf hxl hcy
          generalize hq4 : w3.drewN _ = w4
          have HQ4 : Below w3.heap.size w3 w4 := by rw [← hq4]; exact pw_below_drewN (Below.refl _ _) _
          have HS4 := Lib.hid (HS3.out.step HQ4)
          have HX4 := Lib.hid (blk_keep HQ4 HX3.out)
          clear hq4 HQ4 HCQ
          obtain ⟨Ao, co, Aq, cq, ⟨g0, g1⟩, ⟨f0, f1, ff⟩, q0, gf, ⟨lg, lf, lq, lG⟩, hoc, hCo, hRo, hbf⟩ := HS4.out.look
          have HRo := Lib.hid hRo
          have HBf := Lib.hid hbf
          rw [← i0'.out] at g0 g1 lg
          obtain ⟨x0, x1, xf⟩ := blk_cells2 HX4.out
          have hxl := blk_lt HX4.out
          have HG4 := Lib.hid HS4.out.g
          rw [← i0'.out] at HG4
          have hbgf : ¬ w.heap.size = I.bf := by rw [i0'.out]; exact SR.blk_ne HS4.out.g hbf (by decide)
          have hbgf2 : ¬ I.bf = w.heap.size := fun h => hbgf h.symm
          obtain ⟨ord1, Hord1⟩ : ∃ l, Hid (l = order ++ [(yv : Int)]) := ⟨_, Lib.hid rfl⟩
          rw [← Hord1.out] at HV2 HXI
          clear hCo hRo hbf
          go_wp2_with ((with_reducible refine gate_builtin (b := .append) (xs := #[.tmp 46, .tmp 49]) rfl ?_); at_builtin; refine Kd.R_append (Kd.int .i64) (w0 := w) w.heap.size rfl (.tmp 46) (.tmp 49) 25 3 (.int .i64 0) 8 rfl Try.underlying25 i3 rfl (by decide) (by omega) (.slice Ao order.length co) order (yv : Int) [.int .i64 yv] (fun k => w.heap.size ≤ k ∧ k ≠ I.G) (fun _ => False) rfl rfl ?aP (fun _ hk => hk.elim) ?aF ?aO ?aB ?aS ?aL ?_; (case aP => exact rfl); (case aF => exact fun k hk => ⟨Nat.le_trans HS4.out.below.size hk, by omega⟩); (case aO => exact HRo.out); (case aB => exact HS4.out.below); (case aS => exact HS4.out.below.size); (case aL => omega); intro v5 w5 ho hb hg hat; rw [← Hord1.out] at ho; obtain ⟨A5, c5, rfl, hle5, _⟩ := Kd.R_reads ho; have HS6 := Lib.hid (HS4.out.order HRo.out HBf.out ho hle5 hg); have HX5 := Lib.hid ((hg.block xb hxl (Kd.R_ne HRo.out HX4.out (by decide))).trans HX4.out); have HB5 := Lib.hid ((hg.block I.bf lf (Kd.R_ne HRo.out HBf.out (by decide))).trans HBf.out); have hg5 := (hg.block w.heap.size lg (Kd.R_ne HRo.out HG4.out (by decide))).trans HG4.out; clear g0 g1 f0 f1 ff q0 gf lg lf lq lG x0 x1 xf hxl ho hb hg hat; have g1 := blk_cell hg5 1; have f1 := blk_cell HB5.out 1; have ff := blk_free HB5.out 1; have lf := blk_lt HB5.out; clear hg5)
          have HX6 := Lib.hid (show (w5.setCell ⟨I.bf, 1, none⟩ (.slice A5 ord1.length c5)).heap[xb]? = _ from (Below.heap_setCell w5 ⟨I.bf, 1, none⟩ _ _ (by show xb ≠ I.bf; exact SR.blk_ne HX5.out HB5.out (by decide))).trans HX5.out)
          clear g1 f1 ff lf HX5 HB5
          generalize w5.setCell ⟨I.bf, 1, none⟩ (.slice A5 ord1.length c5) = w6 at HS6 HX6 ⊢
          obtain ⟨L0, HL0⟩ : ∃ l, Hid (l = q'.length) := ⟨_, Lib.hid rfl⟩
          have HMM : Hid ((n - ord1.length) * (es.length + 1) + (L0 + es.length) < gk) := by
            have h1 := nodup_len HV2.out.on HV2.out.om
            have h2 : ord1.length = order.length + 1 := by rw [Hord1.out]; simp
            have h3 := HM.out
            have h4 := HQL'.out
            have h5 := HL0.out
            have h6 : n - order.length = (n - ord1.length) + 1 := by omega
            rw [h6, Nat.add_mul] at h3
            exact Lib.hid (by omega)
          go_loopw [55] (fun u wr => ∃ (k : Nat) (cost : List Int) (q : List S99), k ≤ es.length ∧ u = .int .i64 k ∧ Hid (SInv n es s (es.drop k) yv cost ord1 q) ∧ Hid (XInv n yv yc cost ord1) ∧ Hid (SR w wr n A es.length c I (· = xb) cost ord1 q) ∧ Hid (wr.heap[xb]? = some (.cells #[.int .i64 yv, .int .i64 yc] 99 (0, 0))) ∧ q.length ≤ L0 + k) (fun u _ => es.length - (intOf u).toNat)
          case atStart => exact ⟨0, cost, q', Nat.zero_le _, rfl, HV2, HXI, HS6, HX6, by rw [HL0.out]; omega⟩
          case round =>
            clear HV HS HM HL0 HPP HPop HQL' HS2 HS3 HX3 HV2 HXI HS6 HX6 HS4 HX4 HRo HBf HG4 Hcv HCV Hy Hq' HNO
            obtain ⟨k, cost, q, hk, rfl, HV, HXI, HS, HX, hqL⟩ := hrel
            obtain ⟨Ao, co, Aq, cq, ⟨g0, g1⟩, ⟨f0, f1, ff⟩, q0, gf, ⟨lg, lf, lq, lG⟩, hoc, hCo, hRo, hbf⟩ := HS.out.look
            rw [← i0'.out] at g0 g1 lg
            obtain ⟨x0, x1, xf⟩ := blk_cells2 HX.out
            have hxl := blk_lt HX.out
            clear hCo hRo hbf
            by_cases hlt : k < es.length
            · obtain ⟨ad, rfl, hcell⟩ := C46_cell (Kd.C_below HK.out HS.out.below) (by omega)
              obtain ⟨⟨ea, eb, ec⟩, He⟩ : ∃ e : S46, Hid (e = es.getD k z46) := ⟨_, Lib.hid rfl⟩
              obtain ⟨c0, c1, c2⟩ := hcell k hlt
              rw [← He.out] at c0 c1 c2
              have hmem : (⟨ea, eb, ec⟩ : S46) ∈ es := by rw [He.out, List.getD_eq_getElem?_getD, List.getElem?_eq_getElem hlt]; exact List.getElem_mem hlt
              have hdrop : es.drop k = ⟨ea, eb, ec⟩ :: es.drop (k + 1) := by rw [List.drop_eq_getElem_cons hlt, He.out]; simp [List.getD_eq_getElem?_getD, hlt]
              rw [hdrop] at HV
              obtain ⟨e0, e1, e2, e3, e4, e5⟩ := HG.out.ok _ hmem
              simp only at c0 c1 c2 e0 e1 e2 e3 e4 e5
              obtain ⟨eu, rfl⟩ : ∃ v : Nat, ea = v := ⟨ea.toNat, by omega⟩
              obtain ⟨ev, rfl⟩ : ∃ v : Nat, eb = v := ⟨eb.toNat, by omega⟩
              have HMEM := Lib.hid hmem
              have hevn : ev < n := by omega
              obtain ⟨cv, Hcv⟩ : ∃ v, Hid (v = cost.getD ev 0) := ⟨_, Lib.hid rfl⟩
              have hce := HS.out.cell (i := ev) (by rw [HV.out.cl]; exact hevn)
              rw [← Hcv.out] at hce
              have HCV := Lib.hid (show rd cost (ev : Int) = cv from by rw [Hcv.out]; rfl)
              have hev2 : (ev : Int) < n := by omega
              clear hcell hdrop hmem e0 e1 e2 e3
              have HSa := Lib.hid (HS.out.step (below_alloc (Below.refl _ _) (.cells #[.int .i64 eu, .int .i64 ev, .int .i64 ec] 46)))
              have HXa := Lib.hid (blk_keep (below_alloc (Below.refl wr.heap.size wr) (.cells #[.int .i64 eu, .int .i64 ev, .int .i64 ec] 46)) HX.out)
              by_cases h1 : eu = yv
              · have d1 : ((eu : Int) == (yv : Int)) = true := by simp [h1]
                by_cases h2 : 0 ≤ cv ∧ cv ≤ yc + ec
                · have d2 : decide (cv < 0) = false := decide_eq_false (by omega)
                  have d3 : decide (yc + ec < cv) = false := decide_eq_false (by omega)
                  have HV2 := Lib.hid (HV.out.edge_keep HXI.out (fun _ => by show 0 ≤ rd cost (ev : Int) ∧ rd cost (ev : Int) ≤ yc + ec; rw [HCV.out]; exact h2))
                  clear h1 h2
                  go_wp2_with fail
                  go_roundw
                  case rel => exact ⟨k + 1, cost, q, by omega, by go_num, HV2, HXI, HSa, HXa, by omega⟩
                  case measure => simp [intOf]; omega
                · have hrel2 : cv < 0 ∨ yc + ec < cv := by omega
                  have HREL := Lib.hid hrel2
                  have HH1 := Lib.hid h1
                  have hqb : q.length ≤ 100000 := by
                    have h1 := HV.out.ql
                    have h3 := nodup_len HV.out.on HV.out.om
                    have h2 : ord1.length * es.length ≤ 16 * 256 := Nat.mul_le_mul (by omega) hel
                    omega
                  have HSb := Lib.hid ((HS.out.setCost ev (yc + ec) (by rw [HV.out.cl]; exact hevn)).step (below_alloc (Below.refl _ _) (.cells #[.int .i64 eu, .int .i64 ev, .int .i64 ec] 46)))
                  obtain ⟨wb, Hwb⟩ : ∃ wb : World, Hid (wb = (wr.setCell ⟨I.G, ev, none⟩ (.int .i64 (yc + ec))).alloc (.cells #[.int .i64 eu, .int .i64 ev, .int .i64 ec] 46)) := ⟨_, Lib.hid rfl⟩
                  have HXb : Hid (wb.heap[xb]? = some (.cells #[.int .i64 yv, .int .i64 yc] 99 (0, 0))) := by rw [Hwb.out]; exact Lib.hid (blk_keep (below_alloc (Below.refl _ _) _) ((Below.heap_setCell wr ⟨I.G, ev, none⟩ _ _ (SR.blk_ne HX.out HS.out.cs (by decide))).trans HX.out))
                  rw [← Hwb.out] at HSb
                  have hPush := Push58 w.heap.size I.qb (okq w.heap.size wb (· = xb)) q ⟨ev, yc + ec⟩ wb HSb.out.below.size hqb (okq_fresh (fun k hk => by rw [hk]; exact blk_lt HXb.out) HSb.out.below.size) (Lib.hid HSb.out.q.strong)
                  have hpp := push_pure HV.out.hp ⟨(ev : Int), yc + ec⟩
                  obtain ⟨q', Hq'⟩ : ∃ l, Hid (l = upF (q.length + 1) (q ++ [⟨(ev : Int), yc + ec⟩]) q.length) := ⟨_, Lib.hid rfl⟩
                  rw [← Hq'.out] at hPush hpp
                  have HPU := Lib.hid hPush
                  have HQL := Lib.hid (show q'.length = q.length + 1 from by rw [hpp.2.length_eq]; simp)
                  obtain ⟨hv2, hx2⟩ := HV.out.edge_relax HG.out HXI.out HMEM.out (by show (eu : Int) = yv; rw [h1]) (by show rd cost (ev : Int) < 0 ∨ yc + ec < rd cost (ev : Int); rw [HCV.out]; exact hrel2) hpp.2 hpp.1
                  simp only [Int.toNat_natCast] at hv2 hx2
                  have HV2 := Lib.hid hv2
                  have HX2 := Lib.hid hx2
                  have tail : ∀ (a : Act), True := fun _ => trivial
                  clear hPush hpp hv2 hx2 h1 h2 hrel2 tail hqb
                  by_cases h3 : cv < 0
                  · have d2 : decide (cv < 0) = true := decide_eq_true h3
                    clear h3
                    go_wp2_with fail
                    rw [← Hwb.out]
                    refine HPU.out.mono ?_
                    rintro e w7 ⟨rfl, hq7, hf7⟩
                    have HS7 := Lib.hid (HSb.out.heap hq7 hf7)
                    have HX7 := Lib.hid (hf7.blk HXb.out (fun h => h.elim (fun e => by obtain ⟨_, _, hqb7, _, _⟩ := HSb.out.q; exact SR.blk_ne HXb.out hqb7 (by decide) e) (fun h => h.2.1 rfl)))
                    clear hq7 hf7 g0 g1 f0 f1 ff q0 gf lg lf lq lG x0 x1 xf hxl hce c0 c1 c2
                    go_wp2_with fail
                    go_roundw
                    case rel => exact ⟨k + 1, _, q', by omega, by go_num, HV2, HX2, HS7, HX7, by have := HQL.out; omega⟩
                    case measure => simp [intOf]; omega
                  · have d2 : decide (cv < 0) = false := decide_eq_false h3
                    have d3 : decide (yc + ec < cv) = true := decide_eq_true (by have := HREL.out; omega)
                    clear h3
                    go_wp2_with fail
                    rw [← Hwb.out]
                    refine HPU.out.mono ?_
                    rintro e w7 ⟨rfl, hq7, hf7⟩
                    have HS7 := Lib.hid (HSb.out.heap hq7 hf7)
                    have HX7 := Lib.hid (hf7.blk HXb.out (fun h => h.elim (fun e => by obtain ⟨_, _, hqb7, _, _⟩ := HSb.out.q; exact SR.blk_ne HXb.out hqb7 (by decide) e) (fun h => h.2.1 rfl)))
                    clear hq7 hf7 g0 g1 f0 f1 ff q0 gf lg lf lq lG x0 x1 xf hxl hce c0 c1 c2
                    go_wp2_with fail
                    go_roundw
                    case rel => exact ⟨k + 1, _, q', by omega, by go_num, HV2, HX2, HS7, HX7, by have := HQL.out; omega⟩
                    case measure => simp [intOf]; omega
              · have d1 : ((eu : Int) == (yv : Int)) = false := by simp; omega
                have HV2 := Lib.hid (HV.out.edge_keep HXI.out (fun h => absurd (show (eu : Int) = yv from h) (by omega)))
                clear h1
                go_wp2_with fail
                go_roundw
                case rel => exact ⟨k + 1, cost, q, by omega, by go_num, HV2, HXI, HSa, HXa, by omega⟩
                case measure => simp [intOf]; omega
            · have hke : k = es.length := by omega
              have HV2 : Hid (SInv n es s [] 0 cost ord1 q) := Lib.hid (by
                have h := HV.out
                rw [List.drop_of_length_le (by omega)] at h
                exact { h with done := fun e he ho => by rcases h.done e he ho with h1 | h1; exact absurd h1.2 List.not_mem_nil; exact .inr h1 })
              have HKE := Lib.hid hke
              clear hke g0 g1 f0 f1 ff q0 gf lg lf lq lG x0 x1 xf hxl
              go_wp2_with fail
              go_roundg ((n - ord1.length) * (es.length + 1) + q.length)
              case measure => have := HMM.out; have := HKE.out; omega
              case rel => exact ⟨cost, ord1, q, HV2, Lib.hid HS.out.unbox, Lib.hid (Nat.le_refl _)⟩
      · have d1 : (yc != cv) = true := by simp [h1]
        have HV2 := Lib.hid (HV.out.pop_skip HPP.out.2.1 HPP.out.1 (.inl (by show rd cost (yv : Int) ≠ yc; rw [HCV.out]; exact fun h => h1 h.symm)))
        clear h1
        go_quiet (fail)
        go_wp2_with fail
        go_roundg ((n - order.length) * (es.length + 1) + q'.length)
        case measure => have := HM.out; have := HQL'.out; omega
        case rel => exact ⟨cost, order, q', HV2, Lib.hid (HS3.out.unbox.step (pw_below_drewN (Below.refl _ _) _)), Lib.hid (Nat.le_refl _)⟩

end Go.Proofs.Ytaaohfhcimndmaa.M
