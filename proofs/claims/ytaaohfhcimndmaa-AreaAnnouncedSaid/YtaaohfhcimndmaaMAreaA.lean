/- Own lemmas: Borders, Sums, the walk of AreaAnnounced. -/
import Derived.Test.YtaaohfhcimndmaaMalives
import Derived.LoopTactic
import Derived.BigQuiet
import Derived.RegionTactic
import Derived.BigRegion
namespace Go.Proofs.Ytaaohfhcimndmaa.M
open Go.RowKit Go.Proofs.YtaaohfhcimndmaaW.PrintWords Go.Proofs.YtaaohfhcimndmaaW.PrintLast Go.Proofs.YtaaohfhcimndmaaW.PrintMore 
set_option linter.unusedVariables false
set_option linter.unusedSimpArgs false

open Go.Proofs.Ytaaohfhcimndmaa.PAreaAnnounced
theorem info70 : (Try.prog.info? 70).map (fun i => (i.zero, i.size, i.bytes)) = some (some (.agg #[.int .i64 0, .int .i64 0]), 2, 16) := by kernel_rfl
set_option maxHeartbeats 2000000 in
set_option maxRecDepth 100000 in
theorem Borders31 (n : Nat) (es : List S59) (A : Option Addr) (c : Nat) (w : World) (hg : AOk n es) (hle : es.length ≤ c) (HK : Hid (Kd.C k59 w A es.length es)) :
    Calls Try.prog 31 #[.agg #[.int .i64 n, .slice A es.length c]] w fun e w' => ∃ A1 c1 bs, e = .returned (.tuple #[.slice A1 bs.length c1, .int .i64 0]) ∧ (∀ b ∈ bs, (0 ≤ b ∧ b < (n : Int)) ∧ inA es 0 b = true) ∧ bs.length ≤ 16 ∧ Kd.C (Kd.int .i64) w' A1 bs.length bs ∧ Below w.heap.size w w' := by
  have hu25 := Try.underlying25
  have hu53 := Try.underlying53
  have hu55 := Try.underlying55
  have HG := Lib.hid hg
  have hel := hg.len
  have hn16 := hg.n16
  have HF := Lib.hid (acheck_f hg)
  have HLE := Lib.hid hle
  clear hg hle
  go_enter Try.func31, Try.ntmps31
  go_wp2_with fail
  have HX := Lib.hid (blk_alloc w (.cells #[.int .i64 n, .slice A es.length c] 55))
  have HB := Lib.hid (below_alloc (Below.refl w.heap.size w) (.cells #[.int .i64 n, .slice A es.length c] 55))
  obtain ⟨p, Hp⟩ : ∃ b, Hid (b = w.heap.size) := ⟨_, Lib.hid rfl⟩
  rw [← Hp.out] at HX
  refine (area_Check.calls (es.length + 2) n A c es 0 _ (Kd.C_below HK.out HB.out) HLE.out HF.out).mono ?_
  rw [← Hp.out]
  rintro e w1 ⟨rfl, hb⟩
  have HX1 := Lib.hid (blk_keep hb HX.out)
  have HB1 := Lib.hid (below_self HB.out hb)
  clear hb
  obtain ⟨x0, x1, xf⟩ := blk_cells2 HX1.out
  have hxl := blk_lt HX1.out
  go_wp2_with fail
  clear x0 x1 xf hxl
  go_loopw [5, 14] (fun v5 v14 wr => ∃ (k : Nat) (A1 : Option Addr) (c1 : Nat) (bs : List Int), k ≤ n ∧ v5 = .slice A1 bs.length c1 ∧ v14 = .int .i64 k ∧ bs.length ≤ k ∧ Hid (∀ b ∈ bs, (0 ≤ b ∧ b < (n : Int)) ∧ inA es 0 b = true) ∧ Hid (Kd.R (Kd.int .i64) 3 wr w.heap.size (fun q => w.heap.size ≤ q) (.slice A1 bs.length c1) bs) ∧ Hid (Below w.heap.size w wr) ∧ Hid (wr.heap[p]? = some (.cells #[.int .i64 n, .slice A es.length c] 55 (0, 0)))) (fun _ v _ => n - (intOf v).toNat)
  case atStart => exact ⟨0, none, 0, [], Nat.zero_le _, rfl, rfl, Nat.le_refl _, Lib.hid (fun b hb => absurd hb List.not_mem_nil), Lib.hid (Kd.R_nil _ _ _ _ _), HB1, HX1⟩
  case round =>
    obtain ⟨k, A1, c1, bs, hk, rfl, rfl, hbl, HM, HR, HBr, HXr⟩ := hrel
    by_cases hlt : k < n
    · obtain ⟨x0, x1, xf⟩ := blk_cells2 HXr.out
      have hxl := blk_lt HXr.out
      go_wp2_with fail
      refine (border52 n A c es k wr (by omega) (Lib.hid (Kd.C_below HK.out HBr.out))).mono ?_
      obtain ⟨b, Hb⟩ : ∃ b, Hid (b = isBorder es k) := ⟨_, Lib.hid rfl⟩
      rw [← Hb.out]
      rintro e w7 ⟨rfl, hb⟩
      have HB7 := Lib.hid (below_self HBr.out hb)
      have HX7 := Lib.hid (blk_keep hb HXr.out)
      have HR7 := Lib.hid (Kd.R_below HR.out hb)
      clear hb x0 x1 xf hxl
      cases b with
      | false =>
        go_wp2_with fail
        go_round
        case rel => exact ⟨k + 1, A1, c1, bs, by omega, rfl, by go_num, by omega, HM, HR7, HB7, HX7⟩
        case measure => simp [intOf]; omega
      | true =>
        have HIN : Hid (inA es 0 k = true) := Lib.hid (by
          have := Hb.out
          unfold isBorder at this
          simp only [Bool.true_eq, Bool.and_eq_true] at this
          exact this.1)
        have hbl2 : bs.length ≤ 16 := by omega
        have HWS := Lib.hid HB7.out.size
        go_wp2_with ((with_reducible refine gate_builtin (b := .append) (xs := #[.tmp 20, .tmp 22]) rfl ?_); at_builtin; refine Kd.R_append (Kd.int .i64) (w0 := w) w.heap.size rfl (.tmp 20) (.tmp 22) 25 3 (.int .i64 0) 8 rfl Try.underlying25 i3 rfl (by decide) (by omega) (.slice A1 bs.length c1) bs (k : Int) [.int .i64 k] (fun q => w.heap.size ≤ q) (fun _ => False) rfl rfl ?aP (fun _ hk => hk.elim) ?aF ?aO ?aB ?aS ?aL ?_; (case aP => exact rfl); (case aF => exact fun q hq => Nat.le_trans HWS.out hq); (case aO => exact HR7.out); (case aB => exact HB7.out); (case aS => exact HWS.out); (case aL => omega); intro v8 w8 ho hb hg hat; obtain ⟨bs2, Hbs⟩ : ∃ L2, Hid (L2 = bs ++ [(k : Int)]) := ⟨_, Lib.hid rfl⟩; rw [← Hbs.out] at ho; obtain ⟨A8, c8, rfl, hle8, _⟩ := Kd.R_reads ho; have HR8 := Lib.hid ho; have HG8 := Lib.hid hg; have HX8 := Lib.hid ((hg.block p (blk_lt HX7.out) (Kd.R_ne HR7.out HX7.out (by decide))).trans HX7.out); have HB8 := Lib.hid hb; clear ho hb hg hat)
        have hl2 : bs2.length ≤ k + 1 := by rw [Hbs.out, List.length_append]; simp; omega
        go_round
        case rel => exact ⟨k + 1, A8, c8, bs2, by omega, rfl, by go_num, hl2, Lib.hid (fun b hb => by
          rw [Hbs.out] at hb
          rcases List.mem_append.1 hb with hb | hb
          · exact HM.out b hb
          · rw [List.mem_singleton.1 hb]
            exact ⟨⟨by omega, by omega⟩, HIN.out⟩), HR8, HB8, HX8⟩
        case measure => simp [intOf]; omega
    · obtain ⟨_, _, hC⟩ := Kd.R_reads' HR.out
      have HC := Lib.hid hC
      clear hC
      go_wp2_with fail
      go_ret2
      exact ⟨A1, c1, bs, rfl, HM.out, by omega, HC.out, HBr.out⟩

/-- What a border announces: ways within the area. -/
def SumOk (n : Nat) (es : List S59) (a b : Int) (x : S99) : Prop := (0 ≤ x.f0 ∧ x.f0 < n) ∧ (0 ≤ x.f1 ∧ x.f1 ≤ 1048560) ∧ Rch (pt es a) b x.f0 x.f1
set_option maxHeartbeats 2000000 in
set_option maxRecDepth 100000 in
theorem Sums32 (n b : Nat) (a : Int) (es : List S59) (A : Option Addr) (c : Nat) (w : World) (hg : AOk n es) (hb : b < n) (hin : inA es 0 b = true) (ha0 : 1 ≤ a) (ha : a < 16) (hle : es.length ≤ c) (HK : Hid (Kd.C k59 w A es.length es)) :
    Calls Try.prog 32 #[.agg #[.int .i64 n, .slice A es.length c], .int .i64 b, .int .i64 a] w fun e w' => ∃ A1 c1 ss err, e = .returned (.tuple #[.slice A1 ss.length c1, .int .i64 err]) ∧ (err ≠ 0 → ss = []) ∧ (∀ x ∈ ss, SumOk n es a b x) ∧ ss.length ≤ 16 ∧ Kd.C k99 w' A1 ss.length ss ∧ Below w.heap.size w w' := by
  have hu25 := Try.underlying25
  have hu53 := Try.underlying53
  have hu55 := Try.underlying55
  have hu66 := Try.underlying66
  have hu70 := Try.underlying70
  have HG := Lib.hid hg
  have HIN := Lib.hid hin
  have hel := hg.len
  have hn16 := hg.n16
  have HF := Lib.hid (acheck_f hg)
  have HLE := Lib.hid hle
  have d0 : decide (a < 1) = false := decide_eq_false (by omega)
  have d1 : decide (a ≥ 16) = false := decide_eq_false (by omega)
  have d2 : decide (n ≤ b) = false := decide_eq_false (by omega)
  have d4 : decide ((b : Int) < 0) = false := decide_eq_false (by omega)
  clear hg hle hin
  go_enter Try.func32, Try.ntmps32
  go_wp2_with fail
  have HX := Lib.hid (blk_alloc w (.cells #[.int .i64 n, .slice A es.length c] 55))
  have HB := Lib.hid (below_alloc (Below.refl w.heap.size w) (.cells #[.int .i64 n, .slice A es.length c] 55))
  obtain ⟨p, Hp⟩ : ∃ b, Hid (b = w.heap.size) := ⟨_, Lib.hid rfl⟩
  rw [← Hp.out] at HX
  refine (area_Check.calls (es.length + 2) n A c es 0 _ (Kd.C_below HK.out HB.out) HLE.out HF.out).mono ?_
  rw [← Hp.out]
  rintro e w1 ⟨rfl, hb1⟩
  have HX1 := Lib.hid (blk_keep hb1 HX.out)
  have HB1 := Lib.hid (below_self HB.out hb1)
  clear hb1
  obtain ⟨x0, x1, xf⟩ := blk_cells2 HX1.out
  have hxl := blk_lt HX1.out
  go_wp2_with fail
  refine (in51 n A c es 0 b w1 (by omega) (Lib.hid (Kd.C_below HK.out HB1.out))).mono ?_
  rw [HIN.out]
  rintro e w2 ⟨rfl, hb2⟩
  have HX2 := Lib.hid (blk_keep hb2 HX1.out)
  have HB2 := Lib.hid (below_self HB1.out hb2)
  clear hb2 x0 x1 xf hxl
  obtain ⟨x0, x1, xf⟩ := blk_cells2 HX2.out
  have hxl := blk_lt HX2.out
  go_wp2_with fail
  refine (in51 n A c es a b w2 (by omega) (Lib.hid (Kd.C_below HK.out HB2.out))).mono ?_
  obtain ⟨r, Hr⟩ : ∃ bb, Hid (bb = inA es a b) := ⟨_, Lib.hid rfl⟩
  rw [← Hr.out]
  rintro e w3 ⟨rfl, hb3⟩
  have HX3 := Lib.hid (blk_keep hb3 HX2.out)
  have HB3 := Lib.hid (below_self HB2.out hb3)
  clear hb3 x0 x1 xf hxl
  cases r with
  | false =>
    go_wp2_with fail
    go_ret2
    exact ⟨none, 0, [], 1, rfl, fun _ => rfl, fun x hx => absurd hx List.not_mem_nil, Nat.zero_le _, ⟨rfl, by simp, fun h => absurd h (by simp)⟩, HB3.out⟩
  | true =>
    obtain ⟨x0, x1, xf⟩ := blk_cells2 HX3.out
    have hxl := blk_lt HX3.out
    go_wp2_with fail
    refine (Inside30 n b a es A c w3 HG.out hb (by omega) ha HLE.out (Lib.hid (Kd.C_below HK.out HB3.out))).mono ?_
    rintro e w4 ⟨GI, ins, rfl, hI, hGc, hb4⟩
    have HI := Lib.hid hI
    have HI4 := Lib.hid (RowAt.whole hGc)
    have HB4 := Lib.hid (below_self HB3.out hb4)
    have HX4 := Lib.hid (blk_keep hb4 HX3.out)
    clear hb4 hI hGc x0 x1 xf hxl
    go_wp2_with fail
    go_loopw [10, 60] (fun v10 v60 wr => ∃ (k : Nat) (A1 : Option Addr) (c1 : Nat) (ss : List S99), k ≤ n ∧ v10 = .slice A1 ss.length c1 ∧ v60 = .int .i64 k ∧ ss.length ≤ k ∧ Hid (∀ x ∈ ss, SumOk n es a b x) ∧ Hid (Kd.R k99 70 wr w.heap.size (fun q => w.heap.size ≤ q) (.slice A1 ss.length c1) ss) ∧ Hid (Below w.heap.size w wr) ∧ Hid (wr.heap[p]? = some (.cells #[.int .i64 n, .slice A es.length c] 55 (0, 0))) ∧ Hid (RowAt wr GI ins)) (fun _ v _ => n - (intOf v).toNat)
    case atStart => exact ⟨0, none, 0, [], Nat.zero_le _, rfl, rfl, Nat.le_refl _, Lib.hid (fun x hx => absurd hx List.not_mem_nil), Lib.hid (Kd.R_nil _ _ _ _ _), HB4, HX4, HI4⟩
    case round =>
      obtain ⟨k, A1, c1, ss, hk, rfl, rfl, hsl, HM, HR, HBr, HXr, HIr⟩ := hrel
      by_cases hlt : k < n
      · obtain ⟨vc, Hvc⟩ : ∃ v, Hid (v = rd ins k) := ⟨_, Lib.hid rfl⟩
        have g0 := HIr.out.cell (i := k) (by rw [HI.out.cl]; exact hlt)
        rw [← Hvc.out] at g0
        have hkn : (k : Int) < n := by omega
        obtain ⟨x0, x1, xf⟩ := blk_cells2 HXr.out
        have hxl := blk_lt HXr.out
        by_cases h0 : vc ≥ 0
        · have d3 : decide (vc ≥ 0) = true := decide_eq_true h0
          have HV0 := Lib.hid h0
          clear h0
          go_wp2_with fail
          refine (in51 n A c es a k wr (by omega) (Lib.hid (Kd.C_below HK.out HBr.out))).mono ?_
          obtain ⟨r, Hr2⟩ : ∃ b, Hid (b = inA es a k) := ⟨_, Lib.hid rfl⟩
          rw [← Hr2.out]
          rintro e w7 ⟨rfl, hb7⟩
          have HB7 := Lib.hid (below_self HBr.out hb7)
          have HX7 := Lib.hid (blk_keep hb7 HXr.out)
          have HR7 := Lib.hid (Kd.R_below HR.out hb7)
          have HI7 := Lib.hid (HIr.out.keep hb7)
          clear hb7 x0 x1 xf hxl g0
          cases r with
          | false =>
            go_wp2_with fail
            go_round
            case rel => exact ⟨k + 1, A1, c1, ss, by omega, rfl, by go_num, by omega, HM, HR7, HB7, HX7, HI7⟩
            case measure => simp [intOf]; omega
          | true =>
            have hsl2 : ss.length ≤ 16 := by omega
            have HWS := Lib.hid HB7.out.size
            obtain ⟨y, Hy⟩ : ∃ y : S99, Hid (y = ⟨k, vc⟩) := ⟨_, Lib.hid rfl⟩
            have HYO : Hid (SumOk n es a b y) := Lib.hid (by
              rw [Hy.out]
              refine ⟨⟨by show (0 : Int) ≤ k; omega, hkn⟩, ⟨HV0.out, ?_⟩, ?_⟩
              · show vc ≤ 1048560
                rw [Hvc.out]
                have := HI.out.chi k (by omega) hkn
                omega
              · show Rch (pt es a) b k vc
                rw [Hvc.out]
                exact HI.out.cr k (by omega) hkn (by rw [← Hvc.out]; exact HV0.out))
            go_wp2_with ((with_reducible refine gate_builtin (b := .append) (xs := #[.tmp 73, .tmp 77]) rfl ?_); at_builtin; refine Kd.R_append k99 (w0 := w) w.heap.size rfl (.tmp 73) (.tmp 77) 66 70 (.agg #[.int .i64 0, .int .i64 0]) 16 rfl Try.underlying66 info70 rfl (by decide) (by omega) (.slice A1 ss.length c1) ss y [.int .i64 k, .int .i64 vc] (fun q => w.heap.size ≤ q) (fun _ => False) rfl rfl ?aP (fun _ hk => hk.elim) ?aF ?aO ?aB ?aS ?aL ?_; (case aP => rw [Hy.out]; exact k99_mkM _ _ _ ⟨k, vc⟩); (case aF => exact fun q hq => Nat.le_trans HWS.out hq); (case aO => exact HR7.out); (case aB => exact HB7.out); (case aS => exact HWS.out); (case aL => omega); intro v8 w8 ho hb hg hat; obtain ⟨ss2, Hss⟩ : ∃ L2, Hid (L2 = ss ++ [y]) := ⟨_, Lib.hid rfl⟩; rw [← Hss.out] at ho; obtain ⟨A8, c8, rfl, hle8, _⟩ := Kd.R_reads ho; have HR8 := Lib.hid ho; have HX8 := Lib.hid ((hg.block p (blk_lt HX7.out) (Kd.R_ne HR7.out HX7.out (by decide))).trans HX7.out); have HI8 : Hid (RowAt w8 GI ins) := Lib.hid (by obtain ⟨cs, i1, i2⟩ := HI7.out; exact ⟨cs, (hg.block GI (blk_lt i1) (Kd.R_ne HR7.out i1 (by decide))).trans i1, i2⟩); have HB8 := Lib.hid hb; clear ho hb hg hat)
            have hl2 : ss2.length ≤ k + 1 := by rw [Hss.out, List.length_append]; simp; omega
            go_round
            case rel => exact ⟨k + 1, A8, c8, ss2, by omega, rfl, by go_num, hl2, Lib.hid (fun x hx => by
              rw [Hss.out] at hx
              rcases List.mem_append.1 hx with hx | hx
              · exact HM.out x hx
              · rw [List.mem_singleton.1 hx]
                exact HYO.out), HR8, HB8, HX8, HI8⟩
            case measure => simp [intOf]; omega
        · have d3 : decide (vc ≥ 0) = false := decide_eq_false h0
          clear h0
          go_wp2_with fail
          go_round
          case rel => exact ⟨k + 1, A1, c1, ss, by omega, rfl, by go_num, by omega, HM, HR, HBr, HXr, HIr⟩
          case measure => simp [intOf]; omega
      · obtain ⟨hz, _, hC⟩ := Kd.R_reads' HR.out
        have HC := Lib.hid hC
        clear hC hz
        go_wp2_with fail
        go_ret2
        exact ⟨A1, c1, ss, 0, rfl, fun h => absurd rfl h, HM.out, by omega, HC.out, HBr.out⟩

theorem C_cell3 {w : World} {A : Option Addr} {xs : List Int} (h : Kd.C (Kd.int .i64) w A xs.length xs) (hp : 0 < xs.length) : ∃ ad, A = some ad ∧ ∀ j, j < xs.length → w.cell? (ad.add j) = some (.int .i64 (xs.getD j 0)) := by
  obtain ⟨ad, e, hc⟩ := h.2.2 hp
  refine ⟨ad, e, fun j hj => ?_⟩
  obtain ⟨c, hl, hK, hcell⟩ := hc j xs[j] (List.getElem?_eq_getElem hj)
  have hK : c = [.int .i64 xs[j]] := hK
  subst hK
  have := hcell 0 _ rfl
  have e1 : (Kd.int .i64).sz = 1 := rfl
  rw [e1, Nat.mul_one, Nat.add_zero] at this
  rw [this]
  simp [List.getD_eq_getElem?_getD, hj]

theorem below_hid {w w1 w2 : World} (h : Hid (Below w.heap.size w w1)) (h2 : Hid (Below w1.heap.size w1 w2)) : Hid (Below w.heap.size w w2) := Lib.hid (below_self h.out h2.out)
set_option maxHeartbeats 1000000 in
set_option maxRecDepth 100000 in
theorem AreaAnnounced_walk (a : Int) (A : Option Addr) (c : Nat) (es : List S59) (u f : Int) (w : World) (hle : es.length ≤ c) (hK : Kd.C k59 w A es.length es) :
    Calls Try.prog 10 #[.agg #[.int .i64 a, .slice A es.length c], .int .i64 u, .int .i64 f] w fun e w' => e = .returned (.bool true) ∧ Below w.heap.size w w' := by
  have hu25 := Try.underlying25
  have hu53 := Try.underlying53
  have hu55 := Try.underlying55
  have hu59 := Try.underlying59
  have HK := Lib.hid hK
  have HLE := Lib.hid hle
  obtain ⟨hN1, hN8, _⟩ := fitN_range a
  have har : wrap64 ((IntKind.u64.wrap u).tmod 3) = fitV 3 u := fitV_eq (N := 3) (by omega) (by omega) u
  have hr3 := fitV_range (N := 3) (by omega) u
  obtain ⟨ar, Har⟩ : ∃ v, Hid (v = fitV 3 u) := ⟨_, Lib.hid rfl⟩
  rw [← Har.out] at har hr3
  clear hK hle
  go_enter Try.func10, Try.ntmps10
  go_wp2_with fail
  have HX := Lib.hid (blk_alloc w (.cells #[.int .i64 a, .slice A es.length c] 55))
  have HB := Lib.hid (below_alloc (Below.refl w.heap.size w) (.cells #[.int .i64 a, .slice A es.length c] 55))
  obtain ⟨p, Hp⟩ : ∃ b, Hid (b = w.heap.size) := ⟨_, Lib.hid rfl⟩
  have HPW := Lib.hid (show w.heap.size ≤ p from by rw [Hp.out]; omega)
  rw [← Hp.out] at HX
  refine (alives25 _).mono ?_
  rw [← Hp.out]
  rintro e w1 ⟨rfl, hb1⟩
  have HB1 := Lib.hid (below_self HB.out hb1)
  have HX1 := Lib.hid (blk_keep hb1 HX.out)
  clear hb1
  obtain ⟨x0, x1, xf⟩ := blk_cells2 HX1.out
  have hxl := blk_lt HX1.out
  go_wp2_with fail
  refine (parted26 a 8 es A c w1 (by omega) HLE.out (Lib.hid (Kd.C_below HK.out HB1.out))).mono ?_
  rintro e w2 ⟨A1, c1, rfl, hl1, hR1, hb2⟩
  obtain ⟨N, HN⟩ : ∃ n, Hid (n = fitN a) := ⟨_, Lib.hid rfl⟩
  rw [← HN.out] at hN1 hN8 hl1 hR1
  rw [← HN.out]
  obtain ⟨L, HL⟩ : ∃ l, Hid (l = (es.take 8).map (fitA N)) := ⟨_, Lib.hid rfl⟩
  rw [← HL.out] at hl1 hR1
  rw [← HL.out]
  have hLl : L.length ≤ 8 := by rw [HL.out, List.length_map, List.length_take]; omega
  have HOK : Hid (AOk N L) := by rw [HL.out]; exact Lib.hid (fitA_ok hN1 hN8 (by rw [List.length_take]; omega))
  have HB2 := Lib.hid (below_self HB1.out hb2)
  have HX2 := Lib.hid (blk_keep hb2 HX1.out)
  clear hb2 x0 x1 xf hxl
  obtain ⟨x0, x1, xf⟩ := blk_cells2 HX2.out
  have hxl := blk_lt HX2.out
  have HR1 := Lib.hid hR1
  have HL1 := Lib.hid hl1
  clear hl1 hR1
  go_upto_region 4 with (fail)
  have HX3 := Lib.hid (blk_set (blk_set HX2.out 0 (.int .i64 N)) 1 (.slice A1 L.length c1))
  have HB3 := Lib.hid (Below.setCell (Below.setCell HB2.out (p := ⟨p, 0, none⟩) HPW.out (.int .i64 N)) (p := ⟨p, 1, none⟩) HPW.out (.slice A1 L.length c1))
  have HR3 := Lib.hid (Kd.R_set (Kd.R_set HR1.out HX2.out (by decide) 0 (.int .i64 N)) (blk_set HX2.out 0 (.int .i64 N)) (by decide) 1 (.slice A1 L.length c1))
  clear x0 x1 xf hxl
  generalize (w2.setCell ⟨p, 0, none⟩ (.int .i64 N)).setCell ⟨p, 1, none⟩ (.slice A1 L.length c1) = w3 at HX3 HB3 HR3 ⊢
  have HC3 := Lib.hid (Kd.R_reads' HR3.out).2.2
  have hu66 := Try.underlying66
  have hu70 := Try.underlying70
  have hel := HOK.out.len
  have hbd := below_drew (B := w3.heap.size) (Below.refl w3.heap.size w3)
  have HXd := Lib.hid (blk_keep hbd HX3.out)
  have HBd := Lib.hid (below_self HB3.out hbd)
  have HCd := Lib.hid (Kd.C_below HC3.out hbd)
  have x0 : w3.drew.cell? ⟨p, 0, none⟩ = some (.int .i64 N) := blk_cell HXd.out 0
  have x1 : w3.drew.cell? ⟨p, 1, none⟩ = some (.slice A1 L.length c1) := blk_cell HXd.out 1
  clear hbd
  refine start_ (n := 10) (S := fun w' => w'.cell? ⟨p, 0, none⟩ = some (.int .i64 N) ∧ w'.cell? ⟨p, 1, none⟩ = some (.slice A1 L.length c1)) (ds := []) #[false, false, false, false, false, false, false, false, false, false] (by kernel_rfl) rfl rfl ⟨x0, x1⟩ (fun hHeld => ?_)
  generalize w3.drew = wd at HXd HBd HCd x0 x1 hHeld ⊢
  refine pure_ (i := 2) (N := some 26) (v := ?_) (a' := ?_) #[false, false, true, false, false, false, false, false, false, false] rfl rfl (by kernel_rfl) (fun _ _ _ h => h) (Or.inl ⟨by rfl, ?_⟩) ?_ ?_
  rotate_left
  · intro w'
    go_simp
    with_reducible rfl
  rotate_left
  · simp only [Act.put, List.setIfInBounds_toArray, List.set_cons_zero, List.set_cons_succ, i64_w, i32_w]
    rfl
  refine pure_ (i := 6) (N := some 30) (v := ?_) (a' := ?_) #[false, false, true, false, false, false, true, false, false, false] rfl rfl (by kernel_rfl) (fun _ _ _ h => h) (Or.inl ⟨by rfl, ?_⟩) ?_ ?_
  rotate_left
  · intro w'
    go_simp
    with_reducible rfl
  rotate_left
  · simp only [Act.put, List.setIfInBounds_toArray, List.set_cons_zero, List.set_cons_succ, i64_w, i32_w]
    rfl
  refine take_ (i := 0) (N := some 24) (v := ?_) (a' := ?_) #[true, false, true, false, false, false, true, false, false, false] rfl rfl (by kernel_rfl) (fun _ _ _ h => h) (Or.inl ⟨by rfl, ?_⟩) hHeld ?_ ?_
  rotate_left
  · rintro w' ⟨s0, s1⟩
    go_simp
    with_reducible rfl
  rotate_left
  · simp only [Act.put, List.setIfInBounds_toArray, List.set_cons_zero, List.set_cons_succ, i64_w, i32_w]
    rfl
  refine take_ (i := 4) (N := some 28) (v := ?_) (a' := ?_) #[true, false, true, false, true, false, true, false, false, false] rfl rfl (by kernel_rfl) (fun _ _ _ h => h) (Or.inl ⟨by rfl, ?_⟩) hHeld ?_ ?_
  rotate_left
  · rintro w' ⟨s0, s1⟩
    go_simp
    with_reducible rfl
  rotate_left
  · simp only [Act.put, List.setIfInBounds_toArray, List.set_cons_zero, List.set_cons_succ, i64_w, i32_w]
    rfl
  refine one_ (i := 1) (N := some 25) #[true, true, true, false, true, false, true, false, false, false] rfl rfl (by kernel_rfl) (by decide) (fun K hK => ?_)
  refine goes_ Try.func27 (by kernel_rfl) rfl #[.agg #[.int .i64 N, .slice A1 L.length c1]] (by rfl) rfl rfl (by simp only [List.map_toArray, List.map_cons, List.map_nil]; rfl) ?_
  with_reducible refine (flat27 N L A1 c1 _ hel HL1.out HCd).mono ?_
  rintro e w4 ⟨A2, c2, rfl, hl2, hC2, hb⟩
  refine ⟨_, rfl, ?_⟩
  clear hl2 hC2
  have HX4 := Lib.hid (blk_keep hb HXd.out)
  have HB4 := Lib.hid (below_self HBd.out hb)
  have HC4 := Lib.hid (Kd.C_below HCd.out hb)
  clear hb
  have y40 := blk_cell HX4.out 0
  have y41 := blk_cell HX4.out 1
  refine hK.out _ _ ⟨y40, y41⟩ (fun hHeld => ?_)
  clear hK K
  refine norm_ (a' := ?_) ?_ ?_
  rotate_left
  · show Act.put _ (some 25) _ = _
    simp only [Act.put, List.setIfInBounds_toArray, List.set_cons_zero, List.set_cons_succ, i64_w, i32_w]
    rfl
  refine one_ (i := 3) (N := some 27) #[true, true, true, true, true, false, true, false, false, false] rfl rfl (by kernel_rfl) (by decide) (fun K hK => ?_)
  refine goes_ Try.func20 (by kernel_rfl) rfl #[.agg #[.int .i64 N, .slice A2 (fl L).length c2], .int .i64 u] (by rfl) rfl rfl (by simp only [List.map_toArray, List.map_cons, List.map_nil]; rfl) ?_
  with_reducible refine (node20 N u A2 (fl L).length c2 _ hN1 hN8).mono ?_
  rintro e w5 ⟨rfl, hb⟩
  refine ⟨_, rfl, ?_⟩
  have HX5 := Lib.hid (blk_keep hb HX4.out)
  have HB5 := Lib.hid (below_self HB4.out hb)
  have HC5 := Lib.hid (Kd.C_below HC4.out hb)
  clear hb
  have y50 := blk_cell HX5.out 0
  have y51 := blk_cell HX5.out 1
  refine hK.out _ _ ⟨y50, y51⟩ (fun hHeld => ?_)
  clear hK K
  refine norm_ (a' := ?_) ?_ ?_
  rotate_left
  · show Act.put _ (some 27) _ = _
    simp only [Act.put, List.setIfInBounds_toArray, List.set_cons_zero, List.set_cons_succ, i64_w, i32_w]
    rfl
  refine one_ (i := 5) (N := some 29) #[true, true, true, true, true, true, true, false, false, false] rfl rfl (by kernel_rfl) (by decide) (fun K hK => ?_)
  refine goes_ Try.func27 (by kernel_rfl) rfl #[.agg #[.int .i64 N, .slice A1 L.length c1]] (by rfl) rfl rfl (by simp only [List.map_toArray, List.map_cons, List.map_nil]; rfl) ?_
  with_reducible refine (flat27 N L A1 c1 _ hel HL1.out HC5).mono ?_
  rintro e w6 ⟨A3, c3, rfl, hl2, hC2, hb⟩
  refine ⟨_, rfl, ?_⟩
  clear hl2 hC2
  have HX6 := Lib.hid (blk_keep hb HX5.out)
  have HB6 := Lib.hid (below_self HB5.out hb)
  have HC6 := Lib.hid (Kd.C_below HC5.out hb)
  clear hb
  have y60 := blk_cell HX6.out 0
  have y61 := blk_cell HX6.out 1
  refine hK.out _ _ ⟨y60, y61⟩ (fun hHeld => ?_)
  clear hK K
  refine norm_ (a' := ?_) ?_ ?_
  rotate_left
  · show Act.put _ (some 29) _ = _
    simp only [Act.put, List.setIfInBounds_toArray, List.set_cons_zero, List.set_cons_succ, i64_w, i32_w]
    rfl
  refine one_ (i := 7) (N := some 31) #[true, true, true, true, true, true, true, true, false, false] rfl rfl (by kernel_rfl) (by decide) (fun K hK => ?_)
  refine goes_ Try.func20 (by kernel_rfl) rfl #[.agg #[.int .i64 N, .slice A3 (fl L).length c3], .int .i64 f] (by rfl) rfl rfl (by simp only [List.map_toArray, List.map_cons, List.map_nil]; rfl) ?_
  with_reducible refine (node20 N f A3 (fl L).length c3 _ hN1 hN8).mono ?_
  rintro e w7 ⟨rfl, hb⟩
  refine ⟨_, rfl, ?_⟩
  have HX7 := Lib.hid (blk_keep hb HX6.out)
  have HB7 := Lib.hid (below_self HB6.out hb)
  have HC7 := Lib.hid (Kd.C_below HC6.out hb)
  clear hb
  have y70 := blk_cell HX7.out 0
  have y71 := blk_cell HX7.out 1
  refine hK.out _ _ ⟨y70, y71⟩ (fun hHeld => ?_)
  clear hK K
  refine norm_ (a' := ?_) ?_ ?_
  rotate_left
  · show Act.put _ (some 31) _ = _
    simp only [Act.put, List.setIfInBounds_toArray, List.set_cons_zero, List.set_cons_succ, i64_w, i32_w]
    rfl
  refine pure_ (i := 8) (N := some 1) (v := ?_) (a' := ?_) #[true, true, true, true, true, true, true, true, true, false] rfl rfl (by kernel_rfl) (fun _ _ _ h => h) (Or.inl ⟨by rfl, ?_⟩) ?_ ?_
  rotate_left
  · intro w'
    go_simp
    with_reducible rfl
  rotate_left
  · simp only [Act.put, List.setIfInBounds_toArray, List.set_cons_zero, List.set_cons_succ, i64_w, i32_w]
    rfl
  refine pure_ (i := 9) (N := some 2) (v := ?_) (a' := ?_) #[true, true, true, true, true, true, true, true, true, true] rfl rfl (by kernel_rfl) (fun _ _ _ h => h) (Or.inl ⟨by rfl, ?_⟩) ?_ ?_
  rotate_left
  · intro w'
    go_simp
    with_reducible rfl
  rotate_left
  · simp only [Act.put, List.setIfInBounds_toArray, List.set_cons_zero, List.set_cons_succ, i64_w, i32_w]
    rfl
  refine done_ (by kernel_rfl) ?_

  have hf0 := fitV_range hN1 u
  have ht0 := fitV_range hN1 f
  obtain ⟨s, hsv⟩ : ∃ v : Nat, fitV N u = v := ⟨(fitV N u).toNat, by omega⟩
  obtain ⟨t, htv⟩ : ∃ v : Nat, fitV N f = v := ⟨(fitV N f).toNat, by omega⟩
  rw [hsv, htv]
  have hsn : s < N := by omega
  have htn : t < N := by omega
  have hz := HOK.out.n1
  clear hf0 ht0 hsv htv y40 y41 y50 y51 y60 y61 x0 x1 har hr3
  have hxl := blk_lt HX7.out
  have xf := blk_free HX7.out
  go_wp2_with fail
  refine (Acosts28 N s L A1 c1 w7 HOK.out hsn HL1.out HC7).mono ?_
  rintro e w8 ⟨GO, cO, O, rfl, hcO, hA, hrow, hb⟩
  have HA := Lib.hid hA
  have HO8 := Lib.hid hrow
  have HB8 := Lib.hid (below_self HB7.out hb)
  have HX8 := Lib.hid (blk_keep hb HX7.out)
  have HC8 := Lib.hid (Kd.C_below HC7.out hb)
  clear hb hA hrow y70 y71 hxl xf
  obtain ⟨x0, x1, xf⟩ := blk_cells2 HX8.out
  have hxl := blk_lt HX8.out
  go_wp2_with fail
  refine (Inside30 N s 0 L A1 c1 w8 HOK.out hsn (by omega) (by omega) HL1.out HC8).mono ?_
  rintro e w9 ⟨GI, ins, rfl, hI, hGc, hb⟩
  have HI := Lib.hid hI
  have HI9 := Lib.hid (RowAt.whole hGc)
  have HB9 := Lib.hid (below_self HB8.out hb)
  have HX9 := Lib.hid (blk_keep hb HX8.out)
  have HO9 := Lib.hid (HO8.out.keep hb)
  have HC9 := Lib.hid (Kd.C_below HC8.out hb)
  clear hb hI hGc x0 x1 xf hxl
  obtain ⟨x0, x1, xf⟩ := blk_cells2 HX9.out
  have hxl := blk_lt HX9.out
  go_wp2_with fail
  refine (Borders31 N L A1 c1 w9 HOK.out HL1.out HC9).mono ?_
  rintro e w10 ⟨Ab, cb, bs, rfl, hM, hbl, hCb, hb⟩
  have HM := Lib.hid hM
  have HBS := Lib.hid hCb
  have HB10 := Lib.hid (below_self HB9.out hb)
  have HX10 := Lib.hid (blk_keep hb HX9.out)
  have HO10 := Lib.hid (HO9.out.keep hb)
  have HI10 := Lib.hid (HI9.out.keep hb)
  have HC10 := Lib.hid (Kd.C_below HC9.out hb)
  clear hb hM hCb x0 x1 xf hxl
  obtain ⟨x0, x1, xf⟩ := blk_cells2 HX10.out
  have hxl := blk_lt HX10.out
  go_wp2_with fail
  clear x0 x1 xf hxl
  go_loopw [75] (fun v wr => ∃ k : Nat, k ≤ bs.length ∧ v = .int .i64 k ∧ Hid (Below w10.heap.size w10 wr)) (fun v _ => bs.length - (intOf v).toNat)
  case atStart => exact ⟨0, Nat.zero_le _, rfl, Lib.hid (Below.refl _ _)⟩
  case round =>
    obtain ⟨k, hk, rfl, HBr⟩ := hrel
    by_cases hlt : k < bs.length
    · obtain ⟨bd, rfl, hcb⟩ := C_cell3 (Kd.C_below HBS.out HBr.out) (by omega)
      obtain ⟨b, Hb⟩ : ∃ b, Hid (b = bs.getD k 0) := ⟨_, Lib.hid rfl⟩
      have hb0 := hcb k hlt
      rw [← Hb.out] at hb0
      have hbm : b ∈ bs := by rw [Hb.out, List.getD_eq_getElem?_getD, List.getElem?_eq_getElem hlt]; exact List.getElem_mem hlt
      obtain ⟨⟨hbz, hbN⟩, hbin⟩ := HM.out b hbm
      obtain ⟨bv, rfl⟩ := Int.eq_ofNat_of_zero_le hbz
      have HBIN := Lib.hid hbin
      have hbv : bv < N := by omega
      clear hcb hbm hbz hbN hbin
      go_wp2_with fail
      clear hb0
      go_loopw [15] (fun v wq => ∃ ka : Nat, 1 ≤ ka ∧ ka ≤ 3 ∧ v = .int .i64 ka ∧ Hid (Below w10.heap.size w10 wq)) (fun v _ => 3 - (intOf v).toNat)
      case atStart => exact ⟨1, Nat.le_refl _, by omega, rfl, HBr⟩
      case round =>
        obtain ⟨ka, hka1, hka, rfl, HBq⟩ := hrel
        by_cases hl3 : ka < 3
        · have HXq := Lib.hid (blk_keep HBq.out HX10.out)
          obtain ⟨x0, x1, xf⟩ := blk_cells2 HXq.out
          have hxl := blk_lt HXq.out
          go_wp2_with fail
          refine (Sums32 N bv ka L A1 c1 wr HOK.out hbv HBIN.out (by omega) (by omega) HL1.out (Lib.hid (Kd.C_below HC10.out HBq.out))).mono ?_
          rintro e w11 ⟨A4, c4, ss, err, rfl, herr, hss, hsl, hCs, hb⟩
          have HERR := Lib.hid herr
          have HSS := Lib.hid hss
          have HCS := Lib.hid hCs
          have HB11 := Lib.hid (below_self HBq.out hb)
          clear hb herr hss hCs x0 x1 xf hxl
          go_wp2_with fail
          go_loopw [92] (fun v wt => ∃ j : Nat, j ≤ ss.length ∧ v = .int .i64 j ∧ Hid (Below w11.heap.size w11 wt)) (fun v _ => ss.length - (intOf v).toNat)
          case atStart => exact ⟨0, Nat.zero_le _, rfl, Lib.hid (Below.refl _ _)⟩
          case round =>
            obtain ⟨j, hj, rfl, HBt⟩ := hrel
            by_cases hlj : j < ss.length
            · have he0 : err = 0 := Decidable.byContradiction fun h => by
                have := HERR.out h
                rw [this] at hlj
                exact absurd hlj (Nat.not_lt_zero _)
              subst he0
              obtain ⟨ad, rfl, hcell⟩ := C99_cell (Kd.C_below HCS.out HBt.out) (by omega)
              obtain ⟨x, Hx⟩ : ∃ e : S99, Hid (e = ss.getD j z99) := ⟨_, Lib.hid rfl⟩
              obtain ⟨q0, q1⟩ := hcell j hlj
              rw [← Hx.out] at q0 q1
              have hxm : x ∈ ss := by rw [Hx.out, List.getD_eq_getElem?_getD, List.getElem?_eq_getElem hlj]; exact List.getElem_mem hlj
              have HXO := Lib.hid (HSS.out x hxm)
              have hbe := below_alloc (Below.refl wr.heap.size wr) (.cells #[.int .i64 x.f0, .int .i64 x.f1] 70)
              have HE := Lib.hid (blk_alloc wr (.cells #[.int .i64 x.f0, .int .i64 x.f1] 70))
              have HBe := Lib.hid (below_self HBt.out hbe)
              clear hcell hxm hbe
              go_upto_region 20 with (fail)
              obtain ⟨xb, Hxb⟩ : ∃ b, Hid (b = wr.heap.size) := ⟨_, Lib.hid rfl⟩
              rw [← Hxb.out] at HE
              rw [← Hxb.out]
              generalize wr.alloc (.cells #[.int .i64 x.f0, .int .i64 x.f1] 70) = w12 at HE HBe ⊢
              clear q0 q1
              have HBf := Lib.hid (below_self HB11.out HBe.out)
              obtain ⟨p0, p1, pf⟩ := blk_cells2 (blk_keep HBf.out HX10.out)
              have hpl := blk_lt (blk_keep HBf.out HX10.out)
              obtain ⟨r0, r1, rf⟩ := blk_cells2 HE.out
              have hrl := blk_lt HE.out
              obtain ⟨ib, Hib⟩ : ∃ v, Hid (v = rd ins bv) := ⟨_, Lib.hid rfl⟩
              obtain ⟨ct, Hct⟩ : ∃ v, Hid (v = rd O t) := ⟨_, Lib.hid rfl⟩
              have g0 := (HI10.out.keep HBf.out).cell (i := bv) (by rw [HI.out.cl]; exact hbv)
              have g1 := (HO10.out.keep HBf.out).cell (i := t) (by rw [HA.out.l]; exact htn)
              rw [← Hib.out] at g0
              rw [← Hct.out] at g1
              have hbvN : (bv : Int) < N := by omega
              have htN : (t : Int) < N := by omega
              by_cases h0 : x.f0 = t
              · have d0 : (x.f0 == (t : Int)) = true := by simpa using h0
                by_cases h1 : ib ≥ 0
                · have d1 : decide (ib ≥ 0) = true := decide_eq_true h1
                  have hway : 0 ≤ ct ∧ ct ≤ ib + x.f1 := by
                    have hr1 := HXO.out.2.2
                    rw [h0] at hr1
                    rw [Hct.out, Hib.out]
                    exact HA.out.an ka bv t _ _ (by omega) (by omega) HBIN.out (by omega) (by omega) (HI.out.cr bv (by omega) (by omega) (by rw [← Hib.out]; exact h1)) hr1 (by omega) (by omega)
                  have hib := HI.out.chi bv (by omega) (by omega)
                  rw [← Hib.out] at hib
                  have hx1 := HXO.out.2.1
                  have hw : wrap64 (ib + x.f1) = ib + x.f1 := wrap_in _ (by omega) (by omega)
                  have d2 : decide (ct < 0) = false := decide_eq_false (by omega)
                  have d3 : decide (ct > ib + x.f1) = false := decide_eq_false (by omega)
                  clear h0 h1 hway hib hx1
                  go_quiet (fail)
                  have HBn := Lib.hid (below_self HBe.out (pw_below_drewN (Below.refl w12.heap.size w12) nq))
                  go_wp2_with fail
                  go_round
                  case rel => exact ⟨j + 1, by omega, by go_num, HBn⟩
                  case measure => simp [intOf]; omega
                · have d1 : decide (ib ≥ 0) = false := decide_eq_false h1
                  clear h0 h1
                  go_quiet (fail)
                  have HBn := Lib.hid (below_self HBe.out (pw_below_drewN (Below.refl w12.heap.size w12) nq))
                  go_wp2_with fail
                  go_round
                  case rel => exact ⟨j + 1, by omega, by go_num, HBn⟩
                  case measure => simp [intOf]; omega
              · have d0 : (x.f0 == (t : Int)) = false := by simpa using h0
                clear h0
                go_quiet (fail)
                have HBn := Lib.hid (below_self HBe.out (pw_below_drewN (Below.refl w12.heap.size w12) nq))
                go_wp2_with fail
                go_round
                case rel => exact ⟨j + 1, by omega, by go_num, HBn⟩
                case measure => simp [intOf]; omega
            · go_wp2_with fail
              go_round
              case rel => exact ⟨ka + 1, by omega, by omega, by go_num, below_hid HB11 HBt⟩
              case measure => simp [intOf]; omega
        · go_wp2_with fail
          go_round
          case rel => exact ⟨k + 1, by omega, by go_num, HBq⟩
          case measure => simp [intOf]; omega
    · go_wp2_with fail
      go_ret
      exact ⟨rfl, below_self HB10.out HBr.out⟩

end Go.Proofs.Ytaaohfhcimndmaa.M
