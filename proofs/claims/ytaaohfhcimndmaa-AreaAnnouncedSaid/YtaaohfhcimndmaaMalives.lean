/- Own lemmas: areaLives, Inside, how area graphs come in. -/
import Derived.Test.YtaaohfhcimndmaaMparted
import Derived.Test.YtaaohfhcimndmaaMkinds2
import Derived.LoopTactic
import Derived.BigQuiet
import Derived.RegionTactic
import Derived.BigRegion
namespace Go.Proofs.Ytaaohfhcimndmaa.M
open Go.RowKit Go.Proofs.YtaaohfhcimndmaaW.PrintWords Go.Proofs.YtaaohfhcimndmaaW.PrintLast Go.Proofs.YtaaohfhcimndmaaW.PrintMore 
set_option linter.unusedVariables false
set_option linter.unusedSimpArgs false

open Go.Proofs.Ytaaohfhcimndmaa.PAreaAnnounced
def es4 : List S59 := [⟨1, 0, 1, 1⟩, ⟨0, 1, 2, 1⟩, ⟨2, 2, 3, 1⟩]
theorem es4_ok : AOk 4 es4 := by
  refine ⟨by omega, by omega, by decide, fun e he => ?_⟩
  simp only [es4, List.mem_cons, List.not_mem_nil, or_false] at he
  rcases he with rfl | rfl | rfl <;> simp
theorem es4_way {v d : Int} (h : Rch (fl es4) 0 v d) : d = v := by
  induction h with
  | start => rfl
  | step hr he hu ih =>
    simp only [fl, es4, toE, List.map_cons, List.map_nil, List.mem_cons, List.not_mem_nil, or_false] at he
    rcases he with rfl | rfl | rfl <;> simp at hu ⊢ <;> omega
theorem es4_cost {O : List Int} (h : Ac 4 es4 0 O) : O = [0, 1, 2, 3] := by
  have p1 : Rch (pt es4 1) 0 1 1 := Rch.step (e := ⟨0, 1, 1⟩) Rch.start (by simp [pt, es4, toE]) rfl
  have p0 : Rch (pt es4 0) 1 2 1 := Rch.step (e := ⟨1, 2, 1⟩) Rch.start (by simp [pt, es4, toE]) rfl
  have p2 : Rch (pt es4 2) 2 3 1 := Rch.step (e := ⟨2, 3, 1⟩) Rch.start (by simp [pt, es4, toE]) rfl
  have h0 := h.in_ 0 0 0 (by omega) (by omega) Rch.start (by omega) (by omega)
  have h1 := h.in_ 1 1 1 (by omega) (by omega) p1 (by omega) (by omega)
  have ht := h.thr 1 1 2 1 1 (by omega) (by omega) (by omega) (by omega) (by decide) p1 (by omega) (by omega) p0
  have h3 := ht.2 2 3 1 (by omega) (by omega) (by omega) (by omega) p2
  have e0 := es4_way (h.up 0 (by omega) (by omega) h0.1)
  have e1 := es4_way (h.up 1 (by omega) (by omega) h1.1)
  have e2 := es4_way (h.up 2 (by omega) (by omega) ht.1.1)
  have e3 := es4_way (h.up 3 (by omega) (by omega) h3.1)
  have hl := h.l
  match O, hl with
  | [a, b, c, d], _ =>
    simp [rd] at e0 e1 e2 e3
    rw [e0, e1, e2, e3]
theorem C59_es4 {W : World} {g : Nat} (h : W.heap[g]? = some (.cells #[.int .i64 1, .int .i64 0, .int .i64 1, .int .i64 1, .int .i64 0, .int .i64 1, .int .i64 2, .int .i64 1, .int .i64 2, .int .i64 2, .int .i64 3, .int .i64 1] 59 (0, 0))) : Kd.C k59 W (some ⟨g, 0, none⟩) es4.length es4 := by
  refine ⟨rfl, by decide, fun _ => ⟨_, rfl, fun j q hj => ?_⟩⟩
  rcases j with _ | _ | _ | j
  · obtain rfl : (⟨1, 0, 1, 1⟩ : S59) = q := by simpa [es4] using hj
    refine ⟨[.int .i64 1, .int .i64 0, .int .i64 1, .int .i64 1], rfl, k59_mk W ⟨1, 0, 1, 1⟩, fun i u hu => ?_⟩
    rw [add_plain, blk_cell h]
    rcases i with _ | _ | _ | _ | i <;> first | exact hu | simp at hu
  · obtain rfl : (⟨0, 1, 2, 1⟩ : S59) = q := by simpa [es4] using hj
    refine ⟨[.int .i64 0, .int .i64 1, .int .i64 2, .int .i64 1], rfl, k59_mk W ⟨0, 1, 2, 1⟩, fun i u hu => ?_⟩
    rw [add_plain, blk_cell h]
    rcases i with _ | _ | _ | _ | i <;> first | exact hu | simp at hu
  · obtain rfl : (⟨2, 2, 3, 1⟩ : S59) = q := by simpa [es4] using hj
    refine ⟨[.int .i64 2, .int .i64 2, .int .i64 3, .int .i64 1], rfl, k59_mk W ⟨2, 2, 3, 1⟩, fun i u hu => ?_⟩
    rw [add_plain, blk_cell h]
    rcases i with _ | _ | _ | _ | i <;> first | exact hu | simp at hu
  · simp [es4] at hj
set_option maxHeartbeats 1000000 in
set_option maxRecDepth 100000 in
theorem alives25 (w : World) : Calls Try.prog 25 #[] w fun e w' => e = .returned (.bool true) ∧ Below w.heap.size w w' := by
  have hu25 := Try.underlying25
  have hu53 := Try.underlying53
  have hu55 := Try.underlying55
  have hu59 := Try.underlying59
  go_enter Try.func25, Try.ntmps25
  go_wp2_with fail
  have HT := Lib.hid (blk_keep (below_alloc (Below.refl _ _) (.cells #[.int .i64 4, .slice (some ⟨w.heap.size, 0, none⟩) 3 3] 55)) (blk_alloc w (.cells #[.int .i64 1, .int .i64 0, .int .i64 1, .int .i64 1, .int .i64 0, .int .i64 1, .int .i64 2, .int .i64 1, .int .i64 2, .int .i64 2, .int .i64 3, .int .i64 1] 59)))
  have HB := Lib.hid (below_self (below_alloc (Below.refl w.heap.size w) (.cells #[.int .i64 1, .int .i64 0, .int .i64 1, .int .i64 1, .int .i64 0, .int .i64 1, .int .i64 2, .int .i64 1, .int .i64 2, .int .i64 2, .int .i64 3, .int .i64 1] 59)) (below_alloc (Below.refl _ _) (.cells #[.int .i64 4, .slice (some ⟨w.heap.size, 0, none⟩) 3 3] 55)))
  refine (Acosts28 4 0 es4 (some ⟨w.heap.size, 0, none⟩) 3 _ es4_ok (by omega) (by decide) (Lib.hid (C59_es4 HT.out))).mono ?_
  rintro e w1 ⟨G, cg, O, rfl, hcg, hA, hrow, hb⟩
  have hcs := es4_cost hA
  rw [hcs] at hrow
  have HB1 := Lib.hid (below_self HB.out hb)
  have HR := Lib.hid (RowAt.C (xs := [0, 1, 2, 3]) hrow (by decide))
  clear hcs hA hb hrow HT HB
  go_wp2_with fail
  have hb2 := below_alloc (Below.refl w1.heap.size w1) (.cells #[.int .i64 0, .int .i64 1, .int .i64 2, .int .i64 3] 3)
  have HR2 := Lib.hid (row_C (xs := [0, 1, 2, 3]) (blk_alloc w1 (.cells #[.int .i64 0, .int .i64 1, .int .i64 2, .int .i64 3] 3)) (by decide))
  refine (Equal29 (some ⟨G, 0, none⟩) (some ⟨w1.heap.size, 0, none⟩) cg 4 [0, 1, 2, 3] [0, 1, 2, 3] _ (by decide) hcg (by decide) (Kd.C_below HR.out hb2) HR2.out).mono ?_
  rw [decide_eq_true rfl]
  rintro e w2 ⟨rfl, hd⟩
  have HB2 := Lib.hid (below_self HB1.out (below_self hb2 hd.below))
  clear hd hb2
  go_wp2_with fail
  go_ret
  exact ⟨rfl, HB2.out⟩
set_option maxHeartbeats 1000000 in
set_option maxRecDepth 100000 in
theorem Inside30 (n s : Nat) (a : Int) (es : List S59) (A : Option Addr) (c : Nat) (w : World) (hg : AOk n es) (hs : s < n) (ha0 : 0 ≤ a) (ha : a < 16) (hle : es.length ≤ c) (HK : Hid (Kd.C k59 w A es.length es)) :
    Calls Try.prog 30 #[.agg #[.int .i64 n, .slice A es.length c], .int .i64 a, .int .i64 s] w fun e w' => ∃ G cost, e = .returned (.tuple #[.slice (some ⟨G, 0, none⟩) n n, .int .i64 0]) ∧ Dist n (pt es a) s cost ∧ w'.heap[G]? = some (.cells (nums .i64 cost).toArray 3 (0, 0)) ∧ Below w.heap.size w w' := by
  have hu25 := Try.underlying25
  have hu53 := Try.underlying53
  have hu55 := Try.underlying55
  have HG := Lib.hid hg
  have hel := hg.len
  have HF := Lib.hid (acheck_f hg)
  have HLE := Lib.hid hle
  clear hg hle
  have d0 : decide (a < 0) = false := decide_eq_false (by omega)
  have d1 : decide (a ≥ 16) = false := decide_eq_false (by omega)
  go_enter Try.func30, Try.ntmps30
  go_wp2_with fail
  have HX := Lib.hid (blk_alloc w (.cells #[.int .i64 n, .slice A es.length c] 55))
  have HB := Lib.hid (below_alloc (Below.refl w.heap.size w) (.cells #[.int .i64 n, .slice A es.length c] 55))
  obtain ⟨p, Hp⟩ : ∃ b, Hid (b = w.heap.size) := ⟨_, Lib.hid rfl⟩
  rw [← Hp.out] at HX
  refine (area_Check.calls (es.length + 2) n A c es 0 _ (Kd.C_below HK.out HB.out) HLE.out HF.out).mono ?_
  rw [← Hp.out]
  rintro e w1 ⟨rfl, hb⟩
  have HX1 := Lib.hid (blk_keep hb HX.out)
  have HB1 := Lib.hid (below_self HB.out hb)
  clear hb
  obtain ⟨x0, x1, xf⟩ := blk_cells2 HX1.out
  have hxl := blk_lt HX1.out
  go_wp2_with fail
  refine (part50 n a es A c w1 hel HLE.out (Lib.hid (Kd.C_below HK.out HB1.out))).mono ?_
  rintro e w2 ⟨A1, c1, rfl, hle1, hC1, hb⟩
  have HB2 := Lib.hid (below_self HB1.out hb)
  have HC2 := Lib.hid hC1
  have HL2 := Lib.hid hle1
  clear hb hC1 hle1 x0 x1 xf hxl
  go_wp2_with fail
  refine (Costs21 n s (pt es a) A1 c1 w2 (HG.out.pt a) hs HL2.out HC2).mono ?_
  rintro e w3 ⟨G, cost, rfl, hD, _, hGc, hb⟩
  have HD := Lib.hid hD
  have HGc := Lib.hid hGc
  have HB3 := Lib.hid (below_self HB2.out hb)
  clear hD hGc hb
  go_wp2_with fail
  go_ret2
  exact ⟨G, cost, rfl, HD.out, HGc.out, HB3.out⟩
structure S55 where
  f0 : Int
  f1 : List S59
def k55 : Kd S55 := Kd.iso (Kd.pair (Kd.int .i64) (Kd.slice 59 k59)) (fun x : S55 => (x.f0, x.f1))
instance : Inhabited S59 := ⟨z59⟩
def Wf59 (x : S59) : Prop := WfI x.f0 ∧ WfI x.f1 ∧ WfI x.f2 ∧ WfI x.f3
theorem opens59 : Opens Try.prog k59 Wf59 59 :=
  opens_struct4 (g := fun x : S59 => (x.f0, x.f1, x.f2, x.f3)) (fun p => ⟨p.1, p.2.1, p.2.2.1, p.2.2.2⟩) (fun _ => rfl) Try.underlying59 (by kernel_rfl) rfl rfl rfl rfl (opens_int Try.underlying3 (by kernel_rfl)) (opens_int Try.underlying3 (by kernel_rfl)) (opens_int Try.underlying3 (by kernel_rfl)) (opens_int Try.underlying3 (by kernel_rfl))
theorem opens53 : Opens Try.prog (Kd.slice 59 k59) (fun xs => ∀ x ∈ xs, Wf59 x) 53 :=
  opens_slice opens59 Try.underlying53 (by kernel_rfl)
theorem opens55 : Opens Try.prog k55 (fun x => WfI x.f0 ∧ ∀ y ∈ x.f1, Wf59 y) 55 :=
  opens_struct2 (g := fun x : S55 => (x.f0, x.f1)) (fun p => ⟨p.1, p.2⟩) (fun _ => rfl) Try.underlying55 (by kernel_rfl) rfl rfl (opens_int Try.underlying3 (by kernel_rfl)) opens53
theorem k55_open {w : World} {x : S55} {cs : List Value} (h : k55.K w x cs) : ∃ A c, cs = [.int .i64 x.f0, .slice A x.f1.length c] ∧ x.f1.length ≤ c ∧ Kd.C k59 w A x.f1.length x.f1 := by
  obtain ⟨_, _, rfl, rfl, A, c, rfl, hl, hC⟩ := h
  exact ⟨A, c, rfl, hl, hC⟩

end Go.Proofs.Ytaaohfhcimndmaa.M
