/- Own lemmas: the walk of ShortTrees. -/
import Derived.Test.YtaaohfhcimndmaaMtree
import Derived.LoopTactic
import Derived.BigQuiet
import Derived.RegionTactic
import Derived.BigRegion
namespace Go.Proofs.Ytaaohfhcimndmaa.M
open Go.RowKit Go.Proofs.YtaaohfhcimndmaaW.PrintWords Go.Proofs.YtaaohfhcimndmaaW.PrintLast Go.Proofs.YtaaohfhcimndmaaW.PrintMore 
set_option linter.unusedVariables false
set_option linter.unusedSimpArgs false

open Go.Proofs.Ytaaohfhcimndmaa.PAreaAnnounced
/-- The way back along the tree, k steps behind its end. -/
structure Way (n : Nat) (cost : List Int) (t a sum : Int) (k : Nat) : Prop where
  a0 : 0 ≤ a
  an : a < n
  ca : 0 ≤ rd cost a
  sm : sum + rd cost a = rd cost t
  s0 : 0 ≤ sum
  vs : ∃ vs : List Int, vs.length = k + 1 ∧ vs.Nodup ∧ ∀ v ∈ vs, (0 ≤ v ∧ v < n) ∧ rd cost a ≤ rd cost v
theorem Way.start {n : Nat} {cost : List Int} {t : Int} (h0 : 0 ≤ t) (h1 : t < n) (hc : 0 ≤ rd cost t) : Way n cost t t 0 0 :=
  ⟨h0, h1, hc, by omega, Int.le_refl _, [t], rfl, by simp, fun v hv => by rw [List.mem_singleton.1 hv]; exact ⟨⟨h0, h1⟩, Int.le_refl _⟩⟩
theorem Way.short {n : Nat} {cost : List Int} {t a sum : Int} {k : Nat} (h : Way n cost t a sum k) : k < n := by
  obtain ⟨vs, h1, h2, h3⟩ := h.vs
  have := nodup_len h2 (fun u hu => (h3 u hu).1)
  omega
theorem Way.step {n : Nat} {cost : List Int} {t a sum b c : Int} {k : Nat} (h : Way n cost t a sum k) (b0 : 0 ≤ b) (bn : b < n) (cb : 0 ≤ rd cost b) (hc : rd cost b + c = rd cost a) (hp : 1 ≤ c) : Way n cost t b (sum + c) (k + 1) := by
  obtain ⟨vs, h1, h2, h3⟩ := h.vs
  have hs := h.sm
  refine ⟨b0, bn, cb, by omega, by have := h.s0; omega, b :: vs, by simp [h1], ?_, ?_⟩
  · rw [List.nodup_cons]
    exact ⟨fun hm => by have := (h3 b hm).2; omega, h2⟩
  · intro v hv
    rcases List.mem_cons.1 hv with rfl | hv
    · exact ⟨⟨b0, bn⟩, Int.le_refl _⟩
    · obtain ⟨h4, h5⟩ := h3 v hv
      exact ⟨h4, by omega⟩
theorem tight_last {n : Nat} {es : List S46} {s v : Int} {cost : List Int} (hg : GOk n es) (hd : Dist n es s cost) (v0 : 0 ≤ v) (vn : v < n) (hc : 0 ≤ rd cost v) (hn : ∀ e ∈ es, e.f1 = v → ¬ Tight cost e) : v = s := by
  have h := hd.cr v v0 vn hc
  generalize hq : rd cost v = q at h
  cases h with
  | start => rfl
  | step hr he hu =>
    rename_i u d e
    exfalso
    subst hu
    have h1 := hd.min hr
    have h2 := hd.le e he h1.1
    exact hn e he rfl ⟨h1.1, by omega⟩
theorem tight_start {n : Nat} {es : List S46} {s : Int} {cost : List Int} (hg : GOk n es) (hd : Dist n es s cost) {e : S46} (he : e ∈ es) (hs : e.f1 = s) : ¬ Tight cost e := by
  rintro ⟨h1, h2⟩
  obtain ⟨_, _, _, _, h3, _⟩ := hg.ok e he
  rw [hs, hd.c0] at h2
  omega
/-- The least edge from one node to another one, as far as it is known. -/
def BI (b a : Int) (l : List S46) (best : Int) : Prop := (best = 0 ∧ ∀ e ∈ l, e.f0 = b → e.f1 ≠ a) ∨ (best ≠ 0 ∧ (∃ e ∈ l, e.f0 = b ∧ e.f1 = a ∧ e.f2 = best) ∧ ∀ x ∈ l, x.f0 = b → x.f1 = a → best ≤ x.f2)
theorem BI.start (b a : Int) : BI b a [] 0 := .inl ⟨rfl, fun e he => absurd he List.not_mem_nil⟩
theorem BI.skip {b a best : Int} {l : List S46} {e : S46} (h : BI b a l best) (he : e.f0 = b → e.f1 = a → best ≠ 0 ∧ best ≤ e.f2) : BI b a (l ++ [e]) best := by
  rcases h with ⟨h1, h2⟩ | ⟨h0, ⟨x, hx, h1⟩, h2⟩
  · refine .inl ⟨h1, fun x hx hb ha => ?_⟩
    rcases List.mem_append.1 hx with hx | hx
    · exact h2 x hx hb ha
    · rw [List.mem_singleton.1 hx] at hb ha
      exact (he hb ha).1 h1
  · refine .inr ⟨h0, ⟨x, List.mem_append_left _ hx, h1⟩, fun x hx hb ha => ?_⟩
    rcases List.mem_append.1 hx with hx | hx
    · exact h2 x hx hb ha
    · rw [List.mem_singleton.1 hx] at hb ha ⊢
      exact (he hb ha).2
theorem BI.take {b a best : Int} {l : List S46} {e : S46} (h : BI b a l best) (hb : e.f0 = b) (ha : e.f1 = a) (h0 : e.f2 ≠ 0) (hl : best = 0 ∨ e.f2 < best) : BI b a (l ++ [e]) e.f2 := by
  refine .inr ⟨h0, ⟨e, List.mem_append_right _ List.mem_cons_self, hb, ha, rfl⟩, fun x hx xb xa => ?_⟩
  rcases List.mem_append.1 hx with hx | hx
  · rcases h with ⟨h1, h2⟩ | ⟨h1, _, h2⟩
    · exact absurd xa (h2 x hx xb)
    · have := h2 x hx xb xa
      rcases hl with hl | hl
      · exact absurd hl h1
      · omega
  · rw [List.mem_singleton.1 hx]
    exact Int.le_refl _
theorem BI.whole {n : Nat} {es : List S46} {s b a best : Int} {cost : List Int} (hd : Dist n es s cost) (h : BI b a es best) {e : S46} (he : e ∈ es) (hb : e.f0 = b) (ha : e.f1 = a) (hT : Tight cost e) : rd cost b + best = rd cost a := by
  obtain ⟨t1, t2⟩ := hT
  rw [hb] at t1 t2
  rw [ha] at t2
  rcases h with ⟨_, h2⟩ | ⟨_, ⟨x, hx, x0, x1, x2⟩, h2⟩
  · exact absurd ha (h2 e he hb)
  · have h3 := h2 e he hb ha
    have h4 := hd.le x hx (by rw [x0]; exact t1)
    rw [x0, x1, x2] at h4
    omega
/-- Where the walk along the tree stands. -/
def At (n : Nat) (cost : List Int) (t a sum : Int) (k : Nat) : Prop := (rd cost t < 0 ∧ k = 0 ∧ a = t ∧ sum = 0) ∨ (0 ≤ rd cost t ∧ Way n cost t a sum k)
set_option maxHeartbeats 4000000 in
set_option maxRecDepth 100000 in
theorem ShortTrees_walk (a : Int) (A : Option Addr) (c : Nat) (es : List S46) (f t : Int) (w : World) (hle : es.length ≤ c) (hK : Kd.C k46 w A es.length es) :
    Calls Try.prog 7 #[.agg #[.int .i64 a, .slice A es.length c], .int .i64 f, .int .i64 t] w fun e w' => e = .returned (.bool true) ∧ Below w.heap.size w w' := by
  have hu25 := Try.underlying25
  have hu40 := Try.underlying40
  have hu42 := Try.underlying42
  have hu46 := Try.underlying46
  have HK := Lib.hid hK
  have HLE := Lib.hid hle
  obtain ⟨hN1, hN8, _⟩ := fitN_range a
  clear hK hle
  go_enter Try.func7, Try.ntmps7
  go_wp2_with fail
  have HX := Lib.hid (blk_alloc w (.cells #[.int .i64 a, .slice A es.length c] 42))
  have HB := Lib.hid (below_alloc (Below.refl w.heap.size w) (.cells #[.int .i64 a, .slice A es.length c] 42))
  refine (lives18 _).mono ?_
  rintro e w1 ⟨rfl, hb1⟩
  have HB1 := Lib.hid (below_self HB.out hb1)
  have HX1 := Lib.hid (blk_keep hb1 HX.out)
  obtain ⟨x0, x1, xf⟩ := blk_cells2 HX1.out
  have hxl := blk_lt HX1.out
  clear hb1
  go_wp2_with fail
  refine (fitted19 a 10 es A c w1 (by omega) HLE.out (Lib.hid (Kd.C_below HK.out HB1.out))).mono ?_
  rintro e w2 ⟨A1, c1, rfl, hl1, hR1, hb2⟩
  obtain ⟨N, HN⟩ : ∃ n, Hid (n = fitN a) := ⟨_, Lib.hid rfl⟩
  rw [← HN.out] at hN1 hN8 hl1 hR1
  rw [← HN.out]
  obtain ⟨L, HL⟩ : ∃ l, Hid (l = (es.take 10).map (fitE N)) := ⟨_, Lib.hid rfl⟩
  rw [← HL.out] at hl1 hR1
  rw [← HL.out]
  have hLl : L.length ≤ 10 := by rw [HL.out, List.length_map, List.length_take]; omega
  have HOK : Hid (GOk N L) := by rw [HL.out]; exact Lib.hid (fit_ok hN1 hN8 (by rw [List.length_take]; omega))
  have HB2 := Lib.hid (below_self HB1.out hb2)
  have HX2 := Lib.hid (blk_keep hb2 HX1.out)
  clear hb2 x0 x1 xf hxl
  obtain ⟨x0, x1, xf⟩ := blk_cells2 HX2.out
  have hxl := blk_lt HX2.out
  have HR1 := Lib.hid hR1
  have HL1 := Lib.hid hl1
  clear hl1 hR1
  go_wp2_with fail
  have HX3 := Lib.hid (blk_set (blk_set HX2.out 0 (.int .i64 N)) 1 (.slice A1 L.length c1))
  have HB3 := Lib.hid (Below.setCell (Below.setCell HB2.out (p := ⟨w.heap.size, 0, none⟩) (Nat.le_refl _) (.int .i64 N)) (p := ⟨w.heap.size, 1, none⟩) (Nat.le_refl _) (.slice A1 L.length c1))
  have HR3 := Lib.hid (Kd.R_set (Kd.R_set HR1.out HX2.out (by decide) 0 (.int .i64 N)) (blk_set HX2.out 0 (.int .i64 N)) (by decide) 1 (.slice A1 L.length c1))
  clear x0 x1 xf hxl
  generalize (w2.setCell ⟨w.heap.size, 0, none⟩ (.int .i64 N)).setCell ⟨w.heap.size, 1, none⟩ (.slice A1 L.length c1) = w3 at HX3 HB3 HR3 ⊢
  have HC3 := Lib.hid (Kd.R_reads' HR3.out).2.2
  have HXd := Lib.hid (show w3.drew.heap[w.heap.size]? = _ from HX3.out)
  have HBd := Lib.hid (below_drew (B := w.heap.size) HB3.out)
  have HCd := Lib.hid (Kd.C_below HC3.out (below_drew (Below.refl w3.heap.size w3)))
  have x0 : w3.drew.cell? ⟨w.heap.size, 0, none⟩ = some (.int .i64 N) := blk_cell HX3.out 0
  have x1 : w3.drew.cell? ⟨w.heap.size, 1, none⟩ = some (.slice A1 L.length c1) := blk_cell HX3.out 1
  refine start_ (n := 8) (S := fun w' => w'.cell? ⟨w.heap.size, 0, none⟩ = some (.int .i64 N) ∧ w'.cell? ⟨w.heap.size, 1, none⟩ = some (.slice A1 L.length c1)) (ds := []) #[false, false, false, false, false, false, false, false] (by kernel_rfl) rfl rfl ⟨x0, x1⟩ (fun hHeld => ?_)
  generalize w3.drew = wd at HXd HBd HCd x0 x1 hHeld ⊢
  refine pure_ (i := 1) (N := some 22) (v := ?_) (a' := ?_) #[false, true, false, false, false, false, false, false] rfl rfl (by kernel_rfl) (fun _ _ _ h => h) (Or.inl ⟨by rfl, ?_⟩) ?_ ?_
  rotate_left
  · intro w'
    go_simp
    with_reducible rfl
  rotate_left
  · simp only [Act.put, List.setIfInBounds_toArray, List.set_cons_zero, List.set_cons_succ, i64_w, i32_w]
    rfl
  refine pure_ (i := 4) (N := some 25) (v := ?_) (a' := ?_) #[false, true, false, false, true, false, false, false] rfl rfl (by kernel_rfl) (fun _ _ _ h => h) (Or.inl ⟨by rfl, ?_⟩) ?_ ?_
  rotate_left
  · intro w'
    go_simp
    with_reducible rfl
  rotate_left
  · simp only [Act.put, List.setIfInBounds_toArray, List.set_cons_zero, List.set_cons_succ, i64_w, i32_w]
    rfl
  refine take_ (i := 0) (N := some 21) (v := ?_) (a' := ?_) #[true, true, false, false, true, false, false, false] rfl rfl (by kernel_rfl) (fun _ _ _ h => h) (Or.inl ⟨by rfl, ?_⟩) hHeld ?_ ?_
  rotate_left
  · rintro w' ⟨s0, s1⟩
    go_simp
    with_reducible rfl
  rotate_left
  · simp only [Act.put, List.setIfInBounds_toArray, List.set_cons_zero, List.set_cons_succ, i64_w, i32_w]
    rfl
  refine take_ (i := 3) (N := some 24) (v := ?_) (a' := ?_) #[true, true, false, true, true, false, false, false] rfl rfl (by kernel_rfl) (fun _ _ _ h => h) (Or.inl ⟨by rfl, ?_⟩) hHeld ?_ ?_
  rotate_left
  · rintro w' ⟨s0, s1⟩
    go_simp
    with_reducible rfl
  rotate_left
  · simp only [Act.put, List.setIfInBounds_toArray, List.set_cons_zero, List.set_cons_succ, i64_w, i32_w]
    rfl
  refine one_ (i := 2) (N := some 23) #[true, true, true, true, true, false, false, false] rfl rfl (by kernel_rfl) (by decide) (fun K hK => ?_)
  refine goes_ Try.func20 (by kernel_rfl) rfl #[.agg #[.int .i64 N, .slice A1 L.length c1], .int .i64 f] (by rfl) rfl rfl (by simp only [List.map_toArray, List.map_cons, List.map_nil]; rfl) ?_
  with_reducible refine (node20 N f A1 L.length c1 _ hN1 hN8).mono ?_
  rintro e w4 ⟨rfl, hb4⟩
  refine ⟨_, rfl, ?_⟩
  have HX4 := Lib.hid (blk_keep hb4 HXd.out)
  have HB4 := Lib.hid (below_self HBd.out hb4)
  have HC4 := Lib.hid (Kd.C_below HCd.out hb4)
  clear hb4
  have y40 := blk_cell HX4.out 0
  have y41 := blk_cell HX4.out 1
  refine hK.out _ _ ⟨y40, y41⟩ (fun hHeld => ?_)
  clear hK K
  refine norm_ (a' := ?_) ?_ ?_
  rotate_left
  · show Act.put _ (some 23) _ = _
    simp only [Act.put, List.setIfInBounds_toArray, List.set_cons_zero, List.set_cons_succ, i64_w, i32_w]
    rfl
  refine one_ (i := 5) (N := some 26) #[true, true, true, true, true, true, false, false] rfl rfl (by kernel_rfl) (by decide) (fun K hK => ?_)
  refine goes_ Try.func20 (by kernel_rfl) rfl #[.agg #[.int .i64 N, .slice A1 L.length c1], .int .i64 t] (by rfl) rfl rfl (by simp only [List.map_toArray, List.map_cons, List.map_nil]; rfl) ?_
  with_reducible refine (node20 N t A1 L.length c1 _ hN1 hN8).mono ?_
  rintro e w5 ⟨rfl, hb5⟩
  refine ⟨_, rfl, ?_⟩
  have HX5 := Lib.hid (blk_keep hb5 HX4.out)
  have HB5 := Lib.hid (below_self HB4.out hb5)
  have HC5 := Lib.hid (Kd.C_below HC4.out hb5)
  clear hb5
  have y50 := blk_cell HX5.out 0
  have y51 := blk_cell HX5.out 1
  refine hK.out _ _ ⟨y50, y51⟩ (fun hHeld => ?_)
  clear hK K
  refine norm_ (a' := ?_) ?_ ?_
  rotate_left
  · show Act.put _ (some 26) _ = _
    simp only [Act.put, List.setIfInBounds_toArray, List.set_cons_zero, List.set_cons_succ, i64_w, i32_w]
    rfl
  refine pure_ (i := 6) (N := some 1) (v := ?_) (a' := ?_) #[true, true, true, true, true, true, true, false] rfl rfl (by kernel_rfl) (fun _ _ _ h => h) (Or.inl ⟨by rfl, ?_⟩) ?_ ?_
  rotate_left
  · intro w'
    go_simp
    with_reducible rfl
  rotate_left
  · simp only [Act.put, List.setIfInBounds_toArray, List.set_cons_zero, List.set_cons_succ, i64_w, i32_w]
    rfl
  refine pure_ (i := 7) (N := some 2) (v := ?_) (a' := ?_) #[true, true, true, true, true, true, true, true] rfl rfl (by kernel_rfl) (fun _ _ _ h => h) (Or.inl ⟨by rfl, ?_⟩) ?_ ?_
  rotate_left
  · intro w'
    go_simp
    with_reducible rfl
  rotate_left
  · simp only [Act.put, List.setIfInBounds_toArray, List.set_cons_zero, List.set_cons_succ, i64_w, i32_w]
    rfl
  refine done_ (by kernel_rfl) ?_

  have hf0 := fitV_range hN1 f
  have ht0 := fitV_range hN1 t
  obtain ⟨fv, hfv⟩ : ∃ v : Nat, fitV N f = v := ⟨(fitV N f).toNat, by omega⟩
  obtain ⟨tv, htv⟩ : ∃ v : Nat, fitV N t = v := ⟨(fitV N t).toNat, by omega⟩
  rw [hfv, htv]
  have hfn : fv < N := by omega
  have htn : tv < N := by omega
  clear hf0 ht0 hfv htv y40 y41
  have hxl := blk_lt HX5.out
  have xf := blk_free HX5.out
  go_wp2_with fail
  refine (Costs21 N fv L A1 c1 w5 HOK.out hfn HL1.out HC5).mono ?_
  rintro e w6 ⟨G, cost, rfl, hD, hGl, hGc, hb⟩
  have HD := Lib.hid hD
  have HG6 := Lib.hid hGc
  have HB6 := Lib.hid (below_self HB5.out hb)
  have HX6 := Lib.hid (blk_keep hb HX5.out)
  have HC6 := Lib.hid (Kd.C_below HC5.out hb)
  clear hD hGl hGc hb y50 y51 hxl xf
  have x0 := blk_cell HX6.out 0
  have x1 := blk_cell HX6.out 1
  go_wp2_with fail
  refine (Tree24 N fv L A1 c1 w6 HOK.out hfn HL1.out HC6).mono ?_
  rintro e w7 ⟨P, pv, cost2, rfl, hD2, hT, hPc, hb⟩
  have HT := Lib.hid (TI.other hD2 HD.out HOK.out hT)
  have HG7 := Lib.hid (blk_keep hb HG6.out)
  have HP7 := Lib.hid hPc
  have HB7 := Lib.hid (below_self HB6.out hb)
  have HX7 := Lib.hid (blk_keep hb HX6.out)
  have HC7 := Lib.hid (Kd.C_below HC6.out hb)
  clear hD2 hT hPc hb x0 x1
  have x0 := blk_cell HX7.out 0
  have x1 := blk_cell HX7.out 1
  have hps : rd pv fv = -1 := by
    rcases HT.out.ok fv (by omega) (by omega) with ⟨h, _⟩ | ⟨e, he, h1, _, h2⟩
    · exact h
    · exact absurd h2 (tight_start HOK.out HD.out he h1)
  have g0 := row_cell HP7.out (i := fv) (by rw [HT.out.pl]; exact hfn)
  rw [hps] at g0
  have hfn2 : (fv : Int) < N := by omega
  go_wp2_with fail
  clear g0 x0 x1 hps hfn2
  obtain ⟨ct, Hct⟩ : ∃ v, Hid (v = rd cost tv) := ⟨_, Lib.hid rfl⟩
  have HAT : Hid (At N cost tv tv 0 0) := Lib.hid (by
    rcases Int.lt_or_le (rd cost tv) 0 with h | h
    · exact .inl ⟨h, rfl, rfl, rfl⟩
    · exact .inr ⟨h, Way.start (by omega) (by omega) h⟩)
  have x0 := blk_cell HX7.out 0
  go_wp2_with fail
  clear x0
  go_loopw [11, 12, 69] (fun va vs vi wr => ∃ (k av : Nat) (sum : Int), k ≤ N ∧ av < N ∧ va = .int .i64 av ∧ vs = .int .i64 sum ∧ vi = .int .i64 k ∧ Hid (At N cost tv av sum k) ∧ Hid (Below w7.heap.size w7 wr)) (fun _ _ i _ => N - (intOf i).toNat)
  case atStart => exact ⟨0, tv, 0, Nat.zero_le _, htn, rfl, rfl, rfl, HAT, Lib.hid (Below.refl _ _)⟩
  case round =>
    obtain ⟨k, av, sum, hk, han, rfl, rfl, rfl, HA, HBr⟩ := hrel
    have hlt : k < N := by
      rcases HA.out with ⟨_, h, _⟩ | ⟨_, h⟩
      · omega
      · exact h.short
    have HXr := Lib.hid (blk_keep HBr.out HX7.out)
    have HPr := Lib.hid (blk_keep HBr.out HP7.out)
    have HGr := Lib.hid (blk_keep HBr.out HG7.out)
    have x0 := blk_cell HXr.out 0
    have x1 := blk_cell HXr.out 1
    have xf := blk_free HXr.out
    have hxl := blk_lt HXr.out
    have p0 := row_cell HPr.out (i := av) (by rw [HT.out.pl]; exact han)
    have han2 : (av : Int) < N := by omega
    rcases HT.out.ok av (by omega) (by omega) with ⟨hpv, hno⟩ | ⟨e, he, e1, e0, eT⟩
    · -- the way is at its end
      rw [hpv] at p0
      have t0 := row_cell HGr.out (i := tv) (by rw [HD.out.cl]; exact htn)
      rw [← Hct.out] at t0
      have htn2 : (tv : Int) < N := by omega
      rcases HA.out with ⟨hneg, _, hat, _⟩ | ⟨hpos, hway⟩
      · obtain rfl : av = tv := by omega
        have d0 : decide (ct < 0) = true := decide_eq_true (by rw [Hct.out]; exact hneg)
        go_wp2_with fail
        go_ret
        exact ⟨rfl, below_self HB7.out HBr.out⟩
      · have hs := tight_last HOK.out HD.out hway.a0 hway.an hway.ca hno
        obtain rfl : av = fv := by omega
        have hsm := hway.sm
        rw [HD.out.c0, ← Hct.out] at hsm
        obtain rfl : sum = ct := by omega
        have d0 : decide (sum < 0) = false := decide_eq_false (by rw [Hct.out]; omega)
        go_wp2_with fail
        go_ret
        exact ⟨rfl, below_self HB7.out HBr.out⟩
    · obtain ⟨_, ho⟩ := HOK.out.ok e he
      have ho0 := (HOK.out.ok e he).1
      have hway : Way N cost tv av sum k := by
        rcases HA.out with ⟨hneg, _, hat, _⟩ | ⟨_, h⟩
        · obtain ⟨t1, t2⟩ := eT
          rw [e1, hat] at t2
          omega
        · exact h
      obtain ⟨bv, hbv⟩ : ∃ v : Nat, e.f0 = v := ⟨e.f0.toNat, by omega⟩
      rw [← e0, hbv] at p0
      have hbn : bv < N := by omega
      have hge : decide (N ≤ bv) = false := decide_eq_false (by omega)
      have HWAY := Lib.hid hway
      have HE := Lib.hid (show ∃ e ∈ L, e.f0 = bv ∧ e.f1 = av ∧ Tight cost e from ⟨e, he, hbv, e1, eT⟩)
      clear ho ho0 hway eT e0 e1 he hbv
      go_wp2_with fail
      clear x0 x1 xf hxl p0
      go_loopw [14, 86] (fun vb vj wq => ∃ (j : Nat) (best : Int), j ≤ L.length ∧ vb = .int .i64 best ∧ vj = .int .i64 j ∧ Hid (BI bv av (L.take j) best) ∧ Hid (Below w7.heap.size w7 wq)) (fun _ j _ => L.length - (intOf j).toNat)
      case atStart => exact ⟨0, 0, Nat.zero_le _, rfl, rfl, Lib.hid (BI.start _ _), HBr⟩
      case round =>
        obtain ⟨j, best, hj, rfl, rfl, HBI, HBq⟩ := hrel
        by_cases hlj : j < L.length
        · obtain ⟨ad, rfl, hcell⟩ := C46_cell (Kd.C_below HC7.out HBq.out) (by omega)
          obtain ⟨x, Hx⟩ : ∃ e : S46, Hid (e = L.getD j z46) := ⟨_, Lib.hid rfl⟩
          obtain ⟨c0, c1', c2⟩ := hcell j hlj
          rw [← Hx.out] at c0 c1' c2
          have hxm : x ∈ L := by rw [Hx.out, List.getD_eq_getElem?_getD, List.getElem?_eq_getElem hlj]; exact List.getElem_mem hlj
          have hx2 : x.f2 ≠ 0 := by have := (HOK.out.ok x hxm).2.2.2.2.1; omega
          have HX2 := Lib.hid hx2
          have HSN : Hid (L.take (j + 1) = L.take j ++ [x]) := Lib.hid (by rw [List.take_add_one, Hx.out]; simp [List.getD_eq_getElem?_getD, hlj])
          have hbe := below_alloc (Below.refl wr.heap.size wr) (.cells #[.int .i64 x.f0, .int .i64 x.f1, .int .i64 x.f2] 46)
          have HE3 := Lib.hid (blk_alloc wr (.cells #[.int .i64 x.f0, .int .i64 x.f1, .int .i64 x.f2] 46))
          have HB3 := Lib.hid (below_self HBq.out hbe)
          clear hcell hbe hxm hx2
          go_upto_region 18 with (fail)
          obtain ⟨xb, Hxb⟩ : ∃ b, Hid (b = wr.heap.size) := ⟨_, Lib.hid rfl⟩
          rw [← Hxb.out] at HE3
          rw [← Hxb.out]
          generalize wr.alloc (.cells #[.int .i64 x.f0, .int .i64 x.f1, .int .i64 x.f2] 46) = w3 at HE3 HB3 ⊢
          clear c0 c1' c2
          have q0 := blk_cell HE3.out 0
          have q1 := blk_cell HE3.out 1
          have q2 := blk_cell HE3.out 2
          by_cases h0 : x.f0 = bv
          · have d0 : (x.f0 == (bv : Int)) = true := by simpa using h0
            by_cases h1 : x.f1 = av
            · have d1 : (x.f1 == (av : Int)) = true := by simpa using h1
              by_cases h2 : best = 0
              · have HN := Lib.hid (HBI.out.take h0 h1 HX2.out (.inl h2))
                subst h2
                clear h0 h1
                go_wp2_with fail
                go_round
                case rel => exact ⟨j + 1, x.f2, by omega, rfl, by go_num, by rw [HSN.out]; exact HN, HB3⟩
                case measure => simp [intOf]; omega
              · have d2 : (best == 0) = false := by simpa using h2
                by_cases h3 : x.f2 < best
                · have d3 : decide (x.f2 < best) = true := decide_eq_true h3
                  have HN := Lib.hid (HBI.out.take h0 h1 HX2.out (.inr h3))
                  clear h0 h1 h2 h3
                  go_wp2_with fail
                  go_round
                  case rel => exact ⟨j + 1, x.f2, by omega, rfl, by go_num, by rw [HSN.out]; exact HN, HB3⟩
                  case measure => simp [intOf]; omega
                · have d3 : decide (x.f2 < best) = false := decide_eq_false h3
                  have HN := Lib.hid (HBI.out.skip (e := x) (fun _ _ => ⟨h2, by omega⟩))
                  clear h0 h1 h2 h3
                  go_wp2_with fail
                  go_round
                  case rel => exact ⟨j + 1, best, by omega, rfl, by go_num, by rw [HSN.out]; exact HN, HB3⟩
                  case measure => simp [intOf]; omega
            · have d1 : (x.f1 == (av : Int)) = false := by simpa using h1
              have HN := Lib.hid (HBI.out.skip (e := x) (fun _ h => absurd h h1))
              clear h0 h1
              go_wp2_with fail
              go_round
              case rel => exact ⟨j + 1, best, by omega, rfl, by go_num, by rw [HSN.out]; exact HN, HB3⟩
              case measure => simp [intOf]; omega
          · have d0 : (x.f0 == (bv : Int)) = false := by simpa using h0
            have HN := Lib.hid (HBI.out.skip (e := x) (fun h _ => absurd h h0))
            clear h0
            go_wp2_with fail
            go_round
            case rel => exact ⟨j + 1, best, by omega, rfl, by go_num, by rw [HSN.out]; exact HN, HB3⟩
            case measure => simp [intOf]; omega
        · have HBE : Hid (BI bv av L best) := by
            have h := HBI.out
            rw [List.take_of_length_le (by omega)] at h
            exact Lib.hid h
          obtain ⟨e, he, e0, e1, eT⟩ := HE.out
          have hbc := HBE.out.whole HD.out he e0 e1 eT
          obtain ⟨et1, et2⟩ := eT
          rw [e0] at et1 et2
          rw [e1] at et2
          have hcp : 1 ≤ best := by
            have := (HOK.out.ok e he).2.2.2.2.1
            omega
          have hch := HD.out.chi tv (by omega) (by omega)
          have hsm := HWAY.out.sm
          have hca := HWAY.out.ca
          have HN := Lib.hid (HWAY.out.step (b := (bv : Int)) (by omega) (by omega) et1 hbc hcp)
          have HAN : Hid (At N cost tv bv (sum + best) (k + 1)) := Lib.hid (.inr ⟨by have := HWAY.out.ca; have := HWAY.out.s0; omega, HN.out⟩)
          have hs0 := HWAY.out.s0
          have hw : wrap64 (sum + best) = sum + best := wrap_in _ (by omega) (by omega)
          clear he e0 e1 et1 et2 hbc
          go_wp2_with fail
          go_round
          case rel => exact ⟨k + 1, bv, sum + best, by omega, hbn, rfl, by go_num, by go_num, HAN, HBq⟩
          case measure => simp [intOf]; omega

end Go.Proofs.Ytaaohfhcimndmaa.M
