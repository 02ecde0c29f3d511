/- Own lemmas: Tree. -/
import Derived.Test.YtaaohfhcimndmaaMShortM
import Derived.LoopTactic
import Derived.BigQuiet
import Derived.RegionTactic
import Derived.BigRegion
namespace Go.Proofs.Ytaaohfhcimndmaa.M
open Go.RowKit Go.Proofs.YtaaohfhcimndmaaW.PrintWords Go.Proofs.YtaaohfhcimndmaaW.PrintLast Go.Proofs.YtaaohfhcimndmaaW.PrintMore 
set_option linter.unusedVariables false
set_option linter.unusedSimpArgs false

open Go.Proofs.Ytaaohfhcimndmaa.PAreaAnnounced
/-- An edge on a cheapest way. -/
def Tight (cost : List Int) (e : S46) : Prop := 0 ≤ rd cost e.f0 ∧ rd cost e.f0 + e.f2 = rd cost e.f1
instance (cost : List Int) (e : S46) : Decidable (Tight cost e) := inferInstanceAs (Decidable (_ ∧ _))
theorem nums_set (xs : List Int) (i : Nat) (v : Int) : (nums .i64 xs).toArray.setIfInBounds i (.int .i64 v) = (nums .i64 (xs.set i v)).toArray := by
  simp [nums, List.map_set]
set_option maxHeartbeats 1000000 in
set_option maxRecDepth 100000 in
theorem tight43 (n G u v lo co : Nat) (c : Int) (Ao : Option Addr) (cost : List Int) (w : World) (hn : n ≤ 16) (hl : cost.length = n) (hu : u < n) (hv : v < n) (hc1 : 1 ≤ c) (hc2 : c ≤ 65535)
    (hlo : -1 ≤ rd cost u) (hhi : rd cost u ≤ 65535 * 16) (HG : Hid (w.heap[G]? = some (.cells (nums .i64 cost).toArray 3 (0, 0)))) :
    Calls Try.prog 43 #[.agg #[.slice (some ⟨G, 0, none⟩) n n, .slice Ao lo co], .agg #[.int .i64 u, .int .i64 v, .int .i64 c]] w fun e w' => e = .returned (.bool (decide (Tight cost ⟨u, v, c⟩))) ∧ Below w.heap.size w w' := by
  have hu25 := Try.underlying25
  have hu46 := Try.underlying46
  have hu84 := Try.underlying84
  obtain ⟨a, Ha⟩ : ∃ a, Hid (a = rd cost u) := ⟨_, Lib.hid rfl⟩
  obtain ⟨b, Hb⟩ : ∃ a, Hid (a = rd cost v) := ⟨_, Lib.hid rfl⟩
  have HT : Hid (decide (Tight cost ⟨u, v, c⟩) = (decide (a ≥ 0) && (a + c == b))) := Lib.hid (by
    unfold Tight
    rw [Ha.out, Hb.out, Bool.eq_iff_iff]
    simp
    exact decide_eq_true_iff)
  rw [← Ha.out] at hlo hhi
  rw [HT.out]
  have HB := Lib.hid (below_self (below_alloc (Below.refl w.heap.size w) (.cells #[.slice (some ⟨G, 0, none⟩) n n, .slice Ao lo co] 84)) (below_alloc (Below.refl _ _) (.cells #[.int .i64 u, .int .i64 v, .int .i64 c] 46)))
  have h1 := row_cell (blk_keep HB.out HG.out) (i := u) (by omega)
  have h2 := row_cell (blk_keep HB.out HG.out) (i := v) (by omega)
  rw [← Ha.out] at h1
  rw [← Hb.out] at h2
  have hgl := blk_lt HG.out
  have hun : (u : Int) < n := by omega
  have hvn : (v : Int) < n := by omega
  have hw : wrap64 (a + c) = a + c := wrap_in _ (by omega) (by omega)
  by_cases h0 : a ≥ 0
  · have d0 : decide (a ≥ 0) = true := decide_eq_true h0
    rw [d0]
    go_enter Try.func43, Try.ntmps43
    go_wp2_with fail
    go_quiet (fail)
    go_wp2_with fail
    go_ret
    exact ⟨by simp [hw], HB.out.trans (pw_below_drewN (Below.refl _ _) _)⟩
  · have d0 : decide (a ≥ 0) = false := decide_eq_false h0
    rw [d0]
    go_enter Try.func43, Try.ntmps43
    go_wp2_with fail
    go_quiet (fail)
    go_wp2_with fail
    go_ret
    exact ⟨rfl, HB.out.trans (pw_below_drewN (Below.refl _ _) _)⟩
/-- What a tree tells behind k edges. -/
structure TI (n : Nat) (es : List S46) (cost pv : List Int) : Prop where
  pl : pv.length = n
  ok : ∀ v : Int, 0 ≤ v → v < n → (rd pv v = -1 ∧ ∀ e ∈ es, e.f1 = v → ¬ Tight cost e) ∨ (∃ e ∈ es, e.f1 = v ∧ e.f0 = rd pv v ∧ Tight cost e)
theorem TI.start (n : Nat) (cost : List Int) : TI n [] cost (List.replicate n (-1)) := by
  refine ⟨by simp, fun v h0 h1 => .inl ⟨?_, fun e he => absurd he List.not_mem_nil⟩⟩
  unfold rd
  rw [List.getD_eq_getElem?_getD, List.getElem?_replicate, if_pos (by omega)]
  rfl
theorem TI.skip {n : Nat} {es : List S46} {cost pv : List Int} {e : S46} (h : TI n es cost pv) (hg : ∀ x ∈ es, 0 ≤ x.f0) (ht : Tight cost e → 0 ≤ rd pv e.f1) : TI n (es ++ [e]) cost pv := by
  refine ⟨h.pl, fun v h0 h1 => ?_⟩
  rcases h.ok v h0 h1 with ⟨h2, h3⟩ | ⟨x, hx, h2⟩
  · refine .inl ⟨h2, fun x hx hv hT => ?_⟩
    rcases List.mem_append.1 hx with hx | hx
    · exact h3 x hx hv hT
    · rw [List.mem_singleton.1 hx] at hv hT
      have := ht hT
      rw [hv] at this
      omega
  · exact .inr ⟨x, List.mem_append_left _ hx, h2⟩
theorem TI.set {n : Nat} {es : List S46} {cost pv : List Int} {e : S46} (h : TI n es cost pv) (h0 : 0 ≤ e.f1) (h1 : e.f1 < n) (hT : Tight cost e) : TI n (es ++ [e]) cost (pv.set e.f1.toNat e.f0) := by
  have hl := h.pl
  refine ⟨by rw [List.length_set]; exact hl, fun v hv0 hv1 => ?_⟩
  rw [rd_set h0 (by omega) hv0]
  by_cases hv : v = e.f1
  · rw [if_pos hv]
    exact .inr ⟨e, List.mem_append_right _ List.mem_cons_self, hv.symm, rfl, hT⟩
  · rw [if_neg hv]
    rcases h.ok v hv0 hv1 with ⟨h2, h3⟩ | ⟨x, hx, h2⟩
    · refine .inl ⟨h2, fun x hx hv2 => ?_⟩
      rcases List.mem_append.1 hx with hx | hx
      · exact h3 x hx hv2
      · rw [List.mem_singleton.1 hx] at hv2
        exact absurd hv2.symm hv
    · exact .inr ⟨x, List.mem_append_left _ hx, h2⟩
theorem TI.range {n : Nat} {es : List S46} {cost pv : List Int} (h : TI n es cost pv) (hg : ∀ x ∈ es, 0 ≤ x.f0 ∧ x.f0 < n) {v : Int} (h0 : 0 ≤ v) (h1 : v < n) : -1 ≤ rd pv v ∧ rd pv v < n := by
  rcases h.ok v h0 h1 with ⟨h2, _⟩ | ⟨x, hx, _, h2, _⟩
  · omega
  · have := hg x hx
    omega
/-- Costs are told by the graph. -/
theorem dist_same {n : Nat} {es : List S46} {s : Int} {a b : List Int} (ha : Dist n es s a) (hb : Dist n es s b) {v : Int} (h0 : 0 ≤ v) (h1 : v < n) : rd a v = rd b v := by
  rcases ha.eq h0 h1 with ⟨h2, h3⟩ | ⟨h2, h3, h4⟩
  · rcases hb.eq h0 h1 with ⟨h5, _⟩ | ⟨_, h6, _⟩
    · omega
    · exact absurd h6 (h3 _)
  · rcases hb.eq h0 h1 with ⟨_, h5⟩ | ⟨h5, h6, h7⟩
    · exact absurd h3 (h5 _)
    · have := h4 _ h6
      have := h7 _ h3
      omega
theorem TI.other {n : Nat} {es : List S46} {s : Int} {a b pv : List Int} (ha : Dist n es s a) (hb : Dist n es s b) (hg : GOk n es) (h : TI n es a pv) : TI n es b pv := by
  have ht : ∀ e ∈ es, Tight a e ↔ Tight b e := fun e he => by
    obtain ⟨h0, h1, h2, h3, _⟩ := hg.ok e he
    unfold Tight
    rw [dist_same ha hb h0 h1, dist_same ha hb h2 h3]
  refine ⟨h.pl, fun v h0 h1 => ?_⟩
  rcases h.ok v h0 h1 with ⟨h2, h3⟩ | ⟨x, hx, h2, h3, h4⟩
  · exact .inl ⟨h2, fun e he hv hT => h3 e he hv ((ht e he).2 hT)⟩
  · exact .inr ⟨x, hx, h2, h3, (ht x hx).1 h4⟩
set_option maxHeartbeats 4000000 in
set_option maxRecDepth 100000 in
theorem Tree24 (n s : Nat) (es : List S46) (A : Option Addr) (c : Nat) (w : World) (hg : GOk n es) (hs : s < n) (hle : es.length ≤ c) (HK : Hid (Kd.C k46 w A es.length es)) :
    Calls Try.prog 24 #[.agg #[.int .i64 n, .slice A es.length c], .int .i64 s] w fun e w' => ∃ P pv cost, e = .returned (.tuple #[.slice (some ⟨P, 0, none⟩) n n, .int .i64 0]) ∧ Dist n es s cost ∧ TI n es cost pv ∧ w'.heap[P]? = some (.cells (nums .i64 pv).toArray 3 (0, 0)) ∧ Below w.heap.size w w' := by
  have hu25 := Try.underlying25
  have hu40 := Try.underlying40
  have hu42 := Try.underlying42
  have hu46 := Try.underlying46
  have hu84 := Try.underlying84
  have hw := Lib.hid (wrong_ok hg hs)
  have HG := Lib.hid hg
  have HGF : Hid (∀ k, ∀ x ∈ es.take k, 0 ≤ x.f0 ∧ x.f0 < n) := Lib.hid (fun k x hx => by obtain ⟨h1, h2, _⟩ := hg.ok x (List.mem_of_mem_take hx); exact ⟨h1, h2⟩)
  have hn16 := hg.n16
  clear hg
  go_enter Try.func24, Try.ntmps24
  go_wp2_with fail
  have HX := Lib.hid (blk_alloc w (.cells #[.int .i64 n, .slice A es.length c] 42))
  have HB := Lib.hid (below_alloc (Below.refl w.heap.size w) (.cells #[.int .i64 n, .slice A es.length c] 42))
  obtain ⟨p, Hp⟩ : ∃ b, Hid (b = w.heap.size) := ⟨_, Lib.hid rfl⟩
  rw [← Hp.out] at HX
  refine (short_wrong.calls _ n A c es s 0 _ (Kd.C_below HK.out HB.out) hle hw.out).mono ?_
  rw [← Hp.out]
  rintro e w1 ⟨rfl, hb1⟩
  have HB1 := Lib.hid (below_self HB.out (by first | exact hb1 | exact hb1.below))
  have HX1 := Lib.hid (blk_keep (by first | exact hb1 | exact hb1.below) HX.out)
  obtain ⟨x0, x1, xf⟩ := blk_cells2 HX1.out
  have hxl := blk_lt HX1.out
  clear hb1
  go_wp2_with fail
  refine (search41 n s es A c w1 HG.out hs hle (Lib.hid (Kd.C_below HK.out HB1.out))).mono ?_
  rintro e w2 ⟨G, cost, Ao, lo, co, rfl, hD, hGl, hGc, hb2⟩
  have HD := Lib.hid hD
  have HX2 := Lib.hid (blk_keep hb2 HX1.out)
  have HB2 := Lib.hid (below_self HB1.out hb2)
  have hbe := below_alloc (Below.refl w2.heap.size w2) (.cells #[.slice (some ⟨G, 0, none⟩) n n, .slice Ao lo co] 84)
  have HF3 := Lib.hid (blk_alloc w2 (.cells #[.slice (some ⟨G, 0, none⟩) n n, .slice Ao lo co] 84))
  have HX3 := Lib.hid (blk_keep hbe HX2.out)
  have HGC3 := Lib.hid (blk_keep hbe hGc)
  have HB3 := Lib.hid (below_self HB2.out hbe)
  obtain ⟨F, HFe⟩ : ∃ b, Hid (b = w2.heap.size) := ⟨_, Lib.hid rfl⟩
  rw [← HFe.out] at HF3
  clear hD hGc hb2 hGl x0 x1 xf hxl hbe
  go_upto_region 5 with (fail)
  rw [← HFe.out]
  generalize w2.alloc (.cells #[.slice (some ⟨G, 0, none⟩) n n, .slice Ao lo co] 84) = w3 at HF3 HX3 HGC3 HB3 ⊢
  obtain ⟨x0, x1, xf⟩ := blk_cells2 (blk_keep (below_alloc (Below.refl w3.heap.size w3) (.cells #[.int .i64 (-1)] 3)) HX3.out)
  have hxl := blk_lt (blk_keep (below_alloc (Below.refl w3.heap.size w3) (.cells #[.int .i64 (-1)] 3)) HX3.out)
  go_wp2_with fail
  have hbe := below_alloc (Below.refl w3.heap.size w3) (.cells #[.int .i64 (-1)] 3)
  have HF4 := Lib.hid (blk_keep hbe HF3.out)
  have HX4 := Lib.hid (blk_keep hbe HX3.out)
  have HGC4 := Lib.hid (blk_keep hbe HGC3.out)
  have HB4 := Lib.hid (below_self HB3.out hbe)
  clear hbe x0 x1 xf hxl
  refine (Repeat42 w3.heap.size (-1) n _ HG.out.n1 HG.out.n16 (blk_cell (blk_alloc w3 (.cells #[.int .i64 (-1)] 3)) 0)).mono ?_
  generalize w3.alloc (.cells #[.int .i64 (-1)] 3) = w4 at HF4 HX4 HGC4 HB4 ⊢
  rintro e w5 ⟨P, rfl, hPl, hPc, hb⟩
  have HPG := Lib.hid (show G ≠ P from Nat.ne_of_lt (Nat.lt_of_lt_of_le (blk_lt HGC4.out) hPl))
  have HPF := Lib.hid (show F ≠ P from Nat.ne_of_lt (Nat.lt_of_lt_of_le (blk_lt HF4.out) hPl))
  have HPW := Lib.hid (show w.heap.size ≤ P from Nat.le_trans HB4.out.size hPl)
  have HF5 := Lib.hid (blk_keep hb HF4.out)
  have HX5 := Lib.hid (blk_keep hb HX4.out)
  have HG5 := Lib.hid (blk_keep hb HGC4.out)
  have HB5 := Lib.hid (below_self HB4.out hb)
  rw [← nums_rep] at hPc
  have HP5 := Lib.hid hPc
  clear hb hPl hPc
  obtain ⟨x0, x1, xf⟩ := blk_cells2 HX5.out
  have hxl := blk_lt HX5.out
  go_wp2_with fail
  clear x0 x1 xf hxl
  go_loopw [27] (fun i wr => ∃ (k : Nat) (pv : List Int), k ≤ es.length ∧ i = .int .i64 k ∧ Hid (TI n (es.take k) cost pv) ∧ Hid (Below w.heap.size w wr) ∧ Hid (wr.heap[F]? = some (.cells #[.slice (some ⟨G, 0, none⟩) n n, .slice Ao lo co] 84 (0, 0))) ∧ Hid (wr.heap[G]? = some (.cells (nums .i64 cost).toArray 3 (0, 0))) ∧ Hid (wr.heap[P]? = some (.cells (nums .i64 pv).toArray 3 (0, 0)))) (fun i _ => es.length - (intOf i).toNat)
  case atStart => exact ⟨0, _, Nat.zero_le _, rfl, Lib.hid (TI.start n cost), HB5, HF5, HG5, HP5⟩
  case round =>
    obtain ⟨k, pv, hk, rfl, HT, HBr, HFr, HGr, HPr⟩ := hrel
    have hel := HG.out.len
    by_cases hlt : k < es.length
    · obtain ⟨ad, rfl, hcell⟩ := C46_cell (Kd.C_below HK.out HBr.out) (by omega)
      obtain ⟨x, Hx⟩ : ∃ e : S46, Hid (e = es.getD k z46) := ⟨_, Lib.hid rfl⟩
      obtain ⟨c0, c1, c2⟩ := hcell k hlt
      rw [← Hx.out] at c0 c1 c2
      have hxm : x ∈ es := by rw [Hx.out, List.getD_eq_getElem?_getD, List.getElem?_eq_getElem hlt]; exact List.getElem_mem hlt
      have hxo := HG.out.ok x hxm
      obtain ⟨u, huv⟩ : ∃ v : Nat, x.f0 = v := ⟨x.f0.toNat, by omega⟩
      obtain ⟨v, hvv⟩ : ∃ v : Nat, x.f1 = v := ⟨x.f1.toNat, by omega⟩
      obtain ⟨cc, Hcc⟩ : ∃ v, Hid (v = x.f2) := ⟨_, Lib.hid rfl⟩
      have Hx3 : Hid (x = ⟨u, v, cc⟩) := Lib.hid (by rw [Hcc.out, ← huv, ← hvv])
      have HSN : Hid (es.take (k + 1) = es.take k ++ [⟨u, v, cc⟩]) := Lib.hid (by rw [List.take_add_one, ← Hx3.out, Hx.out]; simp [List.getD_eq_getElem?_getD, hlt])
      rw [huv] at c0 hxo
      rw [hvv] at c1 hxo
      rw [← Hcc.out] at c2 hxo
      obtain ⟨_, hun, _, hvn, hc1, hc2⟩ := hxo
      clear hcell huv hvv hxm
      have hbe := below_alloc (Below.refl wr.heap.size wr) (.cells #[.int .i64 u, .int .i64 v, .int .i64 cc] 46)
      have HE3 := Lib.hid (blk_alloc wr (.cells #[.int .i64 u, .int .i64 v, .int .i64 cc] 46))
      have HF3 := Lib.hid (blk_keep hbe HFr.out)
      have HG3 := Lib.hid (blk_keep hbe HGr.out)
      have HP3 := Lib.hid (blk_keep hbe HPr.out)
      have HB3 := Lib.hid (below_self HBr.out hbe)
      clear hbe
      go_upto_region 9 with (fail)
      obtain ⟨xb, Hxb⟩ : ∃ b, Hid (b = wr.heap.size) := ⟨_, Lib.hid rfl⟩
      rw [← Hxb.out] at HE3
      rw [← Hxb.out]
      generalize wr.alloc (.cells #[.int .i64 u, .int .i64 v, .int .i64 cc] 46) = w3 at HE3 HF3 HG3 HP3 HB3 ⊢
      clear c0 c1 c2
      have hlo := HD.out.clo u (by omega) hun
      have hhi := HD.out.chi u (by omega) hun
      have hbd := below_drew (B := w3.heap.size) (Below.refl w3.heap.size w3)
      have HEd := Lib.hid (blk_keep hbd HE3.out)
      have HFd := Lib.hid (blk_keep hbd HF3.out)
      have HGd := Lib.hid (blk_keep hbd HG3.out)
      have HPd := Lib.hid (blk_keep hbd HP3.out)
      have HBd := Lib.hid (below_self HB3.out hbd)
      clear hbd
      obtain ⟨b, Hb⟩ : ∃ b, Hid (b = rd pv v) := ⟨_, Lib.hid rfl⟩
      have f0 : w3.drew.cell? ⟨F, 0, none⟩ = some (.slice (some ⟨G, 0, none⟩) n n) := blk_cell HFd.out 0
      have f1 : w3.drew.cell? ⟨F, 1, none⟩ = some (.slice Ao lo co) := blk_cell HFd.out 1
      have e0 : w3.drew.cell? ⟨xb, 0, none⟩ = some (.int .i64 u) := blk_cell HEd.out 0
      have e1 : w3.drew.cell? ⟨xb, 1, none⟩ = some (.int .i64 v) := blk_cell HEd.out 1
      have e2 : w3.drew.cell? ⟨xb, 2, none⟩ = some (.int .i64 cc) := blk_cell HEd.out 2
      have p0 : w3.drew.cell? ⟨P, v, none⟩ = some (.int .i64 b) := by rw [Hb.out]; exact row_cell HPd.out (by rw [HT.out.pl]; omega)
      by_cases hT : Tight cost ⟨u, v, cc⟩
      · have HTT := Lib.hid hT
        have dT : decide (Tight cost ⟨u, v, cc⟩) = true := decide_eq_true hT
        by_cases hb0 : b < 0
        · have d0 : decide (b < 0) = true := decide_eq_true hb0
          clear hT
          refine start_ (n := 21) (S := fun w' => w'.cell? ⟨F, 0, none⟩ = some (.slice (some ⟨G, 0, none⟩) n n) ∧ w'.cell? ⟨F, 1, none⟩ = some (.slice Ao lo co) ∧ w'.cell? ⟨xb, 0, none⟩ = some (.int .i64 u) ∧ w'.cell? ⟨xb, 1, none⟩ = some (.int .i64 v) ∧ w'.cell? ⟨xb, 2, none⟩ = some (.int .i64 cc) ∧ w'.cell? ⟨P, v, none⟩ = some (.int .i64 b)) (ds := []) #[false, false, false, false, false, false, false, false, false, false, false, false, false, false, false, false, false, false, false, false, false] (by kernel_rfl) rfl rfl ⟨f0, f1, e0, e1, e2, p0⟩ (fun hHeld => ?_)
          generalize w3.drew = wd at HEd HFd HGd HPd HBd f0 f1 e0 e1 e2 p0 hHeld ⊢
          refine take_ (i := 0) (N := some 31) (v := ?_) (a' := ?_) #[true, false, false, false, false, false, false, false, false, false, false, false, false, false, false, false, false, false, false, false, false] rfl rfl (by kernel_rfl) (fun _ _ _ h => h) (Or.inl ⟨by rfl, ?_⟩) hHeld ?_ ?_
          rotate_left
          · rintro w' ⟨s0, s1, s2, s3, s4, s5⟩
            go_simp
            with_reducible rfl
          rotate_left
          · simp only [Act.put, List.setIfInBounds_toArray, List.set_cons_zero, List.set_cons_succ, i64_w, i32_w]
            rfl
          refine take_ (i := 1) (N := some 32) (v := ?_) (a' := ?_) #[true, true, false, false, false, false, false, false, false, false, false, false, false, false, false, false, false, false, false, false, false] rfl rfl (by kernel_rfl) (fun _ _ _ h => h) (Or.inl ⟨by rfl, ?_⟩) hHeld ?_ ?_
          rotate_left
          · rintro w' ⟨s0, s1, s2, s3, s4, s5⟩
            go_simp
            with_reducible rfl
          rotate_left
          · simp only [Act.put, List.setIfInBounds_toArray, List.set_cons_zero, List.set_cons_succ, i64_w, i32_w]
            rfl
          refine one_ (i := 2) (N := some 33) #[true, true, true, false, false, false, false, false, false, false, false, false, false, false, false, false, false, false, false, false, false] rfl rfl (by kernel_rfl) (by decide) (fun K hK => ?_)
          refine goes_ Try.func43 (by kernel_rfl) rfl #[.agg #[.slice (some ⟨G, 0, none⟩) n n, .slice Ao lo co], .agg #[.int .i64 u, .int .i64 v, .int .i64 cc]] (by rfl) rfl rfl (by simp only [List.map_toArray, List.map_cons, List.map_nil]; rfl) ?_
          with_reducible refine (tight43 n G u v lo co cc Ao cost _ hn16 HD.out.cl (by omega) (by omega) hc1 hc2 hlo hhi HGd).mono ?_
          rintro e w6 ⟨rfl, hb⟩
          refine ⟨_, rfl, ?_⟩
          have HE6 := Lib.hid (blk_keep hb HEd.out)
          have HF6 := Lib.hid (blk_keep hb HFd.out)
          have HG6 := Lib.hid (blk_keep hb HGd.out)
          have HP6 := Lib.hid (blk_keep hb HPd.out)
          have HB6 := Lib.hid (below_self HBd.out hb)
          clear hb
          have q0 := blk_cell HF6.out 0
          have q1 := blk_cell HF6.out 1
          have r0 := blk_cell HE6.out 0
          have r1 := blk_cell HE6.out 1
          have r2 := blk_cell HE6.out 2
          have t0 : w6.cell? ⟨P, v, none⟩ = some (.int .i64 b) := by rw [Hb.out]; exact row_cell HP6.out (by rw [HT.out.pl]; omega)
          simp only [dT]
          refine hK.out _ _ ⟨q0, q1, r0, r1, r2, t0⟩ (fun hHeld => ?_)
          clear hK K
          refine norm_ (a' := ?_) ?_ ?_
          rotate_left
          · show Act.put _ (some 33) _ = _
            simp only [Act.put, List.setIfInBounds_toArray, List.set_cons_zero, List.set_cons_succ, i64_w, i32_w]
            rfl
          refine pure_ (i := 3) (N := some 34) (v := ?_) (a' := ?_) #[true, true, true, true, false, false, false, false, false, false, false, false, false, false, false, false, false, false, false, false, false] rfl rfl (by kernel_rfl) (fun _ _ _ h => h) (Or.inl ⟨by rfl, ?_⟩) ?_ ?_
          rotate_left
          · intro w'
            go_simp
            with_reducible rfl
          rotate_left
          · simp only [Act.put, List.setIfInBounds_toArray, List.set_cons_zero, List.set_cons_succ, i64_w, i32_w]
            rfl
          refine pure_ (i := 4) (N := some 35) (v := ?_) (a' := ?_) #[true, true, true, true, true, false, false, false, false, false, false, false, false, false, false, false, false, false, false, false, false] rfl rfl (by kernel_rfl) (fun _ _ _ h => h) (Or.inl ⟨by rfl, ?_⟩) ?_ ?_
          rotate_left
          · intro w'
            go_simp
            with_reducible rfl
          rotate_left
          · simp only [Act.put, List.setIfInBounds_toArray, List.set_cons_zero, List.set_cons_succ, i64_w, i32_w]
            rfl
          refine pure_ (i := 5) (N := some 36) (v := ?_) (a' := ?_) #[true, true, true, true, true, true, false, false, false, false, false, false, false, false, false, false, false, false, false, false, false] rfl rfl (by kernel_rfl) (fun _ _ _ h => h) (Or.inl ⟨by rfl, ?_⟩) ?_ ?_
          rotate_left
          · intro w'
            go_simp
            with_reducible rfl
          rotate_left
          · simp only [Act.put, List.setIfInBounds_toArray, List.set_cons_zero, List.set_cons_succ, i64_w, i32_w]
            rfl
          refine take_ (i := 6) (N := some 37) (v := ?_) (a' := ?_) #[true, true, true, true, true, true, true, false, false, false, false, false, false, false, false, false, false, false, false, false, false] rfl rfl (by kernel_rfl) (fun _ _ _ h => h) (Or.inl ⟨by rfl, ?_⟩) hHeld ?_ ?_
          rotate_left
          · rintro w' ⟨s0, s1, s2, s3, s4, s5⟩
            go_simp
            with_reducible rfl
          rotate_left
          · simp only [Act.put, List.setIfInBounds_toArray, List.set_cons_zero, List.set_cons_succ, i64_w, i32_w]
            rfl
          refine pure_ (i := 7) (N := some 38) (v := ?_) (a' := ?_) #[true, true, true, true, true, true, true, true, false, false, false, false, false, false, false, false, false, false, false, false, false] rfl rfl (by kernel_rfl) (fun _ _ _ h => h) (Or.inl ⟨by rfl, ?_⟩) ?_ ?_
          rotate_left
          · intro w'
            go_simp
            with_reducible rfl
          rotate_left
          · simp only [Act.put, List.setIfInBounds_toArray, List.set_cons_zero, List.set_cons_succ, i64_w, i32_w]
            rfl
          refine take_ (i := 8) (N := some 39) (v := ?_) (a' := ?_) #[true, true, true, true, true, true, true, true, true, false, false, false, false, false, false, false, false, false, false, false, false] rfl rfl (by kernel_rfl) (fun _ _ _ h => h) (Or.inl ⟨by rfl, ?_⟩) hHeld ?_ ?_
          rotate_left
          · rintro w' ⟨s0, s1, s2, s3, s4, s5⟩
            go_simp
            with_reducible rfl
          rotate_left
          · simp only [Act.put, List.setIfInBounds_toArray, List.set_cons_zero, List.set_cons_succ, i64_w, i32_w]
            rfl
          refine pure_ (i := 9) (N := some 40) (v := ?_) (a' := ?_) #[true, true, true, true, true, true, true, true, true, true, false, false, false, false, false, false, false, false, false, false, false] rfl rfl (by kernel_rfl) (fun _ _ _ h => h) (Or.inl ⟨by rfl, ?_⟩) ?_ ?_
          rotate_left
          · intro w'
            go_simp
            with_reducible rfl
          rotate_left
          · simp only [Act.put, List.setIfInBounds_toArray, List.set_cons_zero, List.set_cons_succ, i64_w, i32_w]
            rfl
          refine pure_ (i := 10) (N := some 41) (v := ?_) (a' := ?_) #[true, true, true, true, true, true, true, true, true, true, true, false, false, false, false, false, false, false, false, false, false] rfl rfl (by kernel_rfl) (fun _ _ _ h => h) (Or.inl ⟨by rfl, ?_⟩) ?_ ?_
          rotate_left
          · intro w'
            go_simp
            with_reducible rfl
          rotate_left
          · simp only [Act.put, List.setIfInBounds_toArray, List.set_cons_zero, List.set_cons_succ, i64_w, i32_w]
            rfl
          refine pure_ (i := 11) (N := some 42) (v := undef) (a' := ?_) #[true, true, true, true, true, true, true, true, true, true, true, true, false, false, false, false, false, false, false, false, false] rfl rfl (by kernel_rfl) (fun _ _ _ h => h) (Or.inr ⟨by rfl, rfl⟩) ?_ ?_
          rotate_left
          · simp only [Act.put, List.setIfInBounds_toArray, List.set_cons_zero, List.set_cons_succ, i64_w, i32_w]
            rfl
          refine pure_ (i := 12) (N := some 43) (v := undef) (a' := ?_) #[true, true, true, true, true, true, true, true, true, true, true, true, true, false, false, false, false, false, false, false, false] rfl rfl (by kernel_rfl) (fun _ _ _ h => h) (Or.inr ⟨by rfl, rfl⟩) ?_ ?_
          rotate_left
          · simp only [Act.put, List.setIfInBounds_toArray, List.set_cons_zero, List.set_cons_succ, i64_w, i32_w]
            rfl
          refine pure_ (i := 13) (N := some 44) (v := undef) (a' := ?_) #[true, true, true, true, true, true, true, true, true, true, true, true, true, true, false, false, false, false, false, false, false] rfl rfl (by kernel_rfl) (fun _ _ _ h => h) (Or.inr ⟨by rfl, rfl⟩) ?_ ?_
          rotate_left
          · simp only [Act.put, List.setIfInBounds_toArray, List.set_cons_zero, List.set_cons_succ, i64_w, i32_w]
            rfl
          refine pure_ (i := 14) (N := some 45) (v := undef) (a' := ?_) #[true, true, true, true, true, true, true, true, true, true, true, true, true, true, true, false, false, false, false, false, false] rfl rfl (by kernel_rfl) (fun _ _ _ h => h) (Or.inr ⟨by rfl, rfl⟩) ?_ ?_
          rotate_left
          · simp only [Act.put, List.setIfInBounds_toArray, List.set_cons_zero, List.set_cons_succ, i64_w, i32_w]
            rfl
          refine pure_ (i := 15) (N := some 46) (v := undef) (a' := ?_) #[true, true, true, true, true, true, true, true, true, true, true, true, true, true, true, true, false, false, false, false, false] rfl rfl (by kernel_rfl) (fun _ _ _ h => h) (Or.inr ⟨by rfl, rfl⟩) ?_ ?_
          rotate_left
          · simp only [Act.put, List.setIfInBounds_toArray, List.set_cons_zero, List.set_cons_succ, i64_w, i32_w]
            rfl
          refine pure_ (i := 16) (N := some 47) (v := undef) (a' := ?_) #[true, true, true, true, true, true, true, true, true, true, true, true, true, true, true, true, true, false, false, false, false] rfl rfl (by kernel_rfl) (fun _ _ _ h => h) (Or.inr ⟨by rfl, rfl⟩) ?_ ?_
          rotate_left
          · simp only [Act.put, List.setIfInBounds_toArray, List.set_cons_zero, List.set_cons_succ, i64_w, i32_w]
            rfl
          refine pure_ (i := 17) (N := some 48) (v := undef) (a' := ?_) #[true, true, true, true, true, true, true, true, true, true, true, true, true, true, true, true, true, true, false, false, false] rfl rfl (by kernel_rfl) (fun _ _ _ h => h) (Or.inr ⟨by rfl, rfl⟩) ?_ ?_
          rotate_left
          · simp only [Act.put, List.setIfInBounds_toArray, List.set_cons_zero, List.set_cons_succ, i64_w, i32_w]
            rfl
          refine pure_ (i := 18) (N := some 49) (v := undef) (a' := ?_) #[true, true, true, true, true, true, true, true, true, true, true, true, true, true, true, true, true, true, true, false, false] rfl rfl (by kernel_rfl) (fun _ _ _ h => h) (Or.inr ⟨by rfl, rfl⟩) ?_ ?_
          rotate_left
          · simp only [Act.put, List.setIfInBounds_toArray, List.set_cons_zero, List.set_cons_succ, i64_w, i32_w]
            rfl
          refine pure_ (i := 19) (N := some 50) (v := ?_) (a' := ?_) #[true, true, true, true, true, true, true, true, true, true, true, true, true, true, true, true, true, true, true, true, false] rfl rfl (by kernel_rfl) (fun _ _ _ h => h) (Or.inl ⟨by rfl, ?_⟩) ?_ ?_
          rotate_left
          · intro w'
            go_simp
            with_reducible rfl
          rotate_left
          · simp only [Act.put, List.setIfInBounds_toArray, List.set_cons_zero, List.set_cons_succ, i64_w, i32_w]
            rfl
          refine pure_ (i := 20) (N := some 51) (v := ?_) (a' := ?_) #[true, true, true, true, true, true, true, true, true, true, true, true, true, true, true, true, true, true, true, true, true] rfl rfl (by kernel_rfl) (fun _ _ _ h => h) (Or.inl ⟨by rfl, ?_⟩) ?_ ?_
          rotate_left
          · intro w'
            go_simp
            with_reducible rfl
          rotate_left
          · simp only [Act.put, List.setIfInBounds_toArray, List.set_cons_zero, List.set_cons_succ, i64_w, i32_w]
            rfl
          refine done_ (by kernel_rfl) ?_

          have hPlt := blk_lt HP6.out
          have hPf := blk_free HP6.out v
          clear q0 q1 r2
          go_wp2_with fail
          have HP7 := Lib.hid (show (w6.setCell ⟨P, v, none⟩ (.int .i64 u)).heap[P]? = some (.cells (nums .i64 (pv.set v u)).toArray 3 (0, 0)) from by rw [← nums_set]; exact blk_set HP6.out v (.int .i64 u))
          have HF7 := Lib.hid ((Below.heap_setCell w6 ⟨P, v, none⟩ (.int .i64 u) _ HPF.out).trans HF6.out)
          have HG7 := Lib.hid ((Below.heap_setCell w6 ⟨P, v, none⟩ (.int .i64 u) _ HPG.out).trans HG6.out)
          have HB7 := Lib.hid (Below.setCell HB6.out (p := ⟨P, v, none⟩) HPW.out (.int .i64 u))
          have HN := Lib.hid (HT.out.set (e := ⟨u, v, cc⟩) (by show (0 : Int) ≤ v; omega) (by show (v : Int) < n; omega) HTT.out)
          go_round
          case rel => exact ⟨k + 1, pv.set v u, by omega, by go_num, by rw [HSN.out]; exact HN, HB7, HF7, HG7, HP7⟩
          case measure => simp [intOf]; omega
        · have d0 : decide (b < 0) = false := decide_eq_false hb0
          by_cases hub : (u : Int) < b
          · have d1 : decide ((u : Int) < b) = true := decide_eq_true hub
            clear hT
            refine start_ (n := 21) (S := fun w' => w'.cell? ⟨F, 0, none⟩ = some (.slice (some ⟨G, 0, none⟩) n n) ∧ w'.cell? ⟨F, 1, none⟩ = some (.slice Ao lo co) ∧ w'.cell? ⟨xb, 0, none⟩ = some (.int .i64 u) ∧ w'.cell? ⟨xb, 1, none⟩ = some (.int .i64 v) ∧ w'.cell? ⟨xb, 2, none⟩ = some (.int .i64 cc) ∧ w'.cell? ⟨P, v, none⟩ = some (.int .i64 b)) (ds := []) #[false, false, false, false, false, false, false, false, false, false, false, false, false, false, false, false, false, false, false, false, false] (by kernel_rfl) rfl rfl ⟨f0, f1, e0, e1, e2, p0⟩ (fun hHeld => ?_)
            generalize w3.drew = wd at HEd HFd HGd HPd HBd f0 f1 e0 e1 e2 p0 hHeld ⊢
            refine take_ (i := 0) (N := some 31) (v := ?_) (a' := ?_) #[true, false, false, false, false, false, false, false, false, false, false, false, false, false, false, false, false, false, false, false, false] rfl rfl (by kernel_rfl) (fun _ _ _ h => h) (Or.inl ⟨by rfl, ?_⟩) hHeld ?_ ?_
            rotate_left
            · rintro w' ⟨s0, s1, s2, s3, s4, s5⟩
              go_simp
              with_reducible rfl
            rotate_left
            · simp only [Act.put, List.setIfInBounds_toArray, List.set_cons_zero, List.set_cons_succ, i64_w, i32_w]
              rfl
            refine take_ (i := 1) (N := some 32) (v := ?_) (a' := ?_) #[true, true, false, false, false, false, false, false, false, false, false, false, false, false, false, false, false, false, false, false, false] rfl rfl (by kernel_rfl) (fun _ _ _ h => h) (Or.inl ⟨by rfl, ?_⟩) hHeld ?_ ?_
            rotate_left
            · rintro w' ⟨s0, s1, s2, s3, s4, s5⟩
              go_simp
              with_reducible rfl
            rotate_left
            · simp only [Act.put, List.setIfInBounds_toArray, List.set_cons_zero, List.set_cons_succ, i64_w, i32_w]
              rfl
            refine one_ (i := 2) (N := some 33) #[true, true, true, false, false, false, false, false, false, false, false, false, false, false, false, false, false, false, false, false, false] rfl rfl (by kernel_rfl) (by decide) (fun K hK => ?_)
            refine goes_ Try.func43 (by kernel_rfl) rfl #[.agg #[.slice (some ⟨G, 0, none⟩) n n, .slice Ao lo co], .agg #[.int .i64 u, .int .i64 v, .int .i64 cc]] (by rfl) rfl rfl (by simp only [List.map_toArray, List.map_cons, List.map_nil]; rfl) ?_
            with_reducible refine (tight43 n G u v lo co cc Ao cost _ hn16 HD.out.cl (by omega) (by omega) hc1 hc2 hlo hhi HGd).mono ?_
            rintro e w6 ⟨rfl, hb⟩
            refine ⟨_, rfl, ?_⟩
            have HE6 := Lib.hid (blk_keep hb HEd.out)
            have HF6 := Lib.hid (blk_keep hb HFd.out)
            have HG6 := Lib.hid (blk_keep hb HGd.out)
            have HP6 := Lib.hid (blk_keep hb HPd.out)
            have HB6 := Lib.hid (below_self HBd.out hb)
            clear hb
            have q0 := blk_cell HF6.out 0
            have q1 := blk_cell HF6.out 1
            have r0 := blk_cell HE6.out 0
            have r1 := blk_cell HE6.out 1
            have r2 := blk_cell HE6.out 2
            have t0 : w6.cell? ⟨P, v, none⟩ = some (.int .i64 b) := by rw [Hb.out]; exact row_cell HP6.out (by rw [HT.out.pl]; omega)
            simp only [dT]
            refine hK.out _ _ ⟨q0, q1, r0, r1, r2, t0⟩ (fun hHeld => ?_)
            clear hK K
            refine norm_ (a' := ?_) ?_ ?_
            rotate_left
            · show Act.put _ (some 33) _ = _
              simp only [Act.put, List.setIfInBounds_toArray, List.set_cons_zero, List.set_cons_succ, i64_w, i32_w]
              rfl
            refine pure_ (i := 3) (N := some 34) (v := ?_) (a' := ?_) #[true, true, true, true, false, false, false, false, false, false, false, false, false, false, false, false, false, false, false, false, false] rfl rfl (by kernel_rfl) (fun _ _ _ h => h) (Or.inl ⟨by rfl, ?_⟩) ?_ ?_
            rotate_left
            · intro w'
              go_simp
              with_reducible rfl
            rotate_left
            · simp only [Act.put, List.setIfInBounds_toArray, List.set_cons_zero, List.set_cons_succ, i64_w, i32_w]
              rfl
            refine pure_ (i := 4) (N := some 35) (v := ?_) (a' := ?_) #[true, true, true, true, true, false, false, false, false, false, false, false, false, false, false, false, false, false, false, false, false] rfl rfl (by kernel_rfl) (fun _ _ _ h => h) (Or.inl ⟨by rfl, ?_⟩) ?_ ?_
            rotate_left
            · intro w'
              go_simp
              with_reducible rfl
            rotate_left
            · simp only [Act.put, List.setIfInBounds_toArray, List.set_cons_zero, List.set_cons_succ, i64_w, i32_w]
              rfl
            refine pure_ (i := 5) (N := some 36) (v := ?_) (a' := ?_) #[true, true, true, true, true, true, false, false, false, false, false, false, false, false, false, false, false, false, false, false, false] rfl rfl (by kernel_rfl) (fun _ _ _ h => h) (Or.inl ⟨by rfl, ?_⟩) ?_ ?_
            rotate_left
            · intro w'
              go_simp
              with_reducible rfl
            rotate_left
            · simp only [Act.put, List.setIfInBounds_toArray, List.set_cons_zero, List.set_cons_succ, i64_w, i32_w]
              rfl
            refine take_ (i := 6) (N := some 37) (v := ?_) (a' := ?_) #[true, true, true, true, true, true, true, false, false, false, false, false, false, false, false, false, false, false, false, false, false] rfl rfl (by kernel_rfl) (fun _ _ _ h => h) (Or.inl ⟨by rfl, ?_⟩) hHeld ?_ ?_
            rotate_left
            · rintro w' ⟨s0, s1, s2, s3, s4, s5⟩
              go_simp
              with_reducible rfl
            rotate_left
            · simp only [Act.put, List.setIfInBounds_toArray, List.set_cons_zero, List.set_cons_succ, i64_w, i32_w]
              rfl
            refine pure_ (i := 7) (N := some 38) (v := ?_) (a' := ?_) #[true, true, true, true, true, true, true, true, false, false, false, false, false, false, false, false, false, false, false, false, false] rfl rfl (by kernel_rfl) (fun _ _ _ h => h) (Or.inl ⟨by rfl, ?_⟩) ?_ ?_
            rotate_left
            · intro w'
              go_simp
              with_reducible rfl
            rotate_left
            · simp only [Act.put, List.setIfInBounds_toArray, List.set_cons_zero, List.set_cons_succ, i64_w, i32_w]
              rfl
            refine take_ (i := 8) (N := some 39) (v := ?_) (a' := ?_) #[true, true, true, true, true, true, true, true, true, false, false, false, false, false, false, false, false, false, false, false, false] rfl rfl (by kernel_rfl) (fun _ _ _ h => h) (Or.inl ⟨by rfl, ?_⟩) hHeld ?_ ?_
            rotate_left
            · rintro w' ⟨s0, s1, s2, s3, s4, s5⟩
              go_simp
              with_reducible rfl
            rotate_left
            · simp only [Act.put, List.setIfInBounds_toArray, List.set_cons_zero, List.set_cons_succ, i64_w, i32_w]
              rfl
            refine pure_ (i := 9) (N := some 40) (v := ?_) (a' := ?_) #[true, true, true, true, true, true, true, true, true, true, false, false, false, false, false, false, false, false, false, false, false] rfl rfl (by kernel_rfl) (fun _ _ _ h => h) (Or.inl ⟨by rfl, ?_⟩) ?_ ?_
            rotate_left
            · intro w'
              go_simp
              with_reducible rfl
            rotate_left
            · simp only [Act.put, List.setIfInBounds_toArray, List.set_cons_zero, List.set_cons_succ, i64_w, i32_w]
              rfl
            refine pure_ (i := 10) (N := some 41) (v := ?_) (a' := ?_) #[true, true, true, true, true, true, true, true, true, true, true, false, false, false, false, false, false, false, false, false, false] rfl rfl (by kernel_rfl) (fun _ _ _ h => h) (Or.inl ⟨by rfl, ?_⟩) ?_ ?_
            rotate_left
            · intro w'
              go_simp
              with_reducible rfl
            rotate_left
            · simp only [Act.put, List.setIfInBounds_toArray, List.set_cons_zero, List.set_cons_succ, i64_w, i32_w]
              rfl
            refine pure_ (i := 11) (N := some 42) (v := ?_) (a' := ?_) #[true, true, true, true, true, true, true, true, true, true, true, true, false, false, false, false, false, false, false, false, false] rfl rfl (by kernel_rfl) (fun _ _ _ h => h) (Or.inl ⟨by rfl, ?_⟩) ?_ ?_
            rotate_left
            · intro w'
              go_simp
              with_reducible rfl
            rotate_left
            · simp only [Act.put, List.setIfInBounds_toArray, List.set_cons_zero, List.set_cons_succ, i64_w, i32_w]
              rfl
            refine pure_ (i := 13) (N := some 44) (v := ?_) (a' := ?_) #[true, true, true, true, true, true, true, true, true, true, true, true, false, true, false, false, false, false, false, false, false] rfl rfl (by kernel_rfl) (fun _ _ _ h => h) (Or.inl ⟨by rfl, ?_⟩) ?_ ?_
            rotate_left
            · intro w'
              go_simp
              with_reducible rfl
            rotate_left
            · simp only [Act.put, List.setIfInBounds_toArray, List.set_cons_zero, List.set_cons_succ, i64_w, i32_w]
              rfl
            refine pure_ (i := 14) (N := some 45) (v := ?_) (a' := ?_) #[true, true, true, true, true, true, true, true, true, true, true, true, false, true, true, false, false, false, false, false, false] rfl rfl (by kernel_rfl) (fun _ _ _ h => h) (Or.inl ⟨by rfl, ?_⟩) ?_ ?_
            rotate_left
            · intro w'
              go_simp
              with_reducible rfl
            rotate_left
            · simp only [Act.put, List.setIfInBounds_toArray, List.set_cons_zero, List.set_cons_succ, i64_w, i32_w]
              rfl
            refine take_ (i := 12) (N := some 43) (v := ?_) (a' := ?_) #[true, true, true, true, true, true, true, true, true, true, true, true, true, true, true, false, false, false, false, false, false] rfl rfl (by kernel_rfl) (fun _ _ _ h => h) (Or.inl ⟨by rfl, ?_⟩) hHeld ?_ ?_
            rotate_left
            · rintro w' ⟨s0, s1, s2, s3, s4, s5⟩
              go_simp
              with_reducible rfl
            rotate_left
            · simp only [Act.put, List.setIfInBounds_toArray, List.set_cons_zero, List.set_cons_succ, i64_w, i32_w]
              rfl
            refine take_ (i := 15) (N := some 46) (v := ?_) (a' := ?_) #[true, true, true, true, true, true, true, true, true, true, true, true, true, true, true, true, false, false, false, false, false] rfl rfl (by kernel_rfl) (fun _ _ _ h => h) (Or.inl ⟨by rfl, ?_⟩) hHeld ?_ ?_
            rotate_left
            · rintro w' ⟨s0, s1, s2, s3, s4, s5⟩
              go_simp
              with_reducible rfl
            rotate_left
            · simp only [Act.put, List.setIfInBounds_toArray, List.set_cons_zero, List.set_cons_succ, i64_w, i32_w]
              rfl
            refine pure_ (i := 16) (N := some 47) (v := ?_) (a' := ?_) #[true, true, true, true, true, true, true, true, true, true, true, true, true, true, true, true, true, false, false, false, false] rfl rfl (by kernel_rfl) (fun _ _ _ h => h) (Or.inl ⟨by rfl, ?_⟩) ?_ ?_
            rotate_left
            · intro w'
              go_simp
              with_reducible rfl
            rotate_left
            · simp only [Act.put, List.setIfInBounds_toArray, List.set_cons_zero, List.set_cons_succ, i64_w, i32_w]
              rfl
            refine take_ (i := 17) (N := some 48) (v := ?_) (a' := ?_) #[true, true, true, true, true, true, true, true, true, true, true, true, true, true, true, true, true, true, false, false, false] rfl rfl (by kernel_rfl) (fun _ _ _ h => h) (Or.inl ⟨by rfl, ?_⟩) hHeld ?_ ?_
            rotate_left
            · rintro w' ⟨s0, s1, s2, s3, s4, s5⟩
              go_simp
              with_reducible rfl
            rotate_left
            · simp only [Act.put, List.setIfInBounds_toArray, List.set_cons_zero, List.set_cons_succ, i64_w, i32_w]
              rfl
            refine pure_ (i := 18) (N := some 49) (v := ?_) (a' := ?_) #[true, true, true, true, true, true, true, true, true, true, true, true, true, true, true, true, true, true, true, false, false] rfl rfl (by kernel_rfl) (fun _ _ _ h => h) (Or.inl ⟨by rfl, ?_⟩) ?_ ?_
            rotate_left
            · intro w'
              go_simp
              with_reducible rfl
            rotate_left
            · simp only [Act.put, List.setIfInBounds_toArray, List.set_cons_zero, List.set_cons_succ, i64_w, i32_w]
              rfl
            refine pure_ (i := 19) (N := some 50) (v := ?_) (a' := ?_) #[true, true, true, true, true, true, true, true, true, true, true, true, true, true, true, true, true, true, true, true, false] rfl rfl (by kernel_rfl) (fun _ _ _ h => h) (Or.inl ⟨by rfl, ?_⟩) ?_ ?_
            rotate_left
            · intro w'
              go_simp
              with_reducible rfl
            rotate_left
            · simp only [Act.put, List.setIfInBounds_toArray, List.set_cons_zero, List.set_cons_succ, i64_w, i32_w]
              rfl
            refine pure_ (i := 20) (N := some 51) (v := ?_) (a' := ?_) #[true, true, true, true, true, true, true, true, true, true, true, true, true, true, true, true, true, true, true, true, true] rfl rfl (by kernel_rfl) (fun _ _ _ h => h) (Or.inl ⟨by rfl, ?_⟩) ?_ ?_
            rotate_left
            · intro w'
              go_simp
              with_reducible rfl
            rotate_left
            · simp only [Act.put, List.setIfInBounds_toArray, List.set_cons_zero, List.set_cons_succ, i64_w, i32_w]
              rfl
            refine done_ (by kernel_rfl) ?_

            have hPlt := blk_lt HP6.out
            have hPf := blk_free HP6.out v
            clear q0 q1 r2
            go_wp2_with fail
            have HP7 := Lib.hid (show (w6.setCell ⟨P, v, none⟩ (.int .i64 u)).heap[P]? = some (.cells (nums .i64 (pv.set v u)).toArray 3 (0, 0)) from by rw [← nums_set]; exact blk_set HP6.out v (.int .i64 u))
            have HF7 := Lib.hid ((Below.heap_setCell w6 ⟨P, v, none⟩ (.int .i64 u) _ HPF.out).trans HF6.out)
            have HG7 := Lib.hid ((Below.heap_setCell w6 ⟨P, v, none⟩ (.int .i64 u) _ HPG.out).trans HG6.out)
            have HB7 := Lib.hid (Below.setCell HB6.out (p := ⟨P, v, none⟩) HPW.out (.int .i64 u))
            have HN := Lib.hid (HT.out.set (e := ⟨u, v, cc⟩) (by show (0 : Int) ≤ v; omega) (by show (v : Int) < n; omega) HTT.out)
            go_round
            case rel => exact ⟨k + 1, pv.set v u, by omega, by go_num, by rw [HSN.out]; exact HN, HB7, HF7, HG7, HP7⟩
            case measure => simp [intOf]; omega
          · have d1 : decide ((u : Int) < b) = false := decide_eq_false hub
            clear hT
            refine start_ (n := 21) (S := fun w' => w'.cell? ⟨F, 0, none⟩ = some (.slice (some ⟨G, 0, none⟩) n n) ∧ w'.cell? ⟨F, 1, none⟩ = some (.slice Ao lo co) ∧ w'.cell? ⟨xb, 0, none⟩ = some (.int .i64 u) ∧ w'.cell? ⟨xb, 1, none⟩ = some (.int .i64 v) ∧ w'.cell? ⟨xb, 2, none⟩ = some (.int .i64 cc) ∧ w'.cell? ⟨P, v, none⟩ = some (.int .i64 b)) (ds := []) #[false, false, false, false, false, false, false, false, false, false, false, false, false, false, false, false, false, false, false, false, false] (by kernel_rfl) rfl rfl ⟨f0, f1, e0, e1, e2, p0⟩ (fun hHeld => ?_)
            generalize w3.drew = wd at HEd HFd HGd HPd HBd f0 f1 e0 e1 e2 p0 hHeld ⊢
            refine take_ (i := 0) (N := some 31) (v := ?_) (a' := ?_) #[true, false, false, false, false, false, false, false, false, false, false, false, false, false, false, false, false, false, false, false, false] rfl rfl (by kernel_rfl) (fun _ _ _ h => h) (Or.inl ⟨by rfl, ?_⟩) hHeld ?_ ?_
            rotate_left
            · rintro w' ⟨s0, s1, s2, s3, s4, s5⟩
              go_simp
              with_reducible rfl
            rotate_left
            · simp only [Act.put, List.setIfInBounds_toArray, List.set_cons_zero, List.set_cons_succ, i64_w, i32_w]
              rfl
            refine take_ (i := 1) (N := some 32) (v := ?_) (a' := ?_) #[true, true, false, false, false, false, false, false, false, false, false, false, false, false, false, false, false, false, false, false, false] rfl rfl (by kernel_rfl) (fun _ _ _ h => h) (Or.inl ⟨by rfl, ?_⟩) hHeld ?_ ?_
            rotate_left
            · rintro w' ⟨s0, s1, s2, s3, s4, s5⟩
              go_simp
              with_reducible rfl
            rotate_left
            · simp only [Act.put, List.setIfInBounds_toArray, List.set_cons_zero, List.set_cons_succ, i64_w, i32_w]
              rfl
            refine one_ (i := 2) (N := some 33) #[true, true, true, false, false, false, false, false, false, false, false, false, false, false, false, false, false, false, false, false, false] rfl rfl (by kernel_rfl) (by decide) (fun K hK => ?_)
            refine goes_ Try.func43 (by kernel_rfl) rfl #[.agg #[.slice (some ⟨G, 0, none⟩) n n, .slice Ao lo co], .agg #[.int .i64 u, .int .i64 v, .int .i64 cc]] (by rfl) rfl rfl (by simp only [List.map_toArray, List.map_cons, List.map_nil]; rfl) ?_
            with_reducible refine (tight43 n G u v lo co cc Ao cost _ hn16 HD.out.cl (by omega) (by omega) hc1 hc2 hlo hhi HGd).mono ?_
            rintro e w6 ⟨rfl, hb⟩
            refine ⟨_, rfl, ?_⟩
            have HE6 := Lib.hid (blk_keep hb HEd.out)
            have HF6 := Lib.hid (blk_keep hb HFd.out)
            have HG6 := Lib.hid (blk_keep hb HGd.out)
            have HP6 := Lib.hid (blk_keep hb HPd.out)
            have HB6 := Lib.hid (below_self HBd.out hb)
            clear hb
            have q0 := blk_cell HF6.out 0
            have q1 := blk_cell HF6.out 1
            have r0 := blk_cell HE6.out 0
            have r1 := blk_cell HE6.out 1
            have r2 := blk_cell HE6.out 2
            have t0 : w6.cell? ⟨P, v, none⟩ = some (.int .i64 b) := by rw [Hb.out]; exact row_cell HP6.out (by rw [HT.out.pl]; omega)
            simp only [dT]
            refine hK.out _ _ ⟨q0, q1, r0, r1, r2, t0⟩ (fun hHeld => ?_)
            clear hK K
            refine norm_ (a' := ?_) ?_ ?_
            rotate_left
            · show Act.put _ (some 33) _ = _
              simp only [Act.put, List.setIfInBounds_toArray, List.set_cons_zero, List.set_cons_succ, i64_w, i32_w]
              rfl
            refine pure_ (i := 3) (N := some 34) (v := ?_) (a' := ?_) #[true, true, true, true, false, false, false, false, false, false, false, false, false, false, false, false, false, false, false, false, false] rfl rfl (by kernel_rfl) (fun _ _ _ h => h) (Or.inl ⟨by rfl, ?_⟩) ?_ ?_
            rotate_left
            · intro w'
              go_simp
              with_reducible rfl
            rotate_left
            · simp only [Act.put, List.setIfInBounds_toArray, List.set_cons_zero, List.set_cons_succ, i64_w, i32_w]
              rfl
            refine pure_ (i := 4) (N := some 35) (v := ?_) (a' := ?_) #[true, true, true, true, true, false, false, false, false, false, false, false, false, false, false, false, false, false, false, false, false] rfl rfl (by kernel_rfl) (fun _ _ _ h => h) (Or.inl ⟨by rfl, ?_⟩) ?_ ?_
            rotate_left
            · intro w'
              go_simp
              with_reducible rfl
            rotate_left
            · simp only [Act.put, List.setIfInBounds_toArray, List.set_cons_zero, List.set_cons_succ, i64_w, i32_w]
              rfl
            refine pure_ (i := 5) (N := some 36) (v := ?_) (a' := ?_) #[true, true, true, true, true, true, false, false, false, false, false, false, false, false, false, false, false, false, false, false, false] rfl rfl (by kernel_rfl) (fun _ _ _ h => h) (Or.inl ⟨by rfl, ?_⟩) ?_ ?_
            rotate_left
            · intro w'
              go_simp
              with_reducible rfl
            rotate_left
            · simp only [Act.put, List.setIfInBounds_toArray, List.set_cons_zero, List.set_cons_succ, i64_w, i32_w]
              rfl
            refine take_ (i := 6) (N := some 37) (v := ?_) (a' := ?_) #[true, true, true, true, true, true, true, false, false, false, false, false, false, false, false, false, false, false, false, false, false] rfl rfl (by kernel_rfl) (fun _ _ _ h => h) (Or.inl ⟨by rfl, ?_⟩) hHeld ?_ ?_
            rotate_left
            · rintro w' ⟨s0, s1, s2, s3, s4, s5⟩
              go_simp
              with_reducible rfl
            rotate_left
            · simp only [Act.put, List.setIfInBounds_toArray, List.set_cons_zero, List.set_cons_succ, i64_w, i32_w]
              rfl
            refine pure_ (i := 7) (N := some 38) (v := ?_) (a' := ?_) #[true, true, true, true, true, true, true, true, false, false, false, false, false, false, false, false, false, false, false, false, false] rfl rfl (by kernel_rfl) (fun _ _ _ h => h) (Or.inl ⟨by rfl, ?_⟩) ?_ ?_
            rotate_left
            · intro w'
              go_simp
              with_reducible rfl
            rotate_left
            · simp only [Act.put, List.setIfInBounds_toArray, List.set_cons_zero, List.set_cons_succ, i64_w, i32_w]
              rfl
            refine take_ (i := 8) (N := some 39) (v := ?_) (a' := ?_) #[true, true, true, true, true, true, true, true, true, false, false, false, false, false, false, false, false, false, false, false, false] rfl rfl (by kernel_rfl) (fun _ _ _ h => h) (Or.inl ⟨by rfl, ?_⟩) hHeld ?_ ?_
            rotate_left
            · rintro w' ⟨s0, s1, s2, s3, s4, s5⟩
              go_simp
              with_reducible rfl
            rotate_left
            · simp only [Act.put, List.setIfInBounds_toArray, List.set_cons_zero, List.set_cons_succ, i64_w, i32_w]
              rfl
            refine pure_ (i := 9) (N := some 40) (v := ?_) (a' := ?_) #[true, true, true, true, true, true, true, true, true, true, false, false, false, false, false, false, false, false, false, false, false] rfl rfl (by kernel_rfl) (fun _ _ _ h => h) (Or.inl ⟨by rfl, ?_⟩) ?_ ?_
            rotate_left
            · intro w'
              go_simp
              with_reducible rfl
            rotate_left
            · simp only [Act.put, List.setIfInBounds_toArray, List.set_cons_zero, List.set_cons_succ, i64_w, i32_w]
              rfl
            refine pure_ (i := 10) (N := some 41) (v := ?_) (a' := ?_) #[true, true, true, true, true, true, true, true, true, true, true, false, false, false, false, false, false, false, false, false, false] rfl rfl (by kernel_rfl) (fun _ _ _ h => h) (Or.inl ⟨by rfl, ?_⟩) ?_ ?_
            rotate_left
            · intro w'
              go_simp
              with_reducible rfl
            rotate_left
            · simp only [Act.put, List.setIfInBounds_toArray, List.set_cons_zero, List.set_cons_succ, i64_w, i32_w]
              rfl
            refine pure_ (i := 11) (N := some 42) (v := ?_) (a' := ?_) #[true, true, true, true, true, true, true, true, true, true, true, true, false, false, false, false, false, false, false, false, false] rfl rfl (by kernel_rfl) (fun _ _ _ h => h) (Or.inl ⟨by rfl, ?_⟩) ?_ ?_
            rotate_left
            · intro w'
              go_simp
              with_reducible rfl
            rotate_left
            · simp only [Act.put, List.setIfInBounds_toArray, List.set_cons_zero, List.set_cons_succ, i64_w, i32_w]
              rfl
            refine pure_ (i := 13) (N := some 44) (v := ?_) (a' := ?_) #[true, true, true, true, true, true, true, true, true, true, true, true, false, true, false, false, false, false, false, false, false] rfl rfl (by kernel_rfl) (fun _ _ _ h => h) (Or.inl ⟨by rfl, ?_⟩) ?_ ?_
            rotate_left
            · intro w'
              go_simp
              with_reducible rfl
            rotate_left
            · simp only [Act.put, List.setIfInBounds_toArray, List.set_cons_zero, List.set_cons_succ, i64_w, i32_w]
              rfl
            refine pure_ (i := 14) (N := some 45) (v := ?_) (a' := ?_) #[true, true, true, true, true, true, true, true, true, true, true, true, false, true, true, false, false, false, false, false, false] rfl rfl (by kernel_rfl) (fun _ _ _ h => h) (Or.inl ⟨by rfl, ?_⟩) ?_ ?_
            rotate_left
            · intro w'
              go_simp
              with_reducible rfl
            rotate_left
            · simp only [Act.put, List.setIfInBounds_toArray, List.set_cons_zero, List.set_cons_succ, i64_w, i32_w]
              rfl
            refine take_ (i := 12) (N := some 43) (v := ?_) (a' := ?_) #[true, true, true, true, true, true, true, true, true, true, true, true, true, true, true, false, false, false, false, false, false] rfl rfl (by kernel_rfl) (fun _ _ _ h => h) (Or.inl ⟨by rfl, ?_⟩) hHeld ?_ ?_
            rotate_left
            · rintro w' ⟨s0, s1, s2, s3, s4, s5⟩
              go_simp
              with_reducible rfl
            rotate_left
            · simp only [Act.put, List.setIfInBounds_toArray, List.set_cons_zero, List.set_cons_succ, i64_w, i32_w]
              rfl
            refine take_ (i := 15) (N := some 46) (v := ?_) (a' := ?_) #[true, true, true, true, true, true, true, true, true, true, true, true, true, true, true, true, false, false, false, false, false] rfl rfl (by kernel_rfl) (fun _ _ _ h => h) (Or.inl ⟨by rfl, ?_⟩) hHeld ?_ ?_
            rotate_left
            · rintro w' ⟨s0, s1, s2, s3, s4, s5⟩
              go_simp
              with_reducible rfl
            rotate_left
            · simp only [Act.put, List.setIfInBounds_toArray, List.set_cons_zero, List.set_cons_succ, i64_w, i32_w]
              rfl
            refine pure_ (i := 16) (N := some 47) (v := ?_) (a' := ?_) #[true, true, true, true, true, true, true, true, true, true, true, true, true, true, true, true, true, false, false, false, false] rfl rfl (by kernel_rfl) (fun _ _ _ h => h) (Or.inl ⟨by rfl, ?_⟩) ?_ ?_
            rotate_left
            · intro w'
              go_simp
              with_reducible rfl
            rotate_left
            · simp only [Act.put, List.setIfInBounds_toArray, List.set_cons_zero, List.set_cons_succ, i64_w, i32_w]
              rfl
            refine take_ (i := 17) (N := some 48) (v := ?_) (a' := ?_) #[true, true, true, true, true, true, true, true, true, true, true, true, true, true, true, true, true, true, false, false, false] rfl rfl (by kernel_rfl) (fun _ _ _ h => h) (Or.inl ⟨by rfl, ?_⟩) hHeld ?_ ?_
            rotate_left
            · rintro w' ⟨s0, s1, s2, s3, s4, s5⟩
              go_simp
              with_reducible rfl
            rotate_left
            · simp only [Act.put, List.setIfInBounds_toArray, List.set_cons_zero, List.set_cons_succ, i64_w, i32_w]
              rfl
            refine pure_ (i := 18) (N := some 49) (v := ?_) (a' := ?_) #[true, true, true, true, true, true, true, true, true, true, true, true, true, true, true, true, true, true, true, false, false] rfl rfl (by kernel_rfl) (fun _ _ _ h => h) (Or.inl ⟨by rfl, ?_⟩) ?_ ?_
            rotate_left
            · intro w'
              go_simp
              with_reducible rfl
            rotate_left
            · simp only [Act.put, List.setIfInBounds_toArray, List.set_cons_zero, List.set_cons_succ, i64_w, i32_w]
              rfl
            refine pure_ (i := 19) (N := some 50) (v := ?_) (a' := ?_) #[true, true, true, true, true, true, true, true, true, true, true, true, true, true, true, true, true, true, true, true, false] rfl rfl (by kernel_rfl) (fun _ _ _ h => h) (Or.inl ⟨by rfl, ?_⟩) ?_ ?_
            rotate_left
            · intro w'
              go_simp
              with_reducible rfl
            rotate_left
            · simp only [Act.put, List.setIfInBounds_toArray, List.set_cons_zero, List.set_cons_succ, i64_w, i32_w]
              rfl
            refine pure_ (i := 20) (N := some 51) (v := ?_) (a' := ?_) #[true, true, true, true, true, true, true, true, true, true, true, true, true, true, true, true, true, true, true, true, true] rfl rfl (by kernel_rfl) (fun _ _ _ h => h) (Or.inl ⟨by rfl, ?_⟩) ?_ ?_
            rotate_left
            · intro w'
              go_simp
              with_reducible rfl
            rotate_left
            · simp only [Act.put, List.setIfInBounds_toArray, List.set_cons_zero, List.set_cons_succ, i64_w, i32_w]
              rfl
            refine done_ (by kernel_rfl) ?_

            have HN := Lib.hid (HT.out.skip (e := ⟨u, v, cc⟩) (fun x hx => (HGF.out k x hx).1) (fun h => by show (0 : Int) ≤ rd pv v; rw [← Hb.out]; omega))
            clear q0 q1 r0 r1 r2 t0
            go_wp2_with fail
            go_round
            case rel => exact ⟨k + 1, pv, by omega, by go_num, by rw [HSN.out]; exact HN, HB6, HF6, HG6, HP6⟩
            case measure => simp [intOf]; omega
      · have dT : decide (Tight cost ⟨u, v, cc⟩) = false := decide_eq_false hT
        refine start_ (n := 21) (S := fun w' => w'.cell? ⟨F, 0, none⟩ = some (.slice (some ⟨G, 0, none⟩) n n) ∧ w'.cell? ⟨F, 1, none⟩ = some (.slice Ao lo co) ∧ w'.cell? ⟨xb, 0, none⟩ = some (.int .i64 u) ∧ w'.cell? ⟨xb, 1, none⟩ = some (.int .i64 v) ∧ w'.cell? ⟨xb, 2, none⟩ = some (.int .i64 cc) ∧ w'.cell? ⟨P, v, none⟩ = some (.int .i64 b)) (ds := []) #[false, false, false, false, false, false, false, false, false, false, false, false, false, false, false, false, false, false, false, false, false] (by kernel_rfl) rfl rfl ⟨f0, f1, e0, e1, e2, p0⟩ (fun hHeld => ?_)
        generalize w3.drew = wd at HEd HFd HGd HPd HBd f0 f1 e0 e1 e2 p0 hHeld ⊢
        refine take_ (i := 0) (N := some 31) (v := ?_) (a' := ?_) #[true, false, false, false, false, false, false, false, false, false, false, false, false, false, false, false, false, false, false, false, false] rfl rfl (by kernel_rfl) (fun _ _ _ h => h) (Or.inl ⟨by rfl, ?_⟩) hHeld ?_ ?_
        rotate_left
        · rintro w' ⟨s0, s1, s2, s3, s4, s5⟩
          go_simp
          with_reducible rfl
        rotate_left
        · simp only [Act.put, List.setIfInBounds_toArray, List.set_cons_zero, List.set_cons_succ, i64_w, i32_w]
          rfl
        refine take_ (i := 1) (N := some 32) (v := ?_) (a' := ?_) #[true, true, false, false, false, false, false, false, false, false, false, false, false, false, false, false, false, false, false, false, false] rfl rfl (by kernel_rfl) (fun _ _ _ h => h) (Or.inl ⟨by rfl, ?_⟩) hHeld ?_ ?_
        rotate_left
        · rintro w' ⟨s0, s1, s2, s3, s4, s5⟩
          go_simp
          with_reducible rfl
        rotate_left
        · simp only [Act.put, List.setIfInBounds_toArray, List.set_cons_zero, List.set_cons_succ, i64_w, i32_w]
          rfl
        refine one_ (i := 2) (N := some 33) #[true, true, true, false, false, false, false, false, false, false, false, false, false, false, false, false, false, false, false, false, false] rfl rfl (by kernel_rfl) (by decide) (fun K hK => ?_)
        refine goes_ Try.func43 (by kernel_rfl) rfl #[.agg #[.slice (some ⟨G, 0, none⟩) n n, .slice Ao lo co], .agg #[.int .i64 u, .int .i64 v, .int .i64 cc]] (by rfl) rfl rfl (by simp only [List.map_toArray, List.map_cons, List.map_nil]; rfl) ?_
        with_reducible refine (tight43 n G u v lo co cc Ao cost _ hn16 HD.out.cl (by omega) (by omega) hc1 hc2 hlo hhi HGd).mono ?_
        rintro e w6 ⟨rfl, hb⟩
        refine ⟨_, rfl, ?_⟩
        have HE6 := Lib.hid (blk_keep hb HEd.out)
        have HF6 := Lib.hid (blk_keep hb HFd.out)
        have HG6 := Lib.hid (blk_keep hb HGd.out)
        have HP6 := Lib.hid (blk_keep hb HPd.out)
        have HB6 := Lib.hid (below_self HBd.out hb)
        clear hb
        have q0 := blk_cell HF6.out 0
        have q1 := blk_cell HF6.out 1
        have r0 := blk_cell HE6.out 0
        have r1 := blk_cell HE6.out 1
        have r2 := blk_cell HE6.out 2
        have t0 : w6.cell? ⟨P, v, none⟩ = some (.int .i64 b) := by rw [Hb.out]; exact row_cell HP6.out (by rw [HT.out.pl]; omega)
        simp only [dT]
        refine hK.out _ _ ⟨q0, q1, r0, r1, r2, t0⟩ (fun hHeld => ?_)
        clear hK K
        refine norm_ (a' := ?_) ?_ ?_
        rotate_left
        · show Act.put _ (some 33) _ = _
          simp only [Act.put, List.setIfInBounds_toArray, List.set_cons_zero, List.set_cons_succ, i64_w, i32_w]
          rfl
        refine pure_ (i := 3) (N := some 34) (v := ?_) (a' := ?_) #[true, true, true, true, false, false, false, false, false, false, false, false, false, false, false, false, false, false, false, false, false] rfl rfl (by kernel_rfl) (fun _ _ _ h => h) (Or.inl ⟨by rfl, ?_⟩) ?_ ?_
        rotate_left
        · intro w'
          go_simp
          with_reducible rfl
        rotate_left
        · simp only [Act.put, List.setIfInBounds_toArray, List.set_cons_zero, List.set_cons_succ, i64_w, i32_w]
          rfl
        refine pure_ (i := 4) (N := some 35) (v := undef) (a' := ?_) #[true, true, true, true, true, false, false, false, false, false, false, false, false, false, false, false, false, false, false, false, false] rfl rfl (by kernel_rfl) (fun _ _ _ h => h) (Or.inr ⟨by rfl, rfl⟩) ?_ ?_
        rotate_left
        · simp only [Act.put, List.setIfInBounds_toArray, List.set_cons_zero, List.set_cons_succ, i64_w, i32_w]
          rfl
        refine pure_ (i := 5) (N := some 36) (v := undef) (a' := ?_) #[true, true, true, true, true, true, false, false, false, false, false, false, false, false, false, false, false, false, false, false, false] rfl rfl (by kernel_rfl) (fun _ _ _ h => h) (Or.inr ⟨by rfl, rfl⟩) ?_ ?_
        rotate_left
        · simp only [Act.put, List.setIfInBounds_toArray, List.set_cons_zero, List.set_cons_succ, i64_w, i32_w]
          rfl
        refine pure_ (i := 6) (N := some 37) (v := undef) (a' := ?_) #[true, true, true, true, true, true, true, false, false, false, false, false, false, false, false, false, false, false, false, false, false] rfl rfl (by kernel_rfl) (fun _ _ _ h => h) (Or.inr ⟨by rfl, rfl⟩) ?_ ?_
        rotate_left
        · simp only [Act.put, List.setIfInBounds_toArray, List.set_cons_zero, List.set_cons_succ, i64_w, i32_w]
          rfl
        refine pure_ (i := 7) (N := some 38) (v := undef) (a' := ?_) #[true, true, true, true, true, true, true, true, false, false, false, false, false, false, false, false, false, false, false, false, false] rfl rfl (by kernel_rfl) (fun _ _ _ h => h) (Or.inr ⟨by rfl, rfl⟩) ?_ ?_
        rotate_left
        · simp only [Act.put, List.setIfInBounds_toArray, List.set_cons_zero, List.set_cons_succ, i64_w, i32_w]
          rfl
        refine pure_ (i := 8) (N := some 39) (v := undef) (a' := ?_) #[true, true, true, true, true, true, true, true, true, false, false, false, false, false, false, false, false, false, false, false, false] rfl rfl (by kernel_rfl) (fun _ _ _ h => h) (Or.inr ⟨by rfl, rfl⟩) ?_ ?_
        rotate_left
        · simp only [Act.put, List.setIfInBounds_toArray, List.set_cons_zero, List.set_cons_succ, i64_w, i32_w]
          rfl
        refine pure_ (i := 9) (N := some 40) (v := undef) (a' := ?_) #[true, true, true, true, true, true, true, true, true, true, false, false, false, false, false, false, false, false, false, false, false] rfl rfl (by kernel_rfl) (fun _ _ _ h => h) (Or.inr ⟨by rfl, rfl⟩) ?_ ?_
        rotate_left
        · simp only [Act.put, List.setIfInBounds_toArray, List.set_cons_zero, List.set_cons_succ, i64_w, i32_w]
          rfl
        refine pure_ (i := 10) (N := some 41) (v := undef) (a' := ?_) #[true, true, true, true, true, true, true, true, true, true, true, false, false, false, false, false, false, false, false, false, false] rfl rfl (by kernel_rfl) (fun _ _ _ h => h) (Or.inr ⟨by rfl, rfl⟩) ?_ ?_
        rotate_left
        · simp only [Act.put, List.setIfInBounds_toArray, List.set_cons_zero, List.set_cons_succ, i64_w, i32_w]
          rfl
        refine pure_ (i := 11) (N := some 42) (v := undef) (a' := ?_) #[true, true, true, true, true, true, true, true, true, true, true, true, false, false, false, false, false, false, false, false, false] rfl rfl (by kernel_rfl) (fun _ _ _ h => h) (Or.inr ⟨by rfl, rfl⟩) ?_ ?_
        rotate_left
        · simp only [Act.put, List.setIfInBounds_toArray, List.set_cons_zero, List.set_cons_succ, i64_w, i32_w]
          rfl
        refine pure_ (i := 12) (N := some 43) (v := undef) (a' := ?_) #[true, true, true, true, true, true, true, true, true, true, true, true, true, false, false, false, false, false, false, false, false] rfl rfl (by kernel_rfl) (fun _ _ _ h => h) (Or.inr ⟨by rfl, rfl⟩) ?_ ?_
        rotate_left
        · simp only [Act.put, List.setIfInBounds_toArray, List.set_cons_zero, List.set_cons_succ, i64_w, i32_w]
          rfl
        refine pure_ (i := 13) (N := some 44) (v := undef) (a' := ?_) #[true, true, true, true, true, true, true, true, true, true, true, true, true, true, false, false, false, false, false, false, false] rfl rfl (by kernel_rfl) (fun _ _ _ h => h) (Or.inr ⟨by rfl, rfl⟩) ?_ ?_
        rotate_left
        · simp only [Act.put, List.setIfInBounds_toArray, List.set_cons_zero, List.set_cons_succ, i64_w, i32_w]
          rfl
        refine pure_ (i := 14) (N := some 45) (v := undef) (a' := ?_) #[true, true, true, true, true, true, true, true, true, true, true, true, true, true, true, false, false, false, false, false, false] rfl rfl (by kernel_rfl) (fun _ _ _ h => h) (Or.inr ⟨by rfl, rfl⟩) ?_ ?_
        rotate_left
        · simp only [Act.put, List.setIfInBounds_toArray, List.set_cons_zero, List.set_cons_succ, i64_w, i32_w]
          rfl
        refine pure_ (i := 15) (N := some 46) (v := undef) (a' := ?_) #[true, true, true, true, true, true, true, true, true, true, true, true, true, true, true, true, false, false, false, false, false] rfl rfl (by kernel_rfl) (fun _ _ _ h => h) (Or.inr ⟨by rfl, rfl⟩) ?_ ?_
        rotate_left
        · simp only [Act.put, List.setIfInBounds_toArray, List.set_cons_zero, List.set_cons_succ, i64_w, i32_w]
          rfl
        refine pure_ (i := 16) (N := some 47) (v := undef) (a' := ?_) #[true, true, true, true, true, true, true, true, true, true, true, true, true, true, true, true, true, false, false, false, false] rfl rfl (by kernel_rfl) (fun _ _ _ h => h) (Or.inr ⟨by rfl, rfl⟩) ?_ ?_
        rotate_left
        · simp only [Act.put, List.setIfInBounds_toArray, List.set_cons_zero, List.set_cons_succ, i64_w, i32_w]
          rfl
        refine pure_ (i := 17) (N := some 48) (v := undef) (a' := ?_) #[true, true, true, true, true, true, true, true, true, true, true, true, true, true, true, true, true, true, false, false, false] rfl rfl (by kernel_rfl) (fun _ _ _ h => h) (Or.inr ⟨by rfl, rfl⟩) ?_ ?_
        rotate_left
        · simp only [Act.put, List.setIfInBounds_toArray, List.set_cons_zero, List.set_cons_succ, i64_w, i32_w]
          rfl
        refine pure_ (i := 18) (N := some 49) (v := undef) (a' := ?_) #[true, true, true, true, true, true, true, true, true, true, true, true, true, true, true, true, true, true, true, false, false] rfl rfl (by kernel_rfl) (fun _ _ _ h => h) (Or.inr ⟨by rfl, rfl⟩) ?_ ?_
        rotate_left
        · simp only [Act.put, List.setIfInBounds_toArray, List.set_cons_zero, List.set_cons_succ, i64_w, i32_w]
          rfl
        refine pure_ (i := 19) (N := some 50) (v := undef) (a' := ?_) #[true, true, true, true, true, true, true, true, true, true, true, true, true, true, true, true, true, true, true, true, false] rfl rfl (by kernel_rfl) (fun _ _ _ h => h) (Or.inr ⟨by rfl, rfl⟩) ?_ ?_
        rotate_left
        · simp only [Act.put, List.setIfInBounds_toArray, List.set_cons_zero, List.set_cons_succ, i64_w, i32_w]
          rfl
        refine pure_ (i := 20) (N := some 51) (v := ?_) (a' := ?_) #[true, true, true, true, true, true, true, true, true, true, true, true, true, true, true, true, true, true, true, true, true] rfl rfl (by kernel_rfl) (fun _ _ _ h => h) (Or.inl ⟨by rfl, ?_⟩) ?_ ?_
        rotate_left
        · intro w'
          go_simp
          with_reducible rfl
        rotate_left
        · simp only [Act.put, List.setIfInBounds_toArray, List.set_cons_zero, List.set_cons_succ, i64_w, i32_w]
          rfl
        refine done_ (by kernel_rfl) ?_

        have HN := Lib.hid (HT.out.skip (e := ⟨u, v, cc⟩) (fun x hx => (HGF.out k x hx).1) (fun h => absurd h hT))
        clear q0 q1 r0 r1 r2 t0
        go_wp2_with fail
        go_round
        case rel => exact ⟨k + 1, pv, by omega, by go_num, by rw [HSN.out]; exact HN, HB6, HF6, HG6, HP6⟩
        case measure => simp [intOf]; omega
    · have HN : Hid (TI n es cost pv) := by
        have h := HT.out
        rw [List.take_of_length_le (by omega)] at h
        exact Lib.hid h
      go_wp2_with fail
      go_ret2
      exact ⟨P, pv, cost, rfl, HD.out, HN.out, HPr.out, HBr.out⟩

end Go.Proofs.Ytaaohfhcimndmaa.M
