/- Own lemmas: the walk of ShortMore. -/
import Derived.Test.YtaaohfhcimndmaaMShortT
import Derived.LoopTactic
import Derived.BigQuiet
import Derived.RegionTactic
import Derived.BigRegion
namespace Go.Proofs.Ytaaohfhcimndmaa.M
open Go.RowKit Go.Proofs.YtaaohfhcimndmaaW.PrintWords Go.Proofs.YtaaohfhcimndmaaW.PrintLast Go.Proofs.YtaaohfhcimndmaaW.PrintMore 
set_option linter.unusedVariables false
set_option linter.unusedSimpArgs false

open Go.Proofs.Ytaaohfhcimndmaa.PAreaAnnounced
theorem some23_ten (A : Option Addr) (ls L : List S46) (c : Nat) (hL : Hid (L = ls.take 10)) (hn : ls.length ≤ c) (w : World) : Calls Try.prog 23 #[.slice A ls.length c, .int .i64 10] w fun e w' => e = .returned (.slice A L.length c) ∧ w = w' := some23_any A ls L c 10 hL hn w
set_option maxHeartbeats 1000000 in
set_option maxRecDepth 100000 in
theorem Clone22_some (ad : Addr) (c : Nat) (ls : List S46) (w : World) (hn : ls.length ≤ 1000) (hK : Hid (Kd.C k46 w (some ad) ls.length ls)) :
    Calls Try.prog 22 #[.slice (some ad) ls.length c] w fun e w' => ∃ v, e = .returned v ∧ Kd.R k46 46 w' w.heap.size (fun k => w.heap.size ≤ k) v ls ∧ Below w.heap.size w w' := by
  have hu := Try.underlying40
  have hu2 := Try.underlying46
  have he : ∀ (n c : Nat) (W : World), Sem.run Try.prog (binOp BinOp.eql 40 (.slice (some ad) n c) (.slice none 0 0)) W = .ok (.bool false) W := fun n c W => by kernel_rfl
  go_enter Try.func22, Try.ntmps22
  have HB0 := Lib.hid (below_alloc (Below.refl w.heap.size w) (.cells #[] 46))
  have HRe : Hid (Kd.R k46 46 (w.alloc (.cells #[] 46)) w.heap.size (fun k => w.heap.size ≤ k) (.slice (some ⟨w.heap.size, 0, none⟩) 0 0) []) := Lib.hid ⟨fun k hk => by simp [Value.ownBlock] at hk; omega, OwnRow.lit w w.heap.size (inner := []) (Reps.none _ _) (Nat.le_refl _) (by simp)⟩
  have HRd := Lib.hid (show ReadsRow (k46.K w) k46.sz (w.alloc (.cells #[] 46)) (some ad) ls.length ls from ReadsRow.imp_ hK.out HB0.out (fun _ _ h => h))
  go_wp2_with ((with_reducible refine gate_builtin (b := .append) (xs := #[.tmp 5, .tmp 6]) rfl ?_); at_builtin; refine Kd.R_append_rows k46 (Rr := k46.K w) (w0 := w) w.heap.size rfl (.tmp 5) (.tmp 6) 40 46 (.agg #[.int .i64 0, .int .i64 0, .int .i64 0]) 24 rfl Try.underlying40 info46 rfl (show 0 < 3 from by decide) (by omega) _ [] ls (some ad) ls.length c (fun k => w.heap.size ≤ k) (fun _ => False) rfl rfl ?aO ?aC (fun x cs h => by rw [k46_open h]; exact k46_mkM _ _ _ x) (fun _ hk => hk.elim) ?aF ?aB ?aS ?aL ?_; (case aO => exact HRe.out); (case aC => exact HRd.out); (case aF => exact fun k hk => Nat.le_trans HB0.out.size hk); (case aB => exact HB0.out); (case aS => exact HB0.out.size); (case aL => simp; omega); intro v1 w1 ho hb hg hat; have HR1 := Lib.hid ho; have HB1 := Lib.hid hb; clear ho hb hg hat)
  go_ret
  exact ⟨_, rfl, HR1.out, HB1.out⟩
set_option maxHeartbeats 1000000 in
set_option maxRecDepth 100000 in
theorem Clone22_none (c : Nat) (w : World) :
    Calls Try.prog 22 #[.slice none 0 c] w fun e w' => ∃ v, e = .returned v ∧ Kd.R k46 46 w' w.heap.size (fun k => w.heap.size ≤ k) v [] ∧ Below w.heap.size w w' := by
  have hu := Try.underlying40
  have hu2 := Try.underlying46
  have he : ∀ (W : World), Sem.run Try.prog (binOp BinOp.eql 40 (.slice none 0 c) (.slice none 0 0)) W = .ok (.bool true) W := fun W => by kernel_rfl
  go_enter Try.func22, Try.ntmps22
  go_wp2_with fail
  go_ret
  exact ⟨_, rfl, Kd.R_nil _ _ _ _ _, Below.refl _ _⟩
theorem Clone22 (A : Option Addr) (c : Nat) (ls : List S46) (w : World) (hn : ls.length ≤ 1000) (hK : Hid (Kd.C k46 w A ls.length ls)) :
    Calls Try.prog 22 #[.slice A ls.length c] w fun e w' => ∃ A1 c1, e = .returned (.slice A1 ls.length c1) ∧ ls.length ≤ c1 ∧ Kd.R k46 46 w' w.heap.size (fun k => w.heap.size ≤ k) (.slice A1 ls.length c1) ls ∧ Below w.heap.size w w' := by
  have fin : ∀ (e : Ending) (w' : World), (∃ v, e = .returned v ∧ Kd.R k46 46 w' w.heap.size (fun k => w.heap.size ≤ k) v ls ∧ Below w.heap.size w w') → ∃ A1 c1, e = .returned (.slice A1 ls.length c1) ∧ ls.length ≤ c1 ∧ Kd.R k46 46 w' w.heap.size (fun k => w.heap.size ≤ k) (.slice A1 ls.length c1) ls ∧ Below w.heap.size w w' := by
    rintro e w' ⟨v, rfl, hR, hb⟩
    obtain ⟨A1, c1, rfl, hl, _⟩ := Kd.R_reads hR
    exact ⟨A1, c1, rfl, hl, hR, hb⟩
  cases A with
  | some ad => exact (Clone22_some ad c ls w hn hK).mono fin
  | none =>
    rcases Nat.eq_zero_or_pos ls.length with h0 | h0
    · have hx : ls = [] := List.eq_nil_of_length_eq_zero h0
      subst hx
      exact (Clone22_none c w).mono fin
    · obtain ⟨ad, e, _⟩ := C46_cell hK.out h0
      cases e
theorem C46_one {W : World} {g : Nat} {x : S46} (h : W.heap[g]? = some (.cells #[.int .i64 x.f0, .int .i64 x.f1, .int .i64 x.f2] 46 (0, 0))) : Kd.C k46 W (some ⟨g, 0, none⟩) 1 [x] := by
  refine ⟨rfl, by decide, fun _ => ⟨_, rfl, fun j q hj => ?_⟩⟩
  rcases j with _ | j
  · obtain rfl : x = q := by simpa using hj
    refine ⟨[.int .i64 x.f0, .int .i64 x.f1, .int .i64 x.f2], rfl, k46_mk W x, fun i u hu => ?_⟩
    rw [add_plain, Nat.zero_mul, Nat.zero_add, blk_cell h i]
    rcases i with _ | _ | _ | i <;> first | exact hu | simp at hu
  · simp at hj
theorem Kd.R_up {W : World} {b1 b2 : Nat} {v : Value} {xs : List S46} (h : Kd.R k46 46 W b1 (fun k => b1 ≤ k) v xs) (hb : b2 ≤ b1) : Kd.R k46 46 W b2 (fun k => b2 ≤ k) v xs := by
  exact Kd.R_mono (Kd.R_lower h hb) (fun k hk => Nat.le_trans hb hk)
set_option maxHeartbeats 4000000 in
set_option maxRecDepth 100000 in
theorem ShortMore_walk (a : Int) (A : Option Addr) (c : Nat) (es : List S46) (g : Int) (x : S46) (w : World) (hle : es.length ≤ c) (hK : Kd.C k46 w A es.length es) :
    Calls Try.prog 6 #[.agg #[.int .i64 a, .slice A es.length c], .int .i64 g, .agg #[.int .i64 x.f0, .int .i64 x.f1, .int .i64 x.f2]] w fun e w' => e = .returned (.bool true) ∧ Below w.heap.size w w' := by
  have hu25 := Try.underlying25
  have hu40 := Try.underlying40
  have hu42 := Try.underlying42
  have hu46 := Try.underlying46
  have HK := Lib.hid hK
  have HLE := Lib.hid hle
  obtain ⟨hN1, hN8, _⟩ := fitN_range a
  clear hK hle
  go_enter Try.func6, Try.ntmps6
  go_wp2_with fail
  have HX := Lib.hid (blk_keep (below_alloc (Below.refl _ _) (.cells #[.int .i64 x.f0, .int .i64 x.f1, .int .i64 x.f2] 46)) (blk_alloc w (.cells #[.int .i64 a, .slice A es.length c] 42)))
  have HY := Lib.hid (blk_alloc_at (w.alloc (.cells #[.int .i64 a, .slice A es.length c] 42)) (.cells #[.int .i64 x.f0, .int .i64 x.f1, .int .i64 x.f2] 46) (n := w.heap.size + 1) (by simp))
  have HB := Lib.hid (below_self (below_alloc (Below.refl w.heap.size w) (.cells #[.int .i64 a, .slice A es.length c] 42)) (below_alloc (Below.refl _ _) (.cells #[.int .i64 x.f0, .int .i64 x.f1, .int .i64 x.f2] 46)))
  obtain ⟨p, Hp⟩ : ∃ b, Hid (b = w.heap.size) := ⟨_, Lib.hid rfl⟩
  obtain ⟨q, Hq⟩ : ∃ b, Hid (b = w.heap.size + 1) := ⟨_, Lib.hid rfl⟩
  have hpq : p ≠ q := by rw [Hp.out, Hq.out]; omega
  have HPQ := Lib.hid hpq
  have HPB := Lib.hid (show w.heap.size ≤ p from by rw [Hp.out]; omega)
  rw [← Hq.out] at HY
  rw [← Hp.out] at HX
  rw [← Hq.out]
  refine (lives18 _).mono ?_
  rintro e w1 ⟨rfl, hb1⟩
  have HB1 := Lib.hid (below_self HB.out hb1)
  have HX1 := Lib.hid (blk_keep hb1 HX.out)
  have HY1 := Lib.hid (blk_keep hb1 HY.out)
  rw [← Hp.out]
  obtain ⟨x0, x1, xf⟩ := blk_cells2 HX1.out
  have hxl := blk_lt HX1.out
  clear hb1 hpq
  go_wp2_with fail
  refine (fitted19 a 10 es A c w1 (by omega) HLE.out (Lib.hid (Kd.C_below HK.out HB1.out))).mono ?_
  rintro e w2 ⟨A1, c1, rfl, hl1, hR1, hb2⟩
  obtain ⟨N, HN⟩ : ∃ n, Hid (n = fitN a) := ⟨_, Lib.hid rfl⟩
  rw [← HN.out] at hN1 hN8 hl1 hR1
  rw [← HN.out]
  obtain ⟨L, HL⟩ : ∃ l, Hid (l = (es.take 10).map (fitE N)) := ⟨_, Lib.hid rfl⟩
  rw [← HL.out] at hl1 hR1
  rw [← HL.out]
  have hLl : L.length ≤ 10 := by rw [HL.out, List.length_map, List.length_take]; omega
  have HOK : Hid (GOk N L) := by rw [HL.out]; exact Lib.hid (fit_ok hN1 hN8 (by rw [List.length_take]; omega))
  have HB2 := Lib.hid (below_self HB1.out hb2)
  have HX2 := Lib.hid (blk_keep hb2 HX1.out)
  have HY2 := Lib.hid (blk_keep hb2 HY1.out)
  clear hb2 x0 x1 xf hxl
  have HR1 := Lib.hid hR1
  have HL1 := Lib.hid hl1
  clear hl1 hR1
  go_upto_region 4 with (fail)
  have hbe := below_alloc (Below.refl w2.heap.size w2) (.cells #[.int .i64 N, .slice A1 L.length c1] 42)
  have HZ3 := Lib.hid (blk_alloc w2 (.cells #[.int .i64 N, .slice A1 L.length c1] 42))
  have HX3 := Lib.hid (blk_keep hbe HX2.out)
  have HY3 := Lib.hid (blk_keep hbe HY2.out)
  have HB3 := Lib.hid (below_self HB2.out hbe)
  have HR3 := Lib.hid (Kd.R_below HR1.out hbe)
  obtain ⟨r, Hr⟩ : ∃ b, Hid (b = w2.heap.size) := ⟨_, Lib.hid rfl⟩
  have HPR := Lib.hid (show p ≠ r from by rw [Hr.out]; exact Nat.ne_of_lt (blk_lt HX2.out))
  rw [← Hr.out] at HZ3
  rw [← Hr.out]
  clear hbe
  generalize w2.alloc (.cells #[.int .i64 N, .slice A1 L.length c1] 42) = w3 at HX3 HY3 HZ3 HB3 HR3 ⊢
  obtain ⟨Ke, HKl⟩ : ∃ l, Hid (l = es.take 10) := ⟨_, Lib.hid rfl⟩
  have hKl : Ke.length ≤ 10 := by rw [HKl.out, List.length_take]; omega
  have hbd := below_drew (B := w3.heap.size) (Below.refl w3.heap.size w3)
  have HXd := Lib.hid (blk_keep hbd HX3.out)
  have HYd := Lib.hid (blk_keep hbd HY3.out)
  have HZd := Lib.hid (blk_keep hbd HZ3.out)
  have HBd := Lib.hid (below_self HB3.out hbd)
  have HRd := Lib.hid (Kd.R_below HR3.out hbd)
  have HCd : Hid (Kd.C k46 w3.drew A Ke.length Ke) := by rw [HKl.out]; exact Lib.hid (take_C 10 (Kd.C_below HK.out HBd.out))
  have x1 : w3.drew.cell? ⟨p, 1, none⟩ = some (.slice A es.length c) := blk_cell HXd.out 1
  have y0 : w3.drew.cell? ⟨q, 0, none⟩ = some (.int .i64 x.f0) := blk_cell HYd.out 0
  have y1 : w3.drew.cell? ⟨q, 1, none⟩ = some (.int .i64 x.f1) := blk_cell HYd.out 1
  have y2 : w3.drew.cell? ⟨q, 2, none⟩ = some (.int .i64 x.f2) := blk_cell HYd.out 2
  clear hbd
  refine start_ (n := 9) (S := fun w' => w'.cell? ⟨p, 1, none⟩ = some (.slice A es.length c) ∧ w'.cell? ⟨q, 0, none⟩ = some (.int .i64 x.f0) ∧ w'.cell? ⟨q, 1, none⟩ = some (.int .i64 x.f1) ∧ w'.cell? ⟨q, 2, none⟩ = some (.int .i64 x.f2)) (ds := [6, 8]) #[false, false, false, false, false, false, false, false, false] (by kernel_rfl) rfl rfl ⟨x1, y0, y1, y2⟩ (fun hHeld => ?_)
  generalize w3.drew = wd at HXd HYd HZd HBd HRd HCd x1 y0 y1 y2 hHeld ⊢
  have HXq := HXd
  have HYq := HYd
  have HCq := HCd
  have HBq := Lib.hid (Below.refl wd.heap.size wd)
  have s0 := x1
  have s1 := y0
  have s2 := y1
  have s3 := y2
  refine pure_ (i := 0) (N := some 19) (v := ?_) (a' := ?_) #[true, false, false, false, false, false, false, false, false] rfl rfl (by kernel_rfl) (fun _ _ _ h => h) (Or.inl ⟨by rfl, ?_⟩) ?_ ?_
  rotate_left
  · intro w'
    go_simp
    with_reducible rfl
  rotate_left
  · simp only [Act.put, List.setIfInBounds_toArray, List.set_cons_zero, List.set_cons_succ, i64_w, i32_w]
    rfl
  refine take_ (i := 1) (N := some 20) (v := ?_) (a' := ?_) #[true, true, false, false, false, false, false, false, false] rfl rfl (by kernel_rfl) (fun _ _ _ h => h) (Or.inl ⟨by rfl, ?_⟩) hHeld ?_ ?_
  rotate_left
  · rintro w' ⟨s0, s1, s2, s3⟩
    go_simp
    with_reducible rfl
  rotate_left
  · simp only [Act.put, List.setIfInBounds_toArray, List.set_cons_zero, List.set_cons_succ, i64_w, i32_w]
    rfl
  refine take_ (i := 4) (N := some 23) (v := ?_) (a' := ?_) #[true, true, false, false, true, false, false, false, false] rfl rfl (by kernel_rfl) (fun _ _ _ h => h) (Or.inl ⟨by rfl, ?_⟩) hHeld ?_ ?_
  rotate_left
  · rintro w' ⟨s0, s1, s2, s3⟩
    go_simp
    with_reducible rfl
  rotate_left
  · simp only [Act.put, List.setIfInBounds_toArray, List.set_cons_zero, List.set_cons_succ, i64_w, i32_w]
    rfl
  refine join_ (σ := Option Addr × Nat × Nat) 3 #[true, true, true, true, true, true, false, false, false] (fun s => [(21, .slice A Ke.length c), (22, .slice s.1 Ke.length s.2.1), (24, .slice (some ⟨s.2.2, 0, none⟩) 1 1)]) (fun s w' => Hid (w'.heap[p]? = some (.cells #[.int .i64 a, .slice A es.length c] 42 (0, 0))) ∧ Hid (w'.heap[q]? = some (.cells #[.int .i64 x.f0, .int .i64 x.f1, .int .i64 x.f2] 46 (0, 0))) ∧ Hid (Below wd.heap.size wd w') ∧ Hid (Kd.R k46 46 w' wd.heap.size (fun k => wd.heap.size ≤ k) (.slice s.1 Ke.length s.2.1) Ke) ∧ Hid (w'.heap[s.2.2]? = some (.cells #[.int .i64 x.f0, .int .i64 x.f1, .int .i64 x.f2] 46 (0, 0)))) ?_ ?_
  rotate_left
  · intro hCont
    refine two_ (i := 2) (j := 5) (Ni := some 21) (Nj := some 24) #[true, true, true, false, true, false, false, false, false] #[true, true, false, false, true, true, false, false, false] rfl rfl rfl rfl (by kernel_rfl) (by decide) (by decide) (fun K hK => ?_) (fun K hK => ?_)
    · skip
      refine goes_ Try.func23 (by kernel_rfl) rfl #[.slice A es.length c, .int .i64 10] (by rfl) rfl rfl (by simp only [List.map_toArray, List.map_cons, List.map_nil]; rfl) ?_
      with_reducible refine (some23_ten A es Ke c HKl HLE.out _).mono ?_
      rintro e wz ⟨rfl, rfl⟩
      refine ⟨_, rfl, ?_⟩
      refine hK.out _ _ ⟨s0, s1, s2, s3⟩ (fun hHeld => ?_)
      clear hK K
      refine norm_ (a' := ?_) ?_ ?_
      rotate_left
      · show Act.put _ (some 21) _ = _
        simp only [Act.put, List.setIfInBounds_toArray, List.set_cons_zero, List.set_cons_succ, i64_w, i32_w]
        rfl
      refine two_ (i := 3) (j := 5) (Ni := some 22) (Nj := some 24) #[true, true, true, true, true, false, false, false, false] #[true, true, true, false, true, true, false, false, false] rfl rfl rfl rfl (by kernel_rfl) (by decide) (by decide) (fun K hK => ?_) (fun K hK => ?_)
      · skip
        refine goes_ Try.func22 (by kernel_rfl) rfl #[.slice A Ke.length c] (by rfl) rfl rfl (by simp only [List.map_toArray, List.map_cons, List.map_nil]; rfl) ?_
        with_reducible refine (Clone22 A c Ke _ (by omega) HCq).mono ?_
        rintro e w5 ⟨A5, c5, rfl, hl5, hR5, hb5⟩
        refine ⟨_, rfl, ?_⟩
        have HXq := Lib.hid (blk_keep hb5 HXq.out)
        have HYq := Lib.hid (blk_keep hb5 HYq.out)
        have HBq := Lib.hid (below_self HBq.out hb5)
        have HCq := Lib.hid (Kd.C_below HCq.out hb5)
        have HR5 := Lib.hid (Kd.R_up hR5 (Nat.le_refl _))
        clear hl5 hR5 hb5 s0 s1 s2 s3
        have s0 := blk_cell HXq.out 1
        have s1 := blk_cell HYq.out 0
        have s2 := blk_cell HYq.out 1
        have s3 := blk_cell HYq.out 2
        refine hK.out _ _ ⟨s0, s1, s2, s3⟩ (fun hHeld => ?_)
        clear hK K
        refine norm_ (a' := ?_) ?_ ?_
        rotate_left
        · show Act.put _ (some 22) _ = _
          simp only [Act.put, List.setIfInBounds_toArray, List.set_cons_zero, List.set_cons_succ, i64_w, i32_w]
          rfl
        refine one_ (i := 5) (N := some 24) #[true, true, true, true, true, true, false, false, false] rfl rfl (by kernel_rfl) (by decide) (fun K hK => ?_)
        refine value_ (w1 := ?_) (v := ?_) (by rfl) rfl ?_ ?_
        rotate_left 2
        · go_simp
          constructor
          · rfl
          · rfl
        have hbe := below_alloc (Below.refl (w5).heap.size w5) (.cells #[.int .i64 x.f0, .int .i64 x.f1, .int .i64 x.f2] 46)
        have HXq := Lib.hid (blk_keep hbe HXq.out)
        have HYq := Lib.hid (blk_keep hbe HYq.out)
        have HBq := Lib.hid (below_self HBq.out hbe)
        have HCq := Lib.hid (Kd.C_below HCq.out hbe)
        have HGq := Lib.hid (blk_alloc w5 (.cells #[.int .i64 x.f0, .int .i64 x.f1, .int .i64 x.f2] 46))
        have HR5 := Lib.hid (Kd.R_below HR5.out hbe)
        clear hbe s0 s1 s2 s3
        have s0 := blk_cell HXq.out 1
        have s1 := blk_cell HYq.out 0
        have s2 := blk_cell HYq.out 1
        have s3 := blk_cell HYq.out 2
        refine hK.out _ _ ⟨s0, s1, s2, s3⟩ (fun hHeld => ?_)
        clear hK K
        refine norm_ (a' := ?_) ?_ ?_
        rotate_left
        · show Act.put _ (some 24) _ = _
          simp only [Act.put, List.setIfInBounds_toArray, List.set_cons_zero, List.set_cons_succ, i64_w, i32_w]
          rfl
        exact norm_ (by simp only [putAll, Act.put, List.setIfInBounds_toArray, List.set_cons_zero, List.set_cons_succ]) (hCont (A5, c5, w5.heap.size) _ ⟨HXq, HYq, HBq, HR5, HGq⟩)
      · skip
        refine value_ (w1 := ?_) (v := ?_) (by rfl) rfl ?_ ?_
        rotate_left 2
        · go_simp
          constructor
          · rfl
          · rfl
        have hbe := below_alloc (Below.refl (wd).heap.size wd) (.cells #[.int .i64 x.f0, .int .i64 x.f1, .int .i64 x.f2] 46)
        have HXq := Lib.hid (blk_keep hbe HXq.out)
        have HYq := Lib.hid (blk_keep hbe HYq.out)
        have HBq := Lib.hid (below_self HBq.out hbe)
        have HCq := Lib.hid (Kd.C_below HCq.out hbe)
        have HGq := Lib.hid (blk_alloc wd (.cells #[.int .i64 x.f0, .int .i64 x.f1, .int .i64 x.f2] 46))
        clear hbe s0 s1 s2 s3
        have s0 := blk_cell HXq.out 1
        have s1 := blk_cell HYq.out 0
        have s2 := blk_cell HYq.out 1
        have s3 := blk_cell HYq.out 2
        refine hK.out _ _ ⟨s0, s1, s2, s3⟩ (fun hHeld => ?_)
        clear hK K
        refine norm_ (a' := ?_) ?_ ?_
        rotate_left
        · show Act.put _ (some 24) _ = _
          simp only [Act.put, List.setIfInBounds_toArray, List.set_cons_zero, List.set_cons_succ, i64_w, i32_w]
          rfl
        refine one_ (i := 3) (N := some 22) #[true, true, true, true, true, true, false, false, false] rfl rfl (by kernel_rfl) (by decide) (fun K hK => ?_)
        refine goes_ Try.func22 (by kernel_rfl) rfl #[.slice A Ke.length c] (by rfl) rfl rfl (by simp only [List.map_toArray, List.map_cons, List.map_nil]; rfl) ?_
        with_reducible refine (Clone22 A c Ke _ (by omega) HCq).mono ?_
        rintro e w5 ⟨A5, c5, rfl, hl5, hR5, hb5⟩
        refine ⟨_, rfl, ?_⟩
        have HXq := Lib.hid (blk_keep hb5 HXq.out)
        have HYq := Lib.hid (blk_keep hb5 HYq.out)
        have HBq := Lib.hid (below_self HBq.out hb5)
        have HCq := Lib.hid (Kd.C_below HCq.out hb5)
        have HGq := Lib.hid (blk_keep hb5 HGq.out)
        have HR5 := Lib.hid (Kd.R_up hR5 ((below_alloc (Below.refl wd.heap.size wd) (.cells #[.int .i64 x.f0, .int .i64 x.f1, .int .i64 x.f2] 46)).size))
        clear hl5 hR5 hb5 s0 s1 s2 s3
        have s0 := blk_cell HXq.out 1
        have s1 := blk_cell HYq.out 0
        have s2 := blk_cell HYq.out 1
        have s3 := blk_cell HYq.out 2
        refine hK.out _ _ ⟨s0, s1, s2, s3⟩ (fun hHeld => ?_)
        clear hK K
        refine norm_ (a' := ?_) ?_ ?_
        rotate_left
        · show Act.put _ (some 22) _ = _
          simp only [Act.put, List.setIfInBounds_toArray, List.set_cons_zero, List.set_cons_succ, i64_w, i32_w]
          rfl
        exact norm_ (by simp only [putAll, Act.put, List.setIfInBounds_toArray, List.set_cons_zero, List.set_cons_succ]) (hCont (A5, c5, wd.heap.size) _ ⟨HXq, HYq, HBq, HR5, HGq⟩)
    · skip
      refine value_ (w1 := ?_) (v := ?_) (by rfl) rfl ?_ ?_
      rotate_left 2
      · go_simp
        constructor
        · rfl
        · rfl
      have hbe := below_alloc (Below.refl (wd).heap.size wd) (.cells #[.int .i64 x.f0, .int .i64 x.f1, .int .i64 x.f2] 46)
      have HXq := Lib.hid (blk_keep hbe HXq.out)
      have HYq := Lib.hid (blk_keep hbe HYq.out)
      have HBq := Lib.hid (below_self HBq.out hbe)
      have HCq := Lib.hid (Kd.C_below HCq.out hbe)
      have HGq := Lib.hid (blk_alloc wd (.cells #[.int .i64 x.f0, .int .i64 x.f1, .int .i64 x.f2] 46))
      clear hbe s0 s1 s2 s3
      have s0 := blk_cell HXq.out 1
      have s1 := blk_cell HYq.out 0
      have s2 := blk_cell HYq.out 1
      have s3 := blk_cell HYq.out 2
      refine hK.out _ _ ⟨s0, s1, s2, s3⟩ (fun hHeld => ?_)
      clear hK K
      refine norm_ (a' := ?_) ?_ ?_
      rotate_left
      · show Act.put _ (some 24) _ = _
        simp only [Act.put, List.setIfInBounds_toArray, List.set_cons_zero, List.set_cons_succ, i64_w, i32_w]
        rfl
      refine one_ (i := 2) (N := some 21) #[true, true, true, false, true, true, false, false, false] rfl rfl (by kernel_rfl) (by decide) (fun K hK => ?_)
      refine goes_ Try.func23 (by kernel_rfl) rfl #[.slice A es.length c, .int .i64 10] (by rfl) rfl rfl (by simp only [List.map_toArray, List.map_cons, List.map_nil]; rfl) ?_
      with_reducible refine (some23_ten A es Ke c HKl HLE.out _).mono ?_
      rintro e wz ⟨rfl, rfl⟩
      refine ⟨_, rfl, ?_⟩
      refine hK.out _ _ ⟨s0, s1, s2, s3⟩ (fun hHeld => ?_)
      clear hK K
      refine norm_ (a' := ?_) ?_ ?_
      rotate_left
      · show Act.put _ (some 21) _ = _
        simp only [Act.put, List.setIfInBounds_toArray, List.set_cons_zero, List.set_cons_succ, i64_w, i32_w]
        rfl
      refine one_ (i := 3) (N := some 22) #[true, true, true, true, true, true, false, false, false] rfl rfl (by kernel_rfl) (by decide) (fun K hK => ?_)
      refine goes_ Try.func22 (by kernel_rfl) rfl #[.slice A Ke.length c] (by rfl) rfl rfl (by simp only [List.map_toArray, List.map_cons, List.map_nil]; rfl) ?_
      with_reducible refine (Clone22 A c Ke _ (by omega) HCq).mono ?_
      rintro e w5 ⟨A5, c5, rfl, hl5, hR5, hb5⟩
      refine ⟨_, rfl, ?_⟩
      have HXq := Lib.hid (blk_keep hb5 HXq.out)
      have HYq := Lib.hid (blk_keep hb5 HYq.out)
      have HBq := Lib.hid (below_self HBq.out hb5)
      have HCq := Lib.hid (Kd.C_below HCq.out hb5)
      have HGq := Lib.hid (blk_keep hb5 HGq.out)
      have HR5 := Lib.hid (Kd.R_up hR5 ((below_alloc (Below.refl wd.heap.size wd) (.cells #[.int .i64 x.f0, .int .i64 x.f1, .int .i64 x.f2] 46)).size))
      clear hl5 hR5 hb5 s0 s1 s2 s3
      have s0 := blk_cell HXq.out 1
      have s1 := blk_cell HYq.out 0
      have s2 := blk_cell HYq.out 1
      have s3 := blk_cell HYq.out 2
      refine hK.out _ _ ⟨s0, s1, s2, s3⟩ (fun hHeld => ?_)
      clear hK K
      refine norm_ (a' := ?_) ?_ ?_
      rotate_left
      · show Act.put _ (some 22) _ = _
        simp only [Act.put, List.setIfInBounds_toArray, List.set_cons_zero, List.set_cons_succ, i64_w, i32_w]
        rfl
      exact norm_ (by simp only [putAll, Act.put, List.setIfInBounds_toArray, List.set_cons_zero, List.set_cons_succ]) (hCont (A5, c5, wd.heap.size) _ ⟨HXq, HYq, HBq, HR5, HGq⟩)
  rintro ⟨A5, c5, g5⟩ w6 ⟨HX6, HY6, HB6, HR6, HG6⟩
  have hHeld : w6.cell? ⟨p, 1, none⟩ = some (.slice A es.length c) ∧ w6.cell? ⟨q, 0, none⟩ = some (.int .i64 x.f0) ∧ w6.cell? ⟨q, 1, none⟩ = some (.int .i64 x.f1) ∧ w6.cell? ⟨q, 2, none⟩ = some (.int .i64 x.f2) := ⟨blk_cell HX6.out 1, blk_cell HY6.out 0, blk_cell HY6.out 1, blk_cell HY6.out 2⟩
  refine norm_ (a' := ?_) ?_ ?_
  rotate_left
  · simp only [putAll, Act.put, List.setIfInBounds_toArray, List.set_cons_zero, List.set_cons_succ]
    rfl
  refine last_ (i := 6) (N := some 25) #[true, true, true, true, true, true, true, false, false] rfl rfl (by kernel_rfl) (by decide) (fun K hK => ?_)
  refine Kd.R_append_rows_step k46 (Rr := k46.K w6) (w0 := wd) wd.heap.size (by rfl) (.tmp 22) (.tmp 24) 40 46 (.agg #[.int .i64 0, .int .i64 0, .int .i64 0]) 24 rfl Try.underlying40 info46 rfl (show 0 < 3 from by decide) (by omega) (.slice A5 Ke.length c5) Ke [x] (some ⟨g5, 0, none⟩) 1 1 (fun k => wd.heap.size ≤ k) (fun _ => False) rfl rfl HR6.out (C46_one HG6.out) (fun x cs h => by rw [k46_open h]; exact k46_mkM _ _ _ x) (fun _ hk => hk.elim) (fun k hk => Nat.le_trans HB6.out.size hk) HB6.out HB6.out.size (by omega) ?_
  intro v7 w7 ho hb hg hat
  obtain ⟨M, HM⟩ : ∃ L2, Hid (L2 = Ke ++ [x]) := ⟨_, Lib.hid rfl⟩
  rw [← HM.out] at ho
  obtain ⟨A6, c6, rfl, hle6, _⟩ := Kd.R_reads ho
  have HX6 := Lib.hid (blk_keep hb HXd.out)
  have HZ6 := Lib.hid (blk_keep hb HZd.out)
  have HB6 := Lib.hid (below_self HBd.out hb)
  have HR6 := Lib.hid (Kd.R_below HRd.out hb)
  have HM6 := Lib.hid ho
  have HL6 := Lib.hid hle6
  have s1 := blk_cell HX6.out 1
  have sf := blk_free HX6.out 1
  clear ho hb hg hat hle6
  refine hK.out _ _ ?_
  clear hK K
  refine norm_ (a' := ?_) ?_ ?_
  rotate_left
  · show Act.put _ (some 25) _ = _
    simp only [Act.put, List.setIfInBounds_toArray, List.set_cons_zero, List.set_cons_succ, i64_w, i32_w]
    rfl
  refine pure_ (i := 7) (N := some 26) (v := ?_) (a' := ?_) #[true, true, true, true, true, true, true, true, false] rfl rfl (by kernel_rfl) (fun _ _ _ h => h) (Or.inl ⟨by rfl, ?_⟩) ?_ ?_
  rotate_left
  · intro w'
    go_simp
    with_reducible rfl
  rotate_left
  · simp only [Act.put, List.setIfInBounds_toArray, List.set_cons_zero, List.set_cons_succ, i64_w, i32_w]
    rfl
  refine last_ (i := 8) (N := none) #[true, true, true, true, true, true, true, true, true] rfl rfl (by kernel_rfl) (by decide) (fun K hK => ?_)
  refine skip_ (w1 := ?_) (by rfl) rfl ?_ ?_
  rotate_left
  · go_simp
    rfl
  refine hK.out _ _ ?_
  clear hK K
  refine done_ (by kernel_rfl) ?_

  have HX7 := Lib.hid (blk_set HX6.out 1 (.slice A6 M.length c6))
  have HZ7 := Lib.hid ((Below.heap_setCell w7 ⟨p, 1, none⟩ (.slice A6 M.length c6) _ (fun h => HPR.out h.symm)).trans HZ6.out)
  have HB7 := Lib.hid (Below.setCell HB6.out (p := ⟨p, 1, none⟩) HPB.out (.slice A6 M.length c6))
  have HR7 := Lib.hid (Kd.R_set HR6.out HX6.out (by decide) 1 (.slice A6 M.length c6))
  have HM7 := Lib.hid (Kd.R_set HM6.out HX6.out (by decide) 1 (.slice A6 M.length c6))

  have HML : Hid (Ke.length ≤ 10) := Lib.hid hKl
  have hMl : M.length ≤ 11 := by rw [HM.out, List.length_append]; simp; omega
  clear s1 sf
  generalize w7.setCell ⟨p, 1, none⟩ (.slice A6 M.length c6) = w8 at HX7 HZ7 HB7 HR7 HM7 ⊢
  obtain ⟨x0, x1, xf⟩ := blk_cells2 HX7.out
  have hxl := blk_lt HX7.out
  have HMC := Lib.hid (Kd.R_reads' HM7.out).2.2
  go_wp2_with fail
  refine (fitted19 a 11 M A6 c6 w8 (by omega) HL6.out HMC).mono ?_
  rw [← HN.out, List.take_of_length_le hMl]
  rintro e w9 ⟨A9, c9, rfl, hl9, hR9, hb9⟩
  obtain ⟨L2, HL2⟩ : ∃ l, Hid (l = M.map (fitE N)) := ⟨_, Lib.hid rfl⟩
  rw [← HL2.out] at hl9 hR9
  rw [← HL2.out]
  have HOK2 : Hid (GOk N L2) := by rw [HL2.out]; exact Lib.hid (fit_ok hN1 hN8 (by omega))
  have HSUB : Hid (∀ e ∈ L, e ∈ L2) := Lib.hid (by
    rw [HL2.out, HL.out, HM.out, ← HKl.out, List.map_append]
    exact fun e he => List.mem_append_left _ he)
  have hL2l : L2.length ≤ 11 := by rw [HL2.out, List.length_map]; exact hMl
  have HB9 := Lib.hid (below_self HB7.out hb9)
  have HZ9 := Lib.hid (blk_keep hb9 HZ7.out)
  have HR9 := Lib.hid hR9
  have HL9 := Lib.hid hl9
  have HC9 := Lib.hid (Kd.C_below (Kd.R_reads' HR7.out).2.2 hb9)
  clear hb9 x0 x1 xf hxl hl9 hR9
  go_upto_region 6 with (fail)
  have hbe := below_alloc (Below.refl w9.heap.size w9) (.cells #[.int .i64 N, .slice A9 L2.length c9] 42)
  have HY10 := Lib.hid (blk_alloc w9 (.cells #[.int .i64 N, .slice A9 L2.length c9] 42))
  have HZ10 := Lib.hid (blk_keep hbe HZ9.out)
  have HB10 := Lib.hid (below_self HB9.out hbe)
  have HD10 := Lib.hid (Kd.C_below (Kd.R_reads' HR9.out).2.2 hbe)
  have HC10 := Lib.hid (Kd.C_below HC9.out hbe)
  obtain ⟨s, Hs⟩ : ∃ b, Hid (b = w9.heap.size) := ⟨_, Lib.hid rfl⟩
  rw [← Hs.out] at HY10
  rw [← Hs.out]
  clear hbe
  generalize w9.alloc (.cells #[.int .i64 N, .slice A9 L2.length c9] 42) = w10 at HY10 HZ10 HB10 HC10 HD10 ⊢
  obtain ⟨z0, z1, zf⟩ := blk_cells2 HZ10.out
  have hzl := blk_lt HZ10.out
  go_wp2_with fail
  refine (node20 N g A1 L.length c1 _ hN1 hN8).mono ?_
  rintro e w11 ⟨rfl, hb⟩
  have hg0 := fitV_range hN1 g
  obtain ⟨gv, hgv⟩ : ∃ v : Nat, fitV N g = v := ⟨(fitV N g).toNat, by omega⟩
  rw [hgv]
  have hgn : gv < N := by omega
  have HB11 := Lib.hid (below_self HB10.out hb)
  have HZ11 := Lib.hid (blk_keep hb HZ10.out)
  have HY11 := Lib.hid (blk_keep hb HY10.out)
  have HC11 := Lib.hid (Kd.C_below HC10.out hb)
  have HD11 := Lib.hid (Kd.C_below HD10.out hb)
  clear hb hg0 hgv z0 z1 zf hzl
  obtain ⟨z0, z1, zf⟩ := blk_cells2 HZ11.out
  have hzl := blk_lt HZ11.out
  go_wp2_with fail
  refine (Costs21 N gv L A1 c1 w11 HOK.out hgn HL1.out HC11).mono ?_
  rintro e w12 ⟨G1, ca, rfl, hD, hGl, hGc, hb⟩
  have HDa := Lib.hid hD
  have HG12 := Lib.hid hGc
  have HB12 := Lib.hid (below_self HB11.out hb)
  have HY12 := Lib.hid (blk_keep hb HY11.out)
  have HD12 := Lib.hid (Kd.C_below HD11.out hb)
  clear hD hGl hGc hb z0 z1 zf hzl
  obtain ⟨z0, z1, zf⟩ := blk_cells2 HY12.out
  have hzl := blk_lt HY12.out
  go_wp2_with fail
  refine (Costs21 N gv L2 A9 c9 w12 HOK2.out hgn HL9.out HD12).mono ?_
  rintro e w13 ⟨G2, cb, rfl, hD, hGl, hGc, hb⟩
  have HDb := Lib.hid hD
  have HGb := Lib.hid hGc
  have HGa := Lib.hid (blk_keep hb HG12.out)
  have HB13 := Lib.hid (below_self HB12.out hb)
  clear hD hGl hGc hb z0 z1 zf hzl
  go_wp2_with fail
  go_loopw [59] (fun u wr => ∃ k : Nat, k ≤ N ∧ u = .int .i64 k ∧ Hid (Below w13.heap.size w13 wr)) (fun u _ => N - (intOf u).toNat)
  case atStart => exact ⟨0, Nat.zero_le _, rfl, Lib.hid (Below.refl _ _)⟩
  case round =>
    obtain ⟨k, hk, rfl, HBr⟩ := hrel
    by_cases hlt : k < N
    · have g1 := row_cell (blk_keep HBr.out HGa.out) (i := k) (by rw [HDa.out.cl]; exact hlt)
      have g2 := row_cell (blk_keep HBr.out HGb.out) (i := k) (by rw [HDb.out.cl]; exact hlt)
      have hm := dist_more HSUB.out HDa.out HDb.out (v := (k : Int)) (by omega) (by omega)
      obtain ⟨va, Hva⟩ : ∃ v, Hid (v = rd ca k) := ⟨_, Lib.hid rfl⟩
      obtain ⟨vb, Hvb⟩ : ∃ v, Hid (v = rd cb k) := ⟨_, Lib.hid rfl⟩
      rw [← Hva.out] at g1 hm
      rw [← Hvb.out] at g2 hm
      have hkn : (k : Int) < N := by omega
      by_cases h0 : 0 ≤ va
      · obtain ⟨h1, h2⟩ := hm h0
        clear hm
        have d0 : decide (va ≥ 0) = true := decide_eq_true h0
        have d1 : decide (vb < 0) = false := decide_eq_false (by omega)
        have d2 : decide (vb > va) = false := decide_eq_false (by omega)
        go_wp2_with fail
        go_round
        case rel => exact ⟨k + 1, by omega, by go_num, HBr⟩
        case measure => simp [intOf]; omega
      · clear hm
        have d0 : decide (va ≥ 0) = false := decide_eq_false h0
        go_wp2_with fail
        go_round
        case rel => exact ⟨k + 1, by omega, by go_num, HBr⟩
        case measure => simp [intOf]; omega
    · go_wp2_with fail
      go_ret
      exact ⟨rfl, below_self HB13.out HBr.out⟩

end Go.Proofs.Ytaaohfhcimndmaa.M
