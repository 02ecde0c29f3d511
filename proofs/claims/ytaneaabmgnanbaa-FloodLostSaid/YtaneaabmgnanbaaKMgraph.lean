import Derived.Test.YtaneaabmgnanbaaKMbase2
import Derived.LoopTactic
import Derived.BigQuiet
import Derived.Deep.MidRow
namespace Go.Proofs.Ytaneaabmgnanbaa.M
open Go.RowKit Go.Proofs.YtaneaabmgnanbaaW.PrintWords Go.Proofs.YtaneaabmgnanbaaW.PrintLast Go.Proofs.YtaneaabmgnanbaaW.PrintMore Go.Proofs.Ytaneaabmgnanbaa.PAdvBack
set_option linter.unusedVariables false
set_option linter.unusedSimpArgs false
theorem ext4 (V : Array Value) (m : Nat) (v0 v1 v2 v3 : Value) (hs : m + 4 ≤ V.size) (h0 : V[m]? = some v0) (h1 : V[m + 1]? = some v1) (h2 : V[m + 2]? = some v2) (h3 : V[m + 3]? = some v3) : V.extract m (m + 4) = #[v0, v1, v2, v3] := by
 apply Array.ext_getElem?
 intro j
 rw [Array.getElem?_extract]
 rcases j with _ | _ | _ | _ | j
 · simp [h0]; omega
 · simp [h1]; omega
 · simp [h2]; omega
 · simp [h3]; omega
 · simp; omega
theorem idx90 (V : Array Value) (i : Nat) (v0 v1 v2 v3 : Value) (hi : i < 16) (hs : V.size = 64) (h0 : V[i * 4]? = some v0) (h1 : V[i * 4 + 1]? = some v1) (h2 : V[i * 4 + 2]? = some v2) (h3 : V[i * 4 + 3]? = some v3) (W : World) :
 (Instr.index 90 (.agg V) (.int .i64 i)).run Try.prog W = .ok (.agg #[v0, v1, v2, v3]) W := by
 have he := ext4 V (i * 4) v0 v1 v2 v3 (by omega) h0 h1 h2 h3
 have hu := Try.underlying90
 have hu2 := Try.underlying24
 have hi2 : (i : Int) < 16 := by omega
 simp [Instr.index, asIntOf, part, go_sem, hi2, he]
 intro h
 omega
theorem BaseAt.whole {w : World} {p : Nat} {f h} (H : BaseAt w p f h) : ∃ V : Array Value, V.size = 64 ∧ w.rangeAt p 0 V.toList ∧ ∀ i, i < 16 → ∃ A c, V[i * 4]? = some (.int .i64 (f i).f0) ∧ V[i * 4 + 1]? = some (.int .i64 (f i).f1) ∧ V[i * 4 + 2]? = some (.int .i64 (f i).f2) ∧ V[i * 4 + 3]? = some (.slice A (f i).f3.length c) ∧ (f i).f3.length ≤ c ∧ Kd.C k28 w A (f i).f3.length (f i).f3 := by
 obtain ⟨cs, hp, hs, hj⟩ := H
 have hV : ∀ j, j < 64 → (cs.extract 0 64)[j]? = cs[j]? := fun j h => by
  rw [Array.getElem?_extract, if_pos (by omega)]
  simp
 refine ⟨cs.extract 0 64, by simp [hs], fun j v hv => ?_, fun i hi => ?_⟩
 · rw [Array.getElem?_toList] at hv
   have hl : j < 64 := by
    obtain ⟨h, _⟩ := Array.getElem?_eq_some_iff.1 hv
    simp [hs] at h
    exact h
   rw [hV j hl] at hv
   rw [Nat.zero_add]
   exact (blk_cell hp j).trans hv
 · obtain ⟨a, b, c, d, A, n, e, l, hC⟩ := hj i hi
   exact ⟨A, n, (hV _ (by omega)).trans a, (hV _ (by omega)).trans b, (hV _ (by omega)).trans c, (hV _ (by omega)).trans e, l, hC w (KA.refl w)⟩
structure S52 where
 f0 : Int
 f1 : Int
 f2 : Int
def z52 : S52 := ⟨0, 0, 0⟩
def k52 : Kd S52 := Kd.iso (Kd.pair (Kd.int .i64) (Kd.pair (Kd.int .i64) (Kd.int .i64))) (fun x : S52 => (x.f0, x.f1, x.f2))
theorem k52_mkM (w : World) (base : Nat) (ok : Nat → Prop) (x : S52) : k52.M w base ok x [.int .i64 x.f0, .int .i64 x.f1, .int .i64 x.f2] :=
 ⟨[.int .i64 x.f0], [.int .i64 x.f1, .int .i64 x.f2], rfl, rfl, [.int .i64 x.f1], [.int .i64 x.f2], rfl, rfl, rfl⟩
theorem info52 : (Try.prog.info? 52).map (fun i => (i.zero, i.size, i.bytes)) = some (some (.agg #[.int .i64 0, .int .i64 0, .int .i64 0]), 3, 24) := by kernel_rfl
theorem size90 : (Try.prog.info? 90).map (·.size) = some 64 := by kernel_rfl
def lnk (d : Db) (i : Nat) (x : S28) : List S52 := if nm d.1 d.2 i x.f0 && nm d.1 d.2 x.f0.toNat i then [⟨i, x.f0, x.f1⟩] else []
def edgesOf (d : Db) (n : Nat) : List S52 := (List.range n).flatMap fun i => (d.1 i).f3.flatMap (lnk d i)
theorem lnk_le (d : Db) (i : Nat) (x : S28) : (lnk d i x).length ≤ 1 := by unfold lnk; split <;> simp
theorem flat_le (d : Db) (i : Nat) (ls : List S28) : (ls.flatMap (lnk d i)).length ≤ ls.length := by
 induction ls with
 | nil => simp
 | cons a l ih => rw [List.flatMap_cons, List.length_append, List.length_cons]; have := lnk_le d i a; omega
theorem edges_le (d : Db) (hd : DbOk d) (n : Nat) : (edgesOf d n).length ≤ 16 * n := by
 unfold edgesOf
 induction n with
 | zero => simp
 | succ n ih =>
  rw [List.range_succ, List.flatMap_append, List.length_append]
  have := flat_le d n (d.1 n).f3
  have := (hd.valid n).1
  simp only [List.flatMap_cons, List.flatMap_nil, List.append_nil]
  omega
theorem edges_succ (d : Db) (n : Nat) : edgesOf d (n + 1) = edgesOf d n ++ (d.1 n).f3.flatMap (lnk d n) := by
 unfold edgesOf
 rw [List.range_succ, List.flatMap_append]
 simp
theorem lnk_take (d : Db) (i k : Nat) (ls : List S28) (hk : k < ls.length) : (ls.take (k + 1)).flatMap (lnk d i) = (ls.take k).flatMap (lnk d i) ++ lnk d i (ls.getD k z28) := by
 rw [List.take_add_one, List.flatMap_append]
 simp [List.getD_eq_getElem?_getD, hk]
theorem grown_box {w w' : World} {base g : Nat} {v : Value} {xs : List S52} {ok : Nat → Prop} (hR : Kd.R k52 52 w base ok v xs) (hg : w.grownBy w' v.ownBlock) (hlt : g < w.heap.size) (hok : ¬ ok g) : w'.heap[g]? = w.heap[g]? :=
 hg.block g hlt (fun e => hok (hR.1 g e.symm))
def GS (w wr : World) (es : List S52) : Prop := Below w.heap.size w wr ∧ wr.heap[w.heap.size]? = some (.cells #[.int .i64 0, .slice none 0 0] 46 (0, 0)) ∧ ∃ A c, wr.heap[w.heap.size + 1]? = some (.cells #[.int .i64 16, .slice A es.length c] 46 (0, 0)) ∧ es.length ≤ c ∧ Kd.R k52 52 wr w.heap.size (fun k => w.heap.size + 2 ≤ k) (.slice A es.length c) es
theorem GS.below {w wr w' : World} {es : List S52} (h : GS w wr es) (hb : Below wr.heap.size wr w') : GS w w' es := by
 obtain ⟨h1, h2, A, c, h3, h4, h5⟩ := h
 exact ⟨h1.trans (hb.mono h1.size), blk_keep hb h2, A, c, blk_keep hb h3, h4, Kd.R_below h5 hb⟩
set_option maxHeartbeats 1000000 in
set_option maxRecDepth 100000 in
theorem Graph22 (p : Nat) (d : Db) (hd : DbOk d) (w : World) (H : Hid (BaseAt w p d.1 d.2)) : Calls Try.prog 22 #[.pointer (some ⟨p, 0, none⟩)] w fun e w' => ∃ A c, e = .returned (.agg #[.int .i64 16, .slice A (edgesOf d 16).length c]) ∧ (edgesOf d 16).length ≤ c ∧ Kd.R k52 52 w' w.heap.size (fun k => w.heap.size ≤ k) (.slice A (edgesOf d 16).length c) (edgesOf d 16) ∧ Below w.heap.size w w' := by
 have hu46 := Try.underlying46
 have hu93 := Try.underlying93
 have hu24 := Try.underlying24
 have hu22 := Try.underlying22
 have hu28 := Try.underlying28
 have hlt := H.out.lt
 have HD := Lib.hid hd
 clear hd
 have HB1 := Lib.hid (((Below.refl w.heap.size w).alloc (Nat.le_refl _) (.cells #[.int .i64 0, .slice none 0 0] 46)).alloc (by simp) (.cells #[.int .i64 16, .slice none 0 0] 46))
 have HX1_0 := Lib.hid (show ((w.alloc (.cells #[.int .i64 0, .slice none 0 0] 46)).alloc (.cells #[.int .i64 16, .slice none 0 0] 46)).heap[w.heap.size]? = some (.cells #[.int .i64 0, .slice none 0 0] 46 (0, 0)) from blk_keep ((Below.refl _ _).alloc (Nat.le_refl _) _) (blk_alloc w _))
 have HX1_1 := Lib.hid (blk_alloc_at (w.alloc (.cells #[.int .i64 0, .slice none 0 0] 46)) (.cells #[.int .i64 16, .slice none 0 0] 46) (n := w.heap.size + 1) (by simp))
 obtain ⟨V, hVs, hVr, hVi⟩ := H.out.whole
 have HVS := Lib.hid hVs
 have HVR := Lib.hid (show ((w.alloc (.cells #[.int .i64 0, .slice none 0 0] 46)).alloc (.cells #[.int .i64 16, .slice none 0 0] 46)).rangeAt p 0 V.toList from fun j v hv => (HB1.out.cell (p := ⟨p, 0 + j, none⟩) hlt).trans (hVr j v hv))
 have HVI := Lib.hid hVi
 clear hVs hVr hVi
 go_enter Try.func22, Try.ntmps22
 go_wp2_with ((with_reducible refine gate_dst (N := 12) rfl ?_); refine wpList_load_mid rfl 90 (.tmp 11) rfl p 0 rfl V.toList (.array 16 24) HVR.out Try.underlying90 rfl (by rw [size90, Array.length_toList, HVS.out]) ?_)
 go_loopw [13] (fun i wr => ∃ k : Nat, k ≤ 16 ∧ i = .int .i64 k ∧ Hid (GS w wr (edgesOf d k))) (fun i _ => 16 - (intOf i).toNat)
 case atStart => exact ⟨0, Nat.zero_le _, rfl, Lib.hid ⟨HB1.out, HX1_0.out, none, 0, HX1_1.out, Nat.le_refl _, Kd.R_nil _ _ _ _ _⟩⟩
 case round =>
  obtain ⟨k, hk, rfl, HG⟩ := hrel
  by_cases hlt16 : k < 16
  · obtain ⟨A, c, v0, v1, v2, v3, hle, hC⟩ := HVI.out k hlt16
    have hix := idx90 V k _ _ _ _ hlt16 HVS.out v0 v1 v2 v3
    have HLE := Lib.hid hle
    have HC := Lib.hid hC
    clear v0 v1 v2 v3 hle hC
    have hki : (k : Int) < 16 := by omega
    have hll := (HD.out.valid k).1
    go_wp2_with fail
    have HBa := Lib.hid (below_alloc (Below.refl wr.heap.size wr) (.cells #[.int .i64 (d.1 k).f0, .int .i64 (d.1 k).f1, .int .i64 (d.1 k).f2, .slice A (d.1 k).f3.length c] 24))
    clear hix
    go_loopw [20] (fun i wr => ∃ m : Nat, m ≤ (d.1 k).f3.length ∧ i = .int .i64 m ∧ Hid (GS w wr (edgesOf d k ++ ((d.1 k).f3.take m).flatMap (lnk d k)))) (fun i _ => (d.1 k).f3.length - (intOf i).toNat)
    case atStart => exact ⟨0, Nat.zero_le _, rfl, Lib.hid (by rw [List.take_zero, List.flatMap_nil, List.append_nil]; exact HG.out.below HBa.out)⟩
    case round =>
     obtain ⟨m, hm, rfl, HGm⟩ := hrel
     by_cases hml : m < (d.1 k).f3.length
     · obtain ⟨ad, rfl, hcell⟩ := C28_cell (Kd.C_below HC.out HGm.out.1) (by omega)
       obtain ⟨x, Hx⟩ : ∃ x, Hid (x = (d.1 k).f3.getD m z28) := ⟨_, Lib.hid rfl⟩
       obtain ⟨q0, q1⟩ := hcell m hml
       rw [← Hx.out] at q0 q1
       have hmem : x ∈ (d.1 k).f3 := by rw [Hx.out, List.getD_eq_getElem?_getD, List.getElem?_eq_getElem hml]; exact List.getElem_mem hml
       have hxr := (HD.out.valid k).2 x hmem
       obtain ⟨j, hj⟩ : ∃ j : Nat, x.f0 = j := ⟨x.f0.toNat, by omega⟩
       have hj16 : j < 16 := by omega
       rw [hj] at q0
       have hlnk : lnk d k x = if nm d.1 d.2 k j && nm d.1 d.2 j k then [⟨k, j, x.f1⟩] else [] := by unfold lnk; rw [hj, Int.toNat_natCast]
       have hsnoc := lnk_take d k m (d.1 k).f3 hml
       rw [← Hx.out, hlnk] at hsnoc
       have HSN := Lib.hid hsnoc
       have hlen : (edgesOf d k ++ ((d.1 k).f3.take m).flatMap (lnk d k)).length ≤ 1000 := by
        rw [List.length_append]
        have h1 := edges_le d HD.out k
        have h2 := flat_le d k ((d.1 k).f3.take m)
        have h3 := hll
        rw [List.length_take] at h2
        omega
       obtain ⟨es, Hes⟩ : ∃ es, Hid (es = edgesOf d k ++ ((d.1 k).f3.take m).flatMap (lnk d k)) := ⟨_, Lib.hid rfl⟩
       rw [← Hes.out] at HGm hlen
       have HLEN := Lib.hid hlen
       clear hcell hmem hxr hj hlnk hsnoc hlen
       have hlk := (HD.out.valid k).1
       have hlj := (HD.out.valid j).1
       have HLK := Lib.hid (show (d.1 k).f3.length ≤ 1000 by omega)
       have HLJ := Lib.hid (show (d.1 j).f3.length ≤ 1000 by omega)
       clear hlk hlj
       have HB3 := Lib.hid (below_alloc (Below.refl wr.heap.size wr) (.cells #[.int .i64 j, .int .i64 x.f1] 28))
       have HX3 := Lib.hid (blk_alloc wr (.cells #[.int .i64 j, .int .i64 x.f1] 28))
       have HG3 := Lib.hid (HGm.out.below HB3.out)
       cases b1 : nm d.1 d.2 k j with
       | false =>
        have HB1' := Lib.hid b1
        rw [b1, Bool.false_and] at HSN
        clear b1
        go_wp2_with fail
        refine (names_any p k j d.1 d.2 _ hlt16 HLK.out (Lib.hid (H.out.below HG3.out.1))).mono ?_
        rw [HB1'.out]
        rintro e w4 ⟨rfl, hb4⟩
        have HG4 := Lib.hid (HG3.out.below hb4)
        clear hb4
        go_wp2_with fail
        go_round
        case rel => exact ⟨m + 1, by omega, by go_num, Lib.hid (by rw [HSN.out, if_neg (by simp), List.append_nil, ← Hes.out]; exact HG4.out)⟩
        case measure => simp [intOf]; omega
       | true =>
        have HB1' := Lib.hid b1
        rw [b1, Bool.true_and] at HSN
        clear b1
        cases b2 : nm d.1 d.2 j k with
        | false =>
         have HB2' := Lib.hid b2
         rw [b2] at HSN
         clear b2
         go_wp2_with fail
         refine (names_any p k j d.1 d.2 _ hlt16 HLK.out (Lib.hid (H.out.below HG3.out.1))).mono ?_
         rw [HB1'.out]
         rintro e w4 ⟨rfl, hb4⟩
         have HG4 := Lib.hid (HG3.out.below hb4)
         have HX4 := Lib.hid (blk_keep hb4 HX3.out)
         clear hb4
         have r0 := blk_cell HX4.out 0
         have r1 := blk_cell HX4.out 1
         go_wp2_with fail
         refine (names_any p j k d.1 d.2 _ hj16 HLJ.out (Lib.hid (H.out.below HG4.out.1))).mono ?_
         rw [HB2'.out]
         rintro e w5 ⟨rfl, hb5⟩
         have HG5 := Lib.hid (HG4.out.below hb5)
         clear hb5
         go_wp2_with fail
         go_round
         case rel => exact ⟨m + 1, by omega, by go_num, Lib.hid (by rw [HSN.out, if_neg (by simp), List.append_nil, ← Hes.out]; exact HG5.out)⟩
         case measure => simp [intOf]; omega
        | true =>
         have HB2' := Lib.hid b2
         rw [b2, if_pos rfl] at HSN
         clear b2
         go_wp2_with fail
         refine (names_any p k j d.1 d.2 _ hlt16 HLK.out (Lib.hid (H.out.below HG3.out.1))).mono ?_
         rw [HB1'.out]
         rintro e w4 ⟨rfl, hb4⟩
         have HG4 := Lib.hid (HG3.out.below hb4)
         have HX4 := Lib.hid (blk_keep hb4 HX3.out)
         clear hb4
         have r0 := blk_cell HX4.out 0
         have r1 := blk_cell HX4.out 1
         go_wp2_with fail
         refine (names_any p j k d.1 d.2 _ hj16 HLJ.out (Lib.hid (H.out.below HG4.out.1))).mono ?_
         rw [HB2'.out]
         rintro e w5 ⟨rfl, hb5⟩
         have HG5 := Lib.hid (HG4.out.below hb5)
         have HX5 := Lib.hid (blk_keep hb5 HX4.out)
         clear hb5 r0 r1
         have s0 := blk_cell HX5.out 0
         have s1 := blk_cell HX5.out 1
         obtain ⟨hB5, hz5, A5, c5, hg5, hle5, hR5⟩ := HG5.out
         have g0 := blk_cell hg5 0
         have g1 := blk_cell hg5 1
         have gf := blk_free hg5
         have hgl := blk_lt hg5
         have HZ5 := Lib.hid hz5
         have HBB5 := Lib.hid hB5
         have HGG5 := Lib.hid hg5
         have HR5 := Lib.hid hR5
         have HLE5 := Lib.hid hle5
         clear hB5 hz5 hg5 hle5 hR5
         go_wp2_with ((with_reducible refine gate_builtin (b := .append) (xs := #[.tmp 37, .tmp 44]) rfl ?_); at_builtin; refine Kd.R_append k52 (w0 := w) w.heap.size rfl (.tmp 37) (.tmp 44) 44 52 (.agg #[.int .i64 0, .int .i64 0, .int .i64 0]) 24 rfl Try.underlying44 info52 rfl (by decide) (by omega) (.slice A5 es.length c5) es ⟨k, j, x.f1⟩ [.int .i64 k, .int .i64 j, .int .i64 x.f1] (fun k => w.heap.size + 2 ≤ k) (fun _ => False) rfl rfl ?aP (fun _ hk => hk.elim) ?aF ?aO ?aB ?aS ?aL ?_; (case aP => exact k52_mkM _ _ _ ⟨k, j, x.f1⟩); (case aF => exact fun k hk => by omega); (case aO => exact HR5.out); (case aB => exact HBB5.out); (case aS => exact HBB5.out.size); (case aL => have := HLEN.out; omega); intro v6 w6 ho hb hg hat; obtain ⟨A6, c6, rfl, hle6, _⟩ := Kd.R_reads ho; have HR6 := Lib.hid ho; have HB6 := Lib.hid hb; have HLE6 := Lib.hid hle6; have HG6 := Lib.hid ((grown_box HR5.out hg hgl (by omega)).trans HGG5.out); have HZ6 := Lib.hid ((grown_box HR5.out hg (by omega) (by omega)).trans HZ5.out); clear ho hb hg hat hle6 g0 g1 gf s0 s1; have gf := blk_free HG6.out; have g1 := blk_cell HG6.out 1)
         go_round
         case rel =>
          refine ⟨m + 1, by omega, by go_num, Lib.hid ?_⟩
          rw [HSN.out, ← List.append_assoc, ← Hes.out]
          have e : (es ++ [(⟨k, j, x.f1⟩ : S52)]).length = es.length + 1 := by simp
          have hr := HR6.out
          have hl := HLE6.out
          rw [e] at hr hl
          refine ⟨Below.setCell HB6.out (by simp) _, (Below.heap_setCell w6 ⟨w.heap.size + 1, 1, none⟩ _ w.heap.size (by simp)).trans HZ6.out, A6, c6, ?_, ?_, ?_⟩
          · rw [e]; exact blk_set HG6.out 1 _
          · rw [e]; exact hl
          · rw [e]; exact Kd.R_far hr (fun q hq => by simp; omega) _
         case measure => simp [intOf]; omega
     · have hm2 : m = (d.1 k).f3.length := by omega
       have HM := Lib.hid hm2
       clear hm2
       go_wp2_with fail
       go_round
       case rel => exact ⟨k + 1, by omega, by go_num, Lib.hid (by rw [edges_succ]; have := HGm.out; rw [HM.out, List.take_length] at this; exact this)⟩
       case measure => simp [intOf]; omega
  · obtain rfl : k = 16 := by omega
    obtain ⟨hB5, hz5, A5, c5, hg5, hle5, hR5⟩ := HG.out
    obtain ⟨es, Hes⟩ : ∃ es, Hid (es = edgesOf d 16) := ⟨_, Lib.hid rfl⟩
    rw [← Hes.out] at hg5 hle5 hR5
    have g0 := blk_cell hg5 0
    have g1 := blk_cell hg5 1
    have gf := blk_free hg5
    have hgl := blk_lt hg5
    have z0 := blk_cell hz5 0
    have z1 := blk_cell hz5 1
    have zf := blk_free hz5
    have HZ5 := Lib.hid hz5
    have HBB5 := Lib.hid hB5
    have HR5 := Lib.hid hR5
    have HLE5 := Lib.hid hle5
    clear hB5 hz5 hg5 hle5 hR5
    go_wp2_with fail
    rw [← Hes.out]
    have HX6 := Lib.hid (show ((wr.setCell ⟨w.heap.size, 0, none⟩ (.int .i64 16)).setCell ⟨w.heap.size, 1, none⟩ (.slice A5 es.length c5)).heap[w.heap.size]? = some (.cells #[.int .i64 16, .slice A5 es.length c5] 46 (0, 0)) from blk_set (blk_set HZ5.out 0 _) 1 _)
    have HB6 := Lib.hid (Below.setCell (Below.setCell HBB5.out (p := ⟨w.heap.size, 0, none⟩) (by simp) (.int .i64 16)) (p := ⟨w.heap.size, 1, none⟩) (by simp) (.slice A5 es.length c5))
    have HR6 := Lib.hid (Kd.R_far (Kd.R_far HR5.out (p := ⟨w.heap.size, 0, none⟩) (fun q hq => by simp; omega) (.int .i64 16)) (p := ⟨w.heap.size, 1, none⟩) (fun q hq => by simp; omega) (.slice A5 es.length c5))
    generalize (wr.setCell ⟨w.heap.size, 0, none⟩ (.int .i64 16)).setCell ⟨w.heap.size, 1, none⟩ (.slice A5 es.length c5) = w7 at HX6 HB6 HR6 ⊢
    have y0 := blk_cell HX6.out 0
    have y1 := blk_cell HX6.out 1
    refine bodyPost_ret (v := .agg #[.int .i64 16, .slice A5 es.length c5]) (by simp [results, Try.results22, go_sem, y0, y1]) rfl ⟨A5, c5, rfl, HLE5.out, Kd.R_mono HR6.out (fun q hq => by omega), HB6.out⟩
end Go.Proofs.Ytaneaabmgnanbaa.M
