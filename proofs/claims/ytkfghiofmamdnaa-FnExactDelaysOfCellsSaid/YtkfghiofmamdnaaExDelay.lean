/- The delays of cells, on both sides: what the calls come to; no condition but what each theorem names. -/
import Derived.Test.YtkfghiofmamdnaaExDoneB
import Derived.Test.YtkfghiofmamdnaaPA33
namespace Go.Proofs.Ytkfghiofmamdnaa.PA
open Go.RowKit Go.Proofs.YtkfghiofmamdnaaW.PrintWords Go.Proofs.YtkfghiofmamdnaaW.PrintLast Go.Proofs.YtkfghiofmamdnaaW.PrintMore
attribute [local go_sem] max2_int min2_int max_two min_two max_three min_three max_four min_four
set_option linter.unusedVariables false
set_option linter.unusedSimpArgs false
namespace Ins
def hopsR (n : Int) (m : S60) : Int := Int.tmod (wrap64 (wrap64 (m.f2 - m.f1) + n)) n
def delOf (n : Int) (rdd ins : List Int) (ms : List S60) (j : Nat) : Int := wrap64 (wrap64 (rd rdd j - rd ins j) - hopsR n (rd_T60 ms j))
def delTo (n : Int) (rdd ins : List Int) (ms : List S60) : Nat → List Int
  | 0 => []
  | j + 1 => delTo n rdd ins ms j ++ [delOf n rdd ins ms j]
theorem delTo_len (n : Int) (rdd ins : List Int) (ms : List S60) : ∀ j, (delTo n rdd ins ms j).length = j
  | 0 => rfl
  | j + 1 => by rw [delTo, List.length_append, delTo_len n rdd ins ms j]; rfl
theorem tmod_wrap (a : Int) (N : Nat) (h2 : 2 ≤ N) (h12 : N ≤ 12) : IntKind.i64.wrap (a.tmod N) = a.tmod N := by
  have h := Int.tmod_eq_emod (a := a) (b := (N : Int))
  have h0 := Int.emod_nonneg a (show (N : Int) ≠ 0 by omega)
  have h1 := Int.emod_lt_of_pos a (show 0 < (N : Int) by omega)
  refine IntWalk.i64_in _ ?_
  split at h <;> omega
theorem below_next {w W w1 : World} (h : Below w.heap.size w W) (k : Below W.heap.size W w1) : Below w.heap.size w w1 := below_then h h.size k
end Ins
/-- What DelaysOfCells comes to, on both sides. -/
def delaysOfCellsR (n room : Int) (ow : Bool) (ms : List S60) : List Int × Bool :=
  if Ins.okI n room ms = true then (Ins.delTo n (Ins.stAt n.toNat room ow ms (Ins.doneN n.toNat room ow ms)).rdd (Ins.stAt n.toNat room ow ms (Ins.doneN n.toNat room ow ms)).ins ms ms.length, true) else ([], false)
def impl_DelaysOfCells.f (n room : Int) (ow : Bool) (ms : List S60) : Option (List Int × Bool) := if ms.length < 4611686018427387904 then some (delaysOfCellsR n room ow ms) else none
def spec_DelaysOfCells.f (n room : Int) (ow : Bool) (ms : List S60) : Option (List Int × Bool) := if ms.length < 4611686018427387904 then some (delaysOfCellsR n room ow ms) else none
def impl_DelaysOfCells.T7 : Bool × List (List Nat × List Nat) := (true, [([], []), ([], []), ([1], [1]), ([2], [2]), ([3], [3]), ([], []), ([4, 5], [4, 5]), ([6], [6]), ([], []), ([8], [8]), ([9], [9]), ([10], [10]), ([], []), ([11, 12], [11, 12]), ([13], [13]), ([7, 14], [7, 14]), ([], []), ([16], [16]), ([], []), ([17, 18], [17, 18]), ([15, 19], [15, 19]), ([20], [20]), ([0, 21, 19], [0, 21]), ([22, 22, 0, 1, 2, 3, 4, 5, 6, 7, 8, 9, 10, 11, 12, 13, 14, 15, 16, 17, 18, 19, 20, 21, 22], [0, 22])])
def impl_DelaysOfCells.B7 : List Nat := [0, 0, 2, 6, 14, 0, 62, 126, 0, 256, 768, 1792, 0, 7936, 16128, 32766, 0, 65536, 0, 458752, 1048574, 2097150, 4194303, 8388607]
theorem impl_DelaysOfCells.tab7 : rtab .any (opsOf Try.f41 7) = impl_DelaysOfCells.T7 := by kernel_rfl
theorem impl_DelaysOfCells.bits7 : waitsOk impl_DelaysOfCells.T7.2 impl_DelaysOfCells.B7 = true := by kernel_rfl
set_option maxHeartbeats 4000000 in
set_option maxRecDepth 100000 in
theorem impl_DelaysOfCells.calls (n room : Int) (ow : Bool) (A1 : Option Addr) (c1 : Nat) (ms : List S60) (r1 : List Int) (r2 : Bool) (w : World) (hr1 : Kd.C k60 w A1 ms.length ms) (hc1 : ms.length ≤ c1) (h : impl_DelaysOfCells.f n room ow ms = some (r1, r2)) :
    Calls Try.prog 41 #[.agg #[.int .i64 n, .int .i64 room, .bool ow], .slice A1 ms.length c1] w fun e w' => ∃ v0_ : Value, e = .returned (.tuple #[v0_, .bool r2]) ∧ Kd.R (Kd.int .i64) 3 w' w.heap.size (fun _ => True) v0_ r1 ∧ Below w.heap.size w w' := by
  have hlen : ms.length < 4611686018427387904 := by
    by_cases hl : ms.length < 4611686018427387904
    · exact hl
    · simp [impl_DelaysOfCells.f, hl] at h
  rw [impl_DelaysOfCells.f, if_pos hlen, delaysOfCellsR] at h
  have h1 := Ins.isInserted_tells n room ow ms hlen
  have HC := Aside0.mk hr1
  have Hc := Aside0.mk hc1
  clear hr1 hc1 hlen
  have hok : Ins.okI n room ms = true → 2 ≤ n ∧ n ≤ 12 := fun h => (Ins.okI_facts h).1
  have Hb : Aside0 (Ins.okI n room ms = Ins.okI n room ms) := ⟨rfl⟩
  generalize hbb : Ins.okI n room ms = b1 at h h1 hok
  have HT1 := Aside0.mk h1
  clear h1 Hb
  cases b1 with
  | false =>
    rw [if_neg (by simp)] at h
    simp only [Option.some.injEq, Prod.mk.injEq] at h
    obtain ⟨rfl, rfl⟩ := h
    clear hok hbb
    go_enter Try.func41, Try.ntmps41
    go_wp2_with (first
      | ((with_reducible refine gate_dst (N := 2) rfl ?_); refine box_event ?hg (N := 2) ?hd (cs := #[.int .i64 n, .int .i64 room, .bool ow]) (t := 28) ?hr ?_; (case hd => rfl); (case hg => rfl); (case hr => first | (go_simp; done) | (go_simp; rfl)); intro gb hgb w1 hbox hb; have HB1 := Aside0.mk hb; have x0 : w1.cell? ⟨gb, 0, none⟩ = some (.int .i64 n) := (blk_cell hbox 0).trans rfl; have x1 : w1.cell? ⟨gb, 1, none⟩ = some (.int .i64 room) := (blk_cell hbox 1).trans rfl; have x2 : w1.cell? ⟨gb, 2, none⟩ = some (.bool ow) := (blk_cell hbox 2).trans rfl; have Hbx := Aside0.mk hbox; clear hb hbox hgb)
      | (go_at_call 63; (refine (impl_isInserted.calls _ n room ow A1 c1 ms _ w1 (Kd.C_below HC.out HB1.out) Hc.out HT1.out).mono ?_); rintro e w2 ⟨rfl, hb2⟩; have HB2 := Aside0.mk hb2; have x3 := pw_cell_below hb2 x0; have x4 := pw_cell_below hb2 x1; have x5 := pw_cell_below hb2 x2; clear hb2))
    go_ret2
    exact ⟨_, rfl, Kd.R_nil _ _ _ _ _, (by repeat (first | exact below_then HB1.out HB1.out.size HB2.out | apply pw_below_drewN | apply below_drew))⟩
  | true =>
    have hn := hok rfl
    have Hb := Aside0.mk hbb
    rw [if_pos rfl] at h
    simp only [Option.some.injEq, Prod.mk.injEq] at h
    obtain ⟨rfl, rfl⟩ := h
    clear hok hbb
    obtain ⟨N, rfl⟩ : ∃ N : Nat, n = (N : Int) := ⟨n.toNat, by omega⟩
    simp only [Int.toNat_natCast]
    have hgd := Aside0.mk (Ins.good_of Hb.out)
    clear hn
    have Hl := Aside0.mk (Ins.end_sizes hgd.out ow)
    generalize hst : Ins.stAt N room ow ms (Ins.doneN N room ow ms) = st at *
    have Hst := Aside0.mk hst
    clear hst
    go_enter Try.func41, Try.ntmps41
    go_wp2_with (first
      | ((with_reducible refine gate_dst (N := 2) rfl ?_); refine box_event ?hg (N := 2) ?hd (cs := #[.int .i64 (N : Int), .int .i64 room, .bool ow]) (t := 28) ?hr ?_; (case hd => rfl); (case hg => rfl); (case hr => first | (go_simp; done) | (go_simp; rfl)); intro gb hgb w1 hbox hb; have HB1 := Aside0.mk hb; have x0 : w1.cell? ⟨gb, 0, none⟩ = some (.int .i64 (N : Int)) := (blk_cell hbox 0).trans rfl; have x1 : w1.cell? ⟨gb, 1, none⟩ = some (.int .i64 room) := (blk_cell hbox 1).trans rfl; have x2 : w1.cell? ⟨gb, 2, none⟩ = some (.bool ow) := (blk_cell hbox 2).trans rfl; have Hbx := Aside0.mk hbox; clear hb hbox hgb)
      | (go_at_call 63; (refine (impl_isInserted.calls _ (N : Int) room ow A1 c1 ms _ w1 (Kd.C_below HC.out HB1.out) Hc.out HT1.out).mono ?_); rintro e w2 ⟨rfl, hb2⟩; have HB2 := Aside0.mk hb2; have x3 := pw_cell_below hb2 x0; have x4 := pw_cell_below hb2 x1; have x5 := pw_cell_below hb2 x2; clear hb2)
      | (go_at_call 70; (refine (Ins.endI_calls _ N room ow A1 c1 ms hgd.out (Kd.C_below HC.out (by repeat (first | exact below_then HB1.out HB1.out.size HB2.out | apply pw_below_drewN | apply below_drew))) Hc.out).mono ?_); rintro e w3 ⟨w0, hb0, g, gB, cB, vL, vI, vR, rfl, h, hbl⟩; rw [Hst.out] at h; have HI := Aside0.mk h; have Hb3 := Aside0.mk (Ins.below_chain3 (show Below w.heap.size w w0 from Ins.below_chain3 (by repeat (first | exact below_then HB1.out HB1.out.size HB2.out | apply pw_below_drewN | apply below_drew)) hb0) h.below); have x6 : w3.cell? ⟨gb, 0, none⟩ = some (.int .i64 (N : Int)) := pw_cell_below (Ins.below_chain3 hb0 h.below) (by first | exact x3 | simpa using x3); clear h hb0 hbl; obtain ⟨Ardd, crdd, rfl, yrdd, hLrdd⟩ := HI.out.rdd_row; have Crdd := Aside0.mk (Kd.R_reads' hLrdd).2.2; clear hLrdd; obtain ⟨Ains, cins, rfl, yins, hLins⟩ := HI.out.ins_row; have Cins := Aside0.mk (Kd.R_reads' hLins).2.2; clear hLins)
      | ((with_reducible refine gate_dst (N := 17) rfl ?_); refine Kd.R_lit (Kd.int .i64) _ 3 ?hg (N := 17) ?hd (xs := ([] : List Int)) (inner := []) (ok := fun _ => True) (okp := fun _ => True) ?hr ?hp (fun _ hk => hk) trivial (Below.refl _ _) (Nat.le_refl _) (by simp) ?_; (case hd => rfl); (case hg => rfl); (case hr => first | (go_simp; done) | (go_simp; rfl)); (case hp => exact (Reps.none _ _)); intro vO w5 ho5 hb5 hg5 hnew5; clear hg5 hnew5; have HO5 := Aside0.mk ho5; have HB5 := Aside0.mk (show Below w3.heap.size w3 w5 from hb5); clear ho5 hb5))
    go_loopg [7, 20] (ms.length) (fun kq v7 v20 w' => ∃ j : Nat, v20 = .int .i64 j ∧ Aside0 (j + kq = ms.length) ∧ Aside0 (Below w3.heap.size w3 w') ∧ Aside0 (Kd.R (Kd.int .i64) 3 w' w3.heap.size (fun _ => True) v7 (Ins.delTo N st.rdd st.ins ms j)))
    case atStart => exact ⟨0, rfl, ⟨by omega⟩, ⟨by repeat (first | exact HB5.out | apply pw_below_drewN | apply below_drew)⟩, ⟨by (with_reducible repeat (first | apply Kd.R_drewN | apply Kd.R_drew)); exact HO5.out⟩⟩
    case round =>
      obtain ⟨j, rfl, HJ, HW, HO⟩ := hrel
      cases gk with
      | zero =>
        have hd : decide (j < ms.length) = false := decide_eq_false (by have := HJ.out; omega)
        have hm : Ins.delTo N st.rdd st.ins ms j = Ins.delTo N st.rdd st.ins ms ms.length := by rw [show j = ms.length by have := HJ.out; omega]
        have Hm := Aside0.mk hm
        clear hm yins yrdd x6
        generalize Ins.delTo N st.rdd st.ins ms j = m at *
        go_wp2
        go_ret2
        exact ⟨_, rfl, by (with_reducible repeat (first | apply Kd.R_drewN | apply Kd.R_drew)); rw [← Hm.out]; exact Kd.R_lower HO.out Hb3.out.size, by repeat (first | exact Ins.below_chain3 Hb3.out HW.out | apply pw_below_drewN | apply below_drew)⟩
      | succ k1 =>
        have hj : j < ms.length := by have := HJ.out; omega
        have hl20 : ms.length ≤ 20 := by have := Hl.out; omega
        have hd : decide (j < ms.length) = true := decide_eq_true hj
        have hl1 : st.ins.length = ms.length := Hl.out.1
        have hl2 : st.rdd.length = ms.length := Hl.out.2.1
        have hj1 : j < st.ins.length := by omega
        have hj2 : j < st.rdd.length := by omega
        obtain ⟨ai, eA, hxi⟩ := Kd.at_int Cins.out (j : Int) (by omega) (by omega)
        subst eA
        obtain ⟨ar, eB, hxr⟩ := Kd.at_int Crdd.out (j : Int) (by omega) (by omega)
        subst eB
        obtain ⟨am, eM, hm0, hm1, hm2⟩ := at_T60 HC.out (j : Int) (by omega) (by omega)
        subst eM
        have hw := Ins.below_chain3 Hb3.out HW.out
        have hm0' := pw_cell_below hw hm0
        have hm1' := pw_cell_below hw hm1
        have hm2' := pw_cell_below hw hm2
        rw [Int.toNat_natCast] at hm0' hm1' hm2'
        have hxi' : wr.cell? (ai.add j) = some (.int .i64 (rd st.ins j)) := pw_cell_below HW.out hxi
        have hxr' : wr.cell? (ar.add j) = some (.int .i64 (rd st.rdd j)) := pw_cell_below HW.out hxr
        have hyi := pw_cell_below HW.out yins
        have hyr := pw_cell_below HW.out yrdd
        have hyn := pw_cell_below HW.out x6
        have h2 : 2 ≤ N := hgd.out.n2
        have h12 : N ≤ 12 := hgd.out.n12
        have hN0 : ((N : Int) == 0) = false := by rw [beq_eq_false_iff_ne]; omega
        have hN1 : ¬ (N : Int) = 0 := by omega
        have hs : Aside0 (Ins.delTo N st.rdd st.ins ms (j + 1) = Ins.delTo N st.rdd st.ins ms j ++ [wrap64 (wrap64 (rd st.rdd j - rd st.ins j) - Int.tmod (wrap64 (wrap64 ((rd_T60 ms j).f2 - (rd_T60 ms j).f1) + N)) N)]) := ⟨rfl⟩
        have HX := Aside0.mk (show (Ins.delTo N st.rdd st.ins ms j).length ≤ 20 from by rw [Ins.delTo_len]; omega)
        have HY := Aside0.mk (And.intro (And.intro yrdd yins) (And.intro hxr (And.intro hxi x6)))
        have HOlt := Aside0.mk (fun e_ => Nat.lt_irrefl _ (Kd.R_lt HO.out wr.heap.size e_))
        clear hxi hxr hm0 hm1 hm2 yins yrdd x6 hl1 hl2 hw
        generalize rd st.ins (j : Int) = xi at *
        generalize rd st.rdd (j : Int) = xr at *
        generalize (rd_T60 ms (j : Int)).f0 = m0 at *
        generalize (rd_T60 ms (j : Int)).f1 = m1 at *
        generalize (rd_T60 ms (j : Int)).f2 = m2 at *
        generalize Ins.delTo N st.rdd st.ins ms j = xs at *
        have HH := Aside0.mk (show impl_hops.f N m0 m1 m2 = some (Int.tmod (wrap64 (wrap64 (m2 - m1) + N)) N) from if_neg hN1)
        clear hN1
        go_wp2
        generalize hW4 : wr.alloc _ = w4
        have hb4 : Below wr.heap.size wr w4 := hW4 ▸ below_alloc (Below.refl _ _) _
        have hbx4 : w4.heap[wr.heap.size]? = _ := hW4 ▸ blk_new wr _
        have HB4 := Aside0.mk (below_drew (Ins.below_next HW.out hb4))
        have HO4 := Aside0.mk (Kd.R_drew (show Kd.R (Kd.int .i64) 3 w4 w3.heap.size (fun _ => True) u7 xs from hW4 ▸ Kd.R_alloc HO.out _))
        have zyi := pw_cell_below (below_drew hb4) hyi
        have zyr := pw_cell_below (below_drew hb4) hyr
        have zyn := pw_cell_below (below_drew hb4) hyn
        have zxi := pw_cell_below (below_drew hb4) hxi'
        have zxr := pw_cell_below (below_drew hb4) hxr'
        have HBx := Aside0.mk (blk_drew hbx4)
        have zm0 : w4.drew.cell? ⟨wr.heap.size, 0, none⟩ = some (.int .i64 m0) := pw_cell_below (below_drew (Below.refl _ _)) ((blk_cell hbx4 0).trans rfl)
        have zm1 : w4.drew.cell? ⟨wr.heap.size, 1, none⟩ = some (.int .i64 m1) := pw_cell_below (below_drew (Below.refl _ _)) ((blk_cell hbx4 1).trans rfl)
        have zm2 : w4.drew.cell? ⟨wr.heap.size, 2, none⟩ = some (.int .i64 m2) := pw_cell_below (below_drew (Below.refl _ _)) ((blk_cell hbx4 2).trans rfl)
        clear hb4 hbx4 hyi hyr hyn hxi' hxr' hm0' hm1' hm2'
        refine start_ (n := 24) (S := fun w' => w'.cell? ⟨g, 8, none⟩ = some (.slice (some ar) st.rdd.length crdd) ∧ w'.cell? ⟨g, 7, none⟩ = some (.slice (some ai) st.ins.length cins) ∧ w'.cell? (ar.add j) = some (.int .i64 xr) ∧ w'.cell? (ai.add j) = some (.int .i64 xi) ∧ w'.cell? ⟨gb, 0, none⟩ = some (.int .i64 (N : Int)) ∧ w'.cell? ⟨wr.heap.size, 0, none⟩ = some (.int .i64 m0) ∧ w'.cell? ⟨wr.heap.size, 1, none⟩ = some (.int .i64 m1) ∧ w'.cell? ⟨wr.heap.size, 2, none⟩ = some (.int .i64 m2)) (ds := []) #[false, false, false, false, false, false, false, false, false, false, false, false, false, false, false, false, false, false, false, false, false, false, false, false] (by kernel_rfl) rfl rfl ⟨zyr, zyi, zxr, zxi, zyn, zm0, zm1, zm2⟩ (fun hHeld => ?_)
        refine with_tabW impl_DelaysOfCells.tab7 impl_DelaysOfCells.bits7 (fun HT_ HW_ => ?_)
        generalize w4.drew = wd at HO4 HB4 HBx hHeld ⊢
        refine pure_ (i := 0) (N := some 25) (v := ?_) (a' := ?_) #[true, false, false, false, false, false, false, false, false, false, false, false, false, false, false, false, false, false, false, false, false, false, false, false] rfl rfl (any_of HT_.out (by kernel_rfl)) (fun _ _ _ h => h) (Or.inl ⟨by rfl, ?_⟩) ?_ ?_
        rotate_left
        · intro w'
          go_simp
          with_reducible rfl
        rotate_left
        · simp only [Act.put, List.setIfInBounds_toArray, List.set_cons_zero, List.set_cons_succ, i64_w, i32_w]
          rfl
        refine pure_ (i := 1) (N := some 26) (v := ?_) (a' := ?_) #[true, true, false, false, false, false, false, false, false, false, false, false, false, false, false, false, false, false, false, false, false, false, false, false] rfl rfl (any_of HT_.out (by kernel_rfl)) (fun _ _ _ h => h) (Or.inl ⟨by rfl, ?_⟩) ?_ ?_
        rotate_left
        · intro w'
          go_simp
          with_reducible rfl
        rotate_left
        · simp only [Act.put, List.setIfInBounds_toArray, List.set_cons_zero, List.set_cons_succ, i64_w, i32_w]
          rfl
        refine pure_ (i := 2) (N := some 27) (v := ?_) (a' := ?_) #[true, true, true, false, false, false, false, false, false, false, false, false, false, false, false, false, false, false, false, false, false, false, false, false] rfl rfl (any_of HT_.out (by kernel_rfl)) (fun _ _ _ h => h) (Or.inl ⟨by rfl, ?_⟩) ?_ ?_
        rotate_left
        · intro w'
          go_simp
          with_reducible rfl
        rotate_left
        · simp only [Act.put, List.setIfInBounds_toArray, List.set_cons_zero, List.set_cons_succ, i64_w, i32_w]
          rfl
        refine pure_ (i := 3) (N := some 28) (v := ?_) (a' := ?_) #[true, true, true, true, false, false, false, false, false, false, false, false, false, false, false, false, false, false, false, false, false, false, false, false] rfl rfl (any_of HT_.out (by kernel_rfl)) (fun _ _ _ h => h) (Or.inl ⟨by rfl, ?_⟩) ?_ ?_
        rotate_left
        · intro w'
          go_simp
          with_reducible rfl
        rotate_left
        · simp only [Act.put, List.setIfInBounds_toArray, List.set_cons_zero, List.set_cons_succ, i64_w, i32_w]
          rfl
        refine pure_ (i := 5) (N := some 30) (v := ?_) (a' := ?_) #[true, true, true, true, false, true, false, false, false, false, false, false, false, false, false, false, false, false, false, false, false, false, false, false] rfl rfl (any_of HT_.out (by kernel_rfl)) (fun _ _ _ h => h) (Or.inl ⟨by rfl, ?_⟩) ?_ ?_
        rotate_left
        · intro w'
          go_simp
          with_reducible rfl
        rotate_left
        · simp only [Act.put, List.setIfInBounds_toArray, List.set_cons_zero, List.set_cons_succ, i64_w, i32_w]
          rfl
        refine pure_ (i := 8) (N := some 33) (v := ?_) (a' := ?_) #[true, true, true, true, false, true, false, false, true, false, false, false, false, false, false, false, false, false, false, false, false, false, false, false] rfl rfl (any_of HT_.out (by kernel_rfl)) (fun _ _ _ h => h) (Or.inl ⟨by rfl, ?_⟩) ?_ ?_
        rotate_left
        · intro w'
          go_simp
          with_reducible rfl
        rotate_left
        · simp only [Act.put, List.setIfInBounds_toArray, List.set_cons_zero, List.set_cons_succ, i64_w, i32_w]
          rfl
        refine pure_ (i := 9) (N := some 34) (v := ?_) (a' := ?_) #[true, true, true, true, false, true, false, false, true, true, false, false, false, false, false, false, false, false, false, false, false, false, false, false] rfl rfl (any_of HT_.out (by kernel_rfl)) (fun _ _ _ h => h) (Or.inl ⟨by rfl, ?_⟩) ?_ ?_
        rotate_left
        · intro w'
          go_simp
          with_reducible rfl
        rotate_left
        · simp only [Act.put, List.setIfInBounds_toArray, List.set_cons_zero, List.set_cons_succ, i64_w, i32_w]
          rfl
        refine pure_ (i := 10) (N := some 35) (v := ?_) (a' := ?_) #[true, true, true, true, false, true, false, false, true, true, true, false, false, false, false, false, false, false, false, false, false, false, false, false] rfl rfl (any_of HT_.out (by kernel_rfl)) (fun _ _ _ h => h) (Or.inl ⟨by rfl, ?_⟩) ?_ ?_
        rotate_left
        · intro w'
          go_simp
          with_reducible rfl
        rotate_left
        · simp only [Act.put, List.setIfInBounds_toArray, List.set_cons_zero, List.set_cons_succ, i64_w, i32_w]
          rfl
        refine pure_ (i := 12) (N := some 37) (v := ?_) (a' := ?_) #[true, true, true, true, false, true, false, false, true, true, true, false, true, false, false, false, false, false, false, false, false, false, false, false] rfl rfl (any_of HT_.out (by kernel_rfl)) (fun _ _ _ h => h) (Or.inl ⟨by rfl, ?_⟩) ?_ ?_
        rotate_left
        · intro w'
          go_simp
          with_reducible rfl
        rotate_left
        · simp only [Act.put, List.setIfInBounds_toArray, List.set_cons_zero, List.set_cons_succ, i64_w, i32_w]
          rfl
        refine pure_ (i := 16) (N := some 41) (v := ?_) (a' := ?_) #[true, true, true, true, false, true, false, false, true, true, true, false, true, false, false, false, true, false, false, false, false, false, false, false] rfl rfl (any_of HT_.out (by kernel_rfl)) (fun _ _ _ h => h) (Or.inl ⟨by rfl, ?_⟩) ?_ ?_
        rotate_left
        · intro w'
          go_simp
          with_reducible rfl
        rotate_left
        · simp only [Act.put, List.setIfInBounds_toArray, List.set_cons_zero, List.set_cons_succ, i64_w, i32_w]
          rfl
        refine take_ (i := 4) (N := some 29) (v := ?_) (a' := ?_) #[true, true, true, true, true, true, false, false, true, true, true, false, true, false, false, false, true, false, false, false, false, false, false, false] rfl rfl (take_ofW HT_.out HW_.out (by kernel_rfl)) (fun _ _ _ h => h) (Or.inl ⟨by rfl, ?_⟩) hHeld ?_ ?_
        rotate_left
        · rintro w' ⟨s0, s1, s2, s3, s4, s5, s6, s7⟩
          go_simp
          with_reducible rfl
        rotate_left
        · simp only [Act.put, List.setIfInBounds_toArray, List.set_cons_zero, List.set_cons_succ, i64_w, i32_w]
          rfl
        refine pure_ (i := 6) (N := some 31) (v := ?_) (a' := ?_) #[true, true, true, true, true, true, true, false, true, true, true, false, true, false, false, false, true, false, false, false, false, false, false, false] rfl rfl (any_of HT_.out (by kernel_rfl)) (fun _ _ _ h => h) (Or.inl ⟨by rfl, ?_⟩) ?_ ?_
        rotate_left
        · intro w'
          go_simp
          with_reducible rfl
        rotate_left
        · simp only [Act.put, List.setIfInBounds_toArray, List.set_cons_zero, List.set_cons_succ, i64_w, i32_w]
          rfl
        refine take_ (i := 7) (N := some 32) (v := ?_) (a' := ?_) #[true, true, true, true, true, true, true, true, true, true, true, false, true, false, false, false, true, false, false, false, false, false, false, false] rfl rfl (take_ofW HT_.out HW_.out (by kernel_rfl)) (fun _ _ _ h => h) (Or.inl ⟨by rfl, ?_⟩) hHeld ?_ ?_
        rotate_left
        · rintro w' ⟨s0, s1, s2, s3, s4, s5, s6, s7⟩
          go_simp
          with_reducible rfl
        rotate_left
        · simp only [Act.put, List.setIfInBounds_toArray, List.set_cons_zero, List.set_cons_succ, i64_w, i32_w]
          rfl
        refine take_ (i := 11) (N := some 36) (v := ?_) (a' := ?_) #[true, true, true, true, true, true, true, true, true, true, true, true, true, false, false, false, true, false, false, false, false, false, false, false] rfl rfl (take_ofW HT_.out HW_.out (by kernel_rfl)) (fun _ _ _ h => h) (Or.inl ⟨by rfl, ?_⟩) hHeld ?_ ?_
        rotate_left
        · rintro w' ⟨s0, s1, s2, s3, s4, s5, s6, s7⟩
          go_simp
          with_reducible rfl
        rotate_left
        · simp only [Act.put, List.setIfInBounds_toArray, List.set_cons_zero, List.set_cons_succ, i64_w, i32_w]
          rfl
        refine pure_ (i := 13) (N := some 38) (v := ?_) (a' := ?_) #[true, true, true, true, true, true, true, true, true, true, true, true, true, true, false, false, true, false, false, false, false, false, false, false] rfl rfl (any_of HT_.out (by kernel_rfl)) (fun _ _ _ h => h) (Or.inl ⟨by rfl, ?_⟩) ?_ ?_
        rotate_left
        · intro w'
          go_simp
          with_reducible rfl
        rotate_left
        · simp only [Act.put, List.setIfInBounds_toArray, List.set_cons_zero, List.set_cons_succ, i64_w, i32_w]
          rfl
        refine take_ (i := 14) (N := some 39) (v := ?_) (a' := ?_) #[true, true, true, true, true, true, true, true, true, true, true, true, true, true, true, false, true, false, false, false, false, false, false, false] rfl rfl (take_ofW HT_.out HW_.out (by kernel_rfl)) (fun _ _ _ h => h) (Or.inl ⟨by rfl, ?_⟩) hHeld ?_ ?_
        rotate_left
        · rintro w' ⟨s0, s1, s2, s3, s4, s5, s6, s7⟩
          go_simp
          with_reducible rfl
        rotate_left
        · simp only [Act.put, List.setIfInBounds_toArray, List.set_cons_zero, List.set_cons_succ, i64_w, i32_w]
          rfl
        refine pure_ (i := 15) (N := some 40) (v := ?_) (a' := ?_) #[true, true, true, true, true, true, true, true, true, true, true, true, true, true, true, true, true, false, false, false, false, false, false, false] rfl rfl (any_of HT_.out (by kernel_rfl)) (fun _ _ _ h => h) (Or.inl ⟨by rfl, ?_⟩) ?_ ?_
        rotate_left
        · intro w'
          go_simp
          with_reducible rfl
        rotate_left
        · simp only [Act.put, List.setIfInBounds_toArray, List.set_cons_zero, List.set_cons_succ, i64_w, i32_w]
          rfl
        refine take_ (i := 17) (N := some 42) (v := ?_) (a' := ?_) #[true, true, true, true, true, true, true, true, true, true, true, true, true, true, true, true, true, true, false, false, false, false, false, false] rfl rfl (take_ofW HT_.out HW_.out (by kernel_rfl)) (fun _ _ _ h => h) (Or.inl ⟨by rfl, ?_⟩) hHeld ?_ ?_
        rotate_left
        · rintro w' ⟨s0, s1, s2, s3, s4, s5, s6, s7⟩
          go_simp
          with_reducible rfl
        rotate_left
        · simp only [Act.put, List.setIfInBounds_toArray, List.set_cons_zero, List.set_cons_succ, i64_w, i32_w]
          rfl
        refine take_ (i := 18) (N := some 43) (v := ?_) (a' := ?_) #[true, true, true, true, true, true, true, true, true, true, true, true, true, true, true, true, true, true, true, false, false, false, false, false] rfl rfl (take_ofW HT_.out HW_.out (by kernel_rfl)) (fun _ _ _ h => h) (Or.inl ⟨by rfl, ?_⟩) hHeld ?_ ?_
        rotate_left
        · rintro w' ⟨s0, s1, s2, s3, s4, s5, s6, s7⟩
          go_simp
          with_reducible rfl
        rotate_left
        · simp only [Act.put, List.setIfInBounds_toArray, List.set_cons_zero, List.set_cons_succ, i64_w, i32_w]
          rfl
        refine one_ (i := 19) (N := some 44) #[true, true, true, true, true, true, true, true, true, true, true, true, true, true, true, true, true, true, true, true, false, false, false, false] rfl rfl (one_of HT_.out (by kernel_rfl)) (by decide) (fun K hK => ?_)
        refine goes_ Try.func74 (by kernel_rfl) rfl #[.int .i64 (N : Int), .agg #[.int .i64 m0, .int .i64 m1, .int .i64 m2]] (by rfl) rfl rfl (by simp only [List.map_toArray, List.map_cons, List.map_nil]; rfl) ?_
        with_reducible refine (impl_hops.calls (N : Int) m0 m1 m2 _ _ HH.out).mono ?_
        rintro e w6 ⟨rfl, hb6⟩
        refine ⟨_, rfl, ?_⟩
        have HO6 := Aside0.mk (Kd.R_below HO4.out hb6)
        have HBx6 := Aside0.mk (blk_below HBx.out hb6)
        have HB6 := Aside0.mk (Ins.below_next HB4.out hb6)
        refine hK.out _ _ ⟨(pw_cell_below hb6 hHeld.1), (pw_cell_below hb6 hHeld.2.1), (pw_cell_below hb6 hHeld.2.2.1), (pw_cell_below hb6 hHeld.2.2.2.1), (pw_cell_below hb6 hHeld.2.2.2.2.1), (pw_cell_below hb6 hHeld.2.2.2.2.2.1), (pw_cell_below hb6 hHeld.2.2.2.2.2.2.1), (pw_cell_below hb6 hHeld.2.2.2.2.2.2.2)⟩ (fun hHeld => ?_)
        clear hK K
        refine norm_ (a' := ?_) ?_ ?_
        rotate_left
        · show Act.put _ (some 44) _ = _
          simp only [Act.put, List.setIfInBounds_toArray, List.set_cons_zero, List.set_cons_succ, i64_w, i32_w]
          rfl
        refine pure_ (i := 20) (N := some 45) (v := ?_) (a' := ?_) #[true, true, true, true, true, true, true, true, true, true, true, true, true, true, true, true, true, true, true, true, true, false, false, false] rfl rfl (any_of HT_.out (by kernel_rfl)) (fun _ _ _ h => h) (Or.inl ⟨by rfl, ?_⟩) ?_ ?_
        rotate_left
        · intro w'
          go_simp
          with_reducible rfl
        rotate_left
        · simp only [Act.put, List.setIfInBounds_toArray, List.set_cons_zero, List.set_cons_succ, i64_w, i32_w]
          rfl
        refine one_ (i := 21) (N := some 46) #[true, true, true, true, true, true, true, true, true, true, true, true, true, true, true, true, true, true, true, true, true, true, false, false] rfl rfl (one_of HT_.out (by kernel_rfl)) (by decide) (fun K hK => ?_)
        refine value_ (w1 := ?_) (v := ?_) (by rfl) rfl ?_ ?_
        rotate_left 2
        · go_simp
          constructor
          · rfl
          · rfl
        refine hK.out _ _ ⟨(pw_cell_below (below_alloc (Below.refl _ _) _) hHeld.1), (pw_cell_below (below_alloc (Below.refl _ _) _) hHeld.2.1), (pw_cell_below (below_alloc (Below.refl _ _) _) hHeld.2.2.1), (pw_cell_below (below_alloc (Below.refl _ _) _) hHeld.2.2.2.1), (pw_cell_below (below_alloc (Below.refl _ _) _) hHeld.2.2.2.2.1), (pw_cell_below (below_alloc (Below.refl _ _) _) hHeld.2.2.2.2.2.1), (pw_cell_below (below_alloc (Below.refl _ _) _) hHeld.2.2.2.2.2.2.1), (pw_cell_below (below_alloc (Below.refl _ _) _) hHeld.2.2.2.2.2.2.2)⟩ (fun hHeld => ?_)
        clear hK K
        refine norm_ (a' := ?_) ?_ ?_
        rotate_left
        · show Act.put _ (some 46) _ = _
          simp only [Act.put, List.setIfInBounds_toArray, List.set_cons_zero, List.set_cons_succ, i64_w, i32_w]
          rfl
        refine one_ (i := 22) (N := some 47) #[true, true, true, true, true, true, true, true, true, true, true, true, true, true, true, true, true, true, true, true, true, true, true, false] rfl rfl (one_of HT_.out (by kernel_rfl)) (by decide) (fun K hK => ?_)
        refine Kd.R_append_step (Kd.int .i64) (w0 := w3) w3.heap.size (by rfl) (.tmp 25) (.tmp 46) 38 3 (.int .i64 0) 8 rfl Try.underlying38 info3 rfl (by decide) (by omega) u7 xs (wrap64 (wrap64 (xr - xi) - (Int.tmod (wrap64 (wrap64 (m2 - m1) + N)) N))) [.int .i64 (wrap64 (wrap64 (xr - xi) - (Int.tmod (wrap64 (wrap64 (m2 - m1) + N)) N)))] (fun _ => True) (fun _ => False) rfl rfl rfl (fun _ hk => hk.elim) (fun _ _ => trivial) HO6.out HB6.out HB6.out.size (by have := HX.out; omega) ?_
        intro v1 w7 hr7 hb7 hg7 ha7
        rw [← hs.out] at hr7
        have HR7 := Aside0.mk hr7
        have HB7 := Aside0.mk hb7
        have HBx7 := Aside0.mk (blk_grown HBx6.out hg7 (fun e_ => HOlt.out e_.symm))
        clear hg7 ha7 hr7 hb7
        refine hK.out _ _ ⟨(pw_cell_below HB7.out HY.out.1.1), (pw_cell_below HB7.out HY.out.1.2), (pw_cell_below HB7.out HY.out.2.1), (pw_cell_below HB7.out HY.out.2.2.1), (pw_cell_below HB7.out HY.out.2.2.2), ((blk_cell HBx7.out 0).trans rfl), ((blk_cell HBx7.out 1).trans rfl), ((blk_cell HBx7.out 2).trans rfl)⟩ (fun hHeld => ?_)
        clear hK K
        refine norm_ (a' := ?_) ?_ ?_
        rotate_left
        · show Act.put _ (some 47) _ = _
          simp only [Act.put, List.setIfInBounds_toArray, List.set_cons_zero, List.set_cons_succ, i64_w, i32_w]
          rfl
        refine pure_ (i := 23) (N := some 7) (v := ?_) (a' := ?_) #[true, true, true, true, true, true, true, true, true, true, true, true, true, true, true, true, true, true, true, true, true, true, true, true] rfl rfl (any_of HT_.out (by kernel_rfl)) (fun _ _ _ h => h) (Or.inl ⟨by rfl, ?_⟩) ?_ ?_
        rotate_left
        · intro w'
          go_simp
          with_reducible rfl
        rotate_left
        · simp only [Act.put, List.setIfInBounds_toArray, List.set_cons_zero, List.set_cons_succ, i64_w, i32_w]
          rfl
        refine done_ (done_of HT_.out (by kernel_rfl)) ?_
        go_wp2
        go_roundg k1
        case measure => have := HJ.out; omega
        case rel => exact ⟨j + 1, by go_num, ⟨by have := HJ.out; omega⟩, ⟨by repeat (first | exact HB7.out | apply pw_below_drewN | apply below_drew)⟩, ⟨by (with_reducible repeat (first | apply Kd.R_drewN | apply Kd.R_drew)); exact HR7.out⟩⟩
def spec_DelaysOfCells.T9 : Bool × List (List Nat × List Nat) := (true, [([], []), ([], []), ([1], [1]), ([2], [2]), ([3], [3]), ([], []), ([4, 5], [4, 5]), ([6], [6]), ([], []), ([8], [8]), ([9], [9]), ([10], [10]), ([], []), ([11, 12], [11, 12]), ([13], [13]), ([7, 14], [7, 14]), ([], []), ([15, 16], [15, 16]), ([17], [17]), ([0, 18], [0, 18]), ([19, 19, 0, 1, 2, 3, 4, 5, 6, 7, 8, 9, 10, 11, 12, 13, 14, 15, 16, 17, 18, 19], [0, 19])])
def spec_DelaysOfCells.B9 : List Nat := [0, 0, 2, 6, 14, 0, 62, 126, 0, 256, 768, 1792, 0, 7936, 16128, 32766, 0, 131070, 262142, 524287, 1048575]
theorem spec_DelaysOfCells.tab9 : rtab .any (opsOf Try.f40 9) = spec_DelaysOfCells.T9 := by kernel_rfl
theorem spec_DelaysOfCells.bits9 : waitsOk spec_DelaysOfCells.T9.2 spec_DelaysOfCells.B9 = true := by kernel_rfl
set_option maxHeartbeats 4000000 in
set_option maxRecDepth 100000 in
theorem spec_DelaysOfCells.calls (n room : Int) (ow : Bool) (A1 : Option Addr) (c1 : Nat) (ms : List S60) (r1 : List Int) (r2 : Bool) (w : World) (hr1 : Kd.C k60 w A1 ms.length ms) (hc1 : ms.length ≤ c1) (h : spec_DelaysOfCells.f n room ow ms = some (r1, r2)) :
    Calls Try.prog 40 #[.agg #[.int .i64 n, .int .i64 room, .bool ow], .slice A1 ms.length c1] w fun e w' => ∃ v0_ : Value, e = .returned (.tuple #[v0_, .bool r2]) ∧ Kd.R (Kd.int .i64) 3 w' w.heap.size (fun _ => True) v0_ r1 ∧ Below w.heap.size w w' := by
  have hlen : ms.length < 4611686018427387904 := by
    by_cases hl : ms.length < 4611686018427387904
    · exact hl
    · simp [spec_DelaysOfCells.f, hl] at h
  rw [spec_DelaysOfCells.f, if_pos hlen, delaysOfCellsR] at h
  have h1 := Ins.inAll_tells n room ow ms hlen
  have HC := Aside0.mk hr1
  have Hc := Aside0.mk hc1
  clear hr1 hc1 hlen
  have hok : Ins.okI n room ms = true → 2 ≤ n ∧ n ≤ 12 := fun h => (Ins.okI_facts h).1
  have Hb : Aside0 (Ins.okI n room ms = Ins.okI n room ms) := ⟨rfl⟩
  generalize hbb : Ins.okI n room ms = b1 at h h1 hok
  have HT1 := Aside0.mk h1
  clear h1 Hb
  cases b1 with
  | false =>
    rw [if_neg (by simp)] at h
    simp only [Option.some.injEq, Prod.mk.injEq] at h
    obtain ⟨rfl, rfl⟩ := h
    clear hok hbb
    go_enter Try.func40, Try.ntmps40
    go_wp2_with (first
      | ((with_reducible refine gate_dst (N := 2) rfl ?_); refine box_event ?hg (N := 2) ?hd (cs := #[.int .i64 n, .int .i64 room, .bool ow]) (t := 28) ?hr ?_; (case hd => rfl); (case hg => rfl); (case hr => first | (go_simp; done) | (go_simp; rfl)); intro gb hgb w1 hbox hb; have HB1 := Aside0.mk hb; have x0 : w1.cell? ⟨gb, 0, none⟩ = some (.int .i64 n) := (blk_cell hbox 0).trans rfl; have x1 : w1.cell? ⟨gb, 1, none⟩ = some (.int .i64 room) := (blk_cell hbox 1).trans rfl; have x2 : w1.cell? ⟨gb, 2, none⟩ = some (.bool ow) := (blk_cell hbox 2).trans rfl; have Hbx := Aside0.mk hbox; clear hb hbox hgb)
      | (go_at_call 58; (refine (spec_inAll.calls _ n room ow A1 c1 ms _ w1 (Kd.C_below HC.out HB1.out) Hc.out HT1.out).mono ?_); rintro e w2 ⟨rfl, hb2⟩; have HB2 := Aside0.mk hb2; have x3 := pw_cell_below hb2 x0; have x4 := pw_cell_below hb2 x1; have x5 := pw_cell_below hb2 x2; clear hb2))
    go_ret2
    exact ⟨_, rfl, Kd.R_nil _ _ _ _ _, (by repeat (first | exact below_then HB1.out HB1.out.size HB2.out | apply pw_below_drewN | apply below_drew))⟩
  | true =>
    have hn := hok rfl
    have Hb := Aside0.mk hbb
    rw [if_pos rfl] at h
    simp only [Option.some.injEq, Prod.mk.injEq] at h
    obtain ⟨rfl, rfl⟩ := h
    clear hok hbb
    obtain ⟨N, rfl⟩ : ∃ N : Nat, n = (N : Int) := ⟨n.toNat, by omega⟩
    simp only [Int.toNat_natCast]
    have hgd := Aside0.mk (Ins.good_of Hb.out)
    clear hn
    have Hl := Aside0.mk (Ins.end_sizes hgd.out ow)
    generalize hst : Ins.stAt N room ow ms (Ins.doneN N room ow ms) = st at *
    have Hst := Aside0.mk hst
    clear hst
    go_enter Try.func40, Try.ntmps40
    go_wp2_with (first
      | ((with_reducible refine gate_dst (N := 2) rfl ?_); refine box_event ?hg (N := 2) ?hd (cs := #[.int .i64 (N : Int), .int .i64 room, .bool ow]) (t := 28) ?hr ?_; (case hd => rfl); (case hg => rfl); (case hr => first | (go_simp; done) | (go_simp; rfl)); intro gb hgb w1 hbox hb; have HB1 := Aside0.mk hb; have x0 : w1.cell? ⟨gb, 0, none⟩ = some (.int .i64 (N : Int)) := (blk_cell hbox 0).trans rfl; have x1 : w1.cell? ⟨gb, 1, none⟩ = some (.int .i64 room) := (blk_cell hbox 1).trans rfl; have x2 : w1.cell? ⟨gb, 2, none⟩ = some (.bool ow) := (blk_cell hbox 2).trans rfl; have Hbx := Aside0.mk hbox; clear hb hbox hgb)
      | (go_at_call 58; (refine (spec_inAll.calls _ (N : Int) room ow A1 c1 ms _ w1 (Kd.C_below HC.out HB1.out) Hc.out HT1.out).mono ?_); rintro e w2 ⟨rfl, hb2⟩; have HB2 := Aside0.mk hb2; have x3 := pw_cell_below hb2 x0; have x4 := pw_cell_below hb2 x1; have x5 := pw_cell_below hb2 x2; clear hb2)
      | (go_at_call 69; (refine (Ins.endS_calls _ N room ow A1 c1 ms hgd.out (Kd.C_below HC.out (by repeat (first | exact below_then HB1.out HB1.out.size HB2.out | apply pw_below_drewN | apply below_drew))) Hc.out).mono ?_); rintro e w3 ⟨w0, hb0, g, gB, cB, vL, vI, vR, vX, rfl, h⟩; rw [Hst.out] at h; have HI := Aside0.mk h; have Hb3 := Aside0.mk (Ins.below_chain3 (show Below w.heap.size w w0 from Ins.below_chain3 (by repeat (first | exact below_then HB1.out HB1.out.size HB2.out | apply pw_below_drewN | apply below_drew)) hb0) h.below); have x6 : w3.cell? ⟨gb, 0, none⟩ = some (.int .i64 (N : Int)) := pw_cell_below (Ins.below_chain3 hb0 h.below) (by first | exact x3 | simpa using x3); clear h hb0; obtain ⟨Ardd, crdd, rfl, yrdd, hLrdd⟩ := HI.out.rdd_row; have Crdd := Aside0.mk (Kd.R_reads' hLrdd).2.2; clear hLrdd; obtain ⟨Ains, cins, rfl, yins, hLins⟩ := HI.out.ins_row; have Cins := Aside0.mk (Kd.R_reads' hLins).2.2; clear hLins))
    go_loopg [7, 20] (ms.length) (fun kq v7 v20 w' => ∃ j : Nat, v20 = .int .i64 j ∧ Aside0 (j + kq = ms.length) ∧ Aside0 (Below w3.heap.size w3 w') ∧ Aside0 (Kd.R (Kd.int .i64) 3 w' w3.heap.size (fun _ => True) v7 (Ins.delTo N st.rdd st.ins ms j)))
    case atStart => exact ⟨0, rfl, ⟨by omega⟩, ⟨by repeat (first | exact Below.refl _ _ | apply pw_below_drewN | apply below_drew)⟩, ⟨Kd.R_nil _ _ _ _ _⟩⟩
    case round =>
      obtain ⟨j, rfl, HJ, HW, HO⟩ := hrel
      cases gk with
      | zero =>
        have hd : decide (j < ms.length) = false := decide_eq_false (by have := HJ.out; omega)
        have hm : Ins.delTo N st.rdd st.ins ms j = Ins.delTo N st.rdd st.ins ms ms.length := by rw [show j = ms.length by have := HJ.out; omega]
        have Hm := Aside0.mk hm
        clear hm yins yrdd x6
        generalize Ins.delTo N st.rdd st.ins ms j = m at *
        go_wp2
        go_ret2
        exact ⟨_, rfl, by (with_reducible repeat (first | apply Kd.R_drewN | apply Kd.R_drew)); rw [← Hm.out]; exact Kd.R_lower HO.out Hb3.out.size, by repeat (first | exact Ins.below_chain3 Hb3.out HW.out | apply pw_below_drewN | apply below_drew)⟩
      | succ k1 =>
        have hj : j < ms.length := by have := HJ.out; omega
        have hl20 : ms.length ≤ 20 := by have := Hl.out; omega
        have hd : decide (j < ms.length) = true := decide_eq_true hj
        have hl1 : st.ins.length = ms.length := Hl.out.1
        have hl2 : st.rdd.length = ms.length := Hl.out.2.1
        have hj1 : j < st.ins.length := by omega
        have hj2 : j < st.rdd.length := by omega
        obtain ⟨ai, eA, hxi⟩ := Kd.at_int Cins.out (j : Int) (by omega) (by omega)
        subst eA
        obtain ⟨ar, eB, hxr⟩ := Kd.at_int Crdd.out (j : Int) (by omega) (by omega)
        subst eB
        obtain ⟨am, eM, hm0, hm1, hm2⟩ := at_T60 HC.out (j : Int) (by omega) (by omega)
        subst eM
        have hw := Ins.below_chain3 Hb3.out HW.out
        have hm0' := pw_cell_below hw hm0
        have hm1' := pw_cell_below hw hm1
        have hm2' := pw_cell_below hw hm2
        rw [Int.toNat_natCast] at hm0' hm1' hm2'
        have hxi' : wr.cell? (ai.add j) = some (.int .i64 (rd st.ins j)) := pw_cell_below HW.out hxi
        have hxr' : wr.cell? (ar.add j) = some (.int .i64 (rd st.rdd j)) := pw_cell_below HW.out hxr
        have hyi := pw_cell_below HW.out yins
        have hyr := pw_cell_below HW.out yrdd
        have hyn := pw_cell_below HW.out x6
        have h2 : 2 ≤ N := hgd.out.n2
        have h12 : N ≤ 12 := hgd.out.n12
        have hN0 : ((N : Int) == 0) = false := by rw [beq_eq_false_iff_ne]; omega
        have hN1 : ¬ (N : Int) = 0 := by omega
        have hs : Aside0 (Ins.delTo N st.rdd st.ins ms (j + 1) = Ins.delTo N st.rdd st.ins ms j ++ [wrap64 (wrap64 (rd st.rdd j - rd st.ins j) - Int.tmod (wrap64 (wrap64 ((rd_T60 ms j).f2 - (rd_T60 ms j).f1) + N)) N)]) := ⟨rfl⟩
        have HX := Aside0.mk (show (Ins.delTo N st.rdd st.ins ms j).length ≤ 20 from by rw [Ins.delTo_len]; omega)
        have HY := Aside0.mk (And.intro (And.intro yrdd yins) (And.intro hxr (And.intro hxi x6)))
        have HOlt := Aside0.mk (fun e_ => Nat.lt_irrefl _ (Kd.R_lt HO.out wr.heap.size e_))
        clear hxi hxr hm0 hm1 hm2 yins yrdd x6 hl1 hl2 hw
        generalize rd st.ins (j : Int) = xi at *
        generalize rd st.rdd (j : Int) = xr at *
        generalize (rd_T60 ms (j : Int)).f0 = m0 at *
        generalize (rd_T60 ms (j : Int)).f1 = m1 at *
        generalize (rd_T60 ms (j : Int)).f2 = m2 at *
        generalize Ins.delTo N st.rdd st.ins ms j = xs at *
        have e1 : IntKind.i64.wrap (m2 - m1) = wrap64 (m2 - m1) := IntWalk.i64_left _
        have e2 : IntKind.i64.wrap (wrap64 (m2 - m1) + N) = wrap64 (wrap64 (m2 - m1) + N) := IntWalk.i64_left _
        have e3 : IntKind.i64.wrap (Int.tmod (wrap64 (wrap64 (m2 - m1) + N)) N) = Int.tmod (wrap64 (wrap64 (m2 - m1) + N)) N := Ins.tmod_wrap _ N h2 h12
        have z0 : (wr.alloc (.cells #[.int .i64 m0, .int .i64 m1, .int .i64 m2] 60)).cell? ⟨wr.heap.size, 1, none⟩ = some (.int .i64 m1) := (blk_cell (blk_new wr _) 1).trans rfl
        have z1 : (wr.alloc (.cells #[.int .i64 m0, .int .i64 m1, .int .i64 m2] 60)).cell? ⟨wr.heap.size, 2, none⟩ = some (.int .i64 m2) := (blk_cell (blk_new wr _) 2).trans rfl
        have z2 : (wr.alloc (.cells #[.int .i64 m0, .int .i64 m1, .int .i64 m2] 60)).cell? ⟨gb, 0, none⟩ = some (.int .i64 N) := pw_cell_below (below_alloc (Below.refl _ _) _) hyn
        clear hN1
        go_wp2
        generalize hW4 : wr.alloc _ = w4
        have hb4 : Below wr.heap.size wr w4 := hW4 ▸ below_alloc (Below.refl _ _) _
        have hbx4 : w4.heap[wr.heap.size]? = _ := hW4 ▸ blk_new wr _
        have HB4 := Aside0.mk (below_drew (Ins.below_next HW.out hb4))
        have HO4 := Aside0.mk (Kd.R_drew (show Kd.R (Kd.int .i64) 3 w4 w3.heap.size (fun _ => True) u7 xs from hW4 ▸ Kd.R_alloc HO.out _))
        have zyi := pw_cell_below (below_drew hb4) hyi
        have zyr := pw_cell_below (below_drew hb4) hyr
        have zyn := pw_cell_below (below_drew hb4) hyn
        have zxi := pw_cell_below (below_drew hb4) hxi'
        have zxr := pw_cell_below (below_drew hb4) hxr'
        have HBx := Aside0.mk (blk_drew hbx4)
        have zm0 : w4.drew.cell? ⟨wr.heap.size, 0, none⟩ = some (.int .i64 m0) := pw_cell_below (below_drew (Below.refl _ _)) ((blk_cell hbx4 0).trans rfl)
        have zm1 : w4.drew.cell? ⟨wr.heap.size, 1, none⟩ = some (.int .i64 m1) := pw_cell_below (below_drew (Below.refl _ _)) ((blk_cell hbx4 1).trans rfl)
        have zm2 : w4.drew.cell? ⟨wr.heap.size, 2, none⟩ = some (.int .i64 m2) := pw_cell_below (below_drew (Below.refl _ _)) ((blk_cell hbx4 2).trans rfl)
        clear hb4 hbx4 hyi hyr hyn hxi' hxr' hm0' hm1' hm2' z0 z1 z2 e1 e2 e3
        refine start_ (n := 21) (S := fun w' => w'.cell? ⟨g, 7, none⟩ = some (.slice (some ar) st.rdd.length crdd) ∧ w'.cell? ⟨g, 6, none⟩ = some (.slice (some ai) st.ins.length cins) ∧ w'.cell? (ar.add j) = some (.int .i64 xr) ∧ w'.cell? (ai.add j) = some (.int .i64 xi)) (ds := []) #[false, false, false, false, false, false, false, false, false, false, false, false, false, false, false, false, false, false, false, false, false] (by kernel_rfl) rfl rfl ⟨zyr, zyi, zxr, zxi⟩ (fun hHeld => ?_)
        refine with_tabW spec_DelaysOfCells.tab9 spec_DelaysOfCells.bits9 (fun HT_ HW_ => ?_)
        generalize w4.drew = wd at HO4 HB4 HBx hHeld ⊢
        refine pure_ (i := 0) (N := some 36) (v := ?_) (a' := ?_) #[true, false, false, false, false, false, false, false, false, false, false, false, false, false, false, false, false, false, false, false, false] rfl rfl (any_of HT_.out (by kernel_rfl)) (fun _ _ _ h => h) (Or.inl ⟨by rfl, ?_⟩) ?_ ?_
        rotate_left
        · intro w'
          go_simp
          with_reducible rfl
        rotate_left
        · simp only [Act.put, List.setIfInBounds_toArray, List.set_cons_zero, List.set_cons_succ, i64_w, i32_w]
          rfl
        refine pure_ (i := 1) (N := some 37) (v := ?_) (a' := ?_) #[true, true, false, false, false, false, false, false, false, false, false, false, false, false, false, false, false, false, false, false, false] rfl rfl (any_of HT_.out (by kernel_rfl)) (fun _ _ _ h => h) (Or.inl ⟨by rfl, ?_⟩) ?_ ?_
        rotate_left
        · intro w'
          go_simp
          with_reducible rfl
        rotate_left
        · simp only [Act.put, List.setIfInBounds_toArray, List.set_cons_zero, List.set_cons_succ, i64_w, i32_w]
          rfl
        refine pure_ (i := 2) (N := some 38) (v := ?_) (a' := ?_) #[true, true, true, false, false, false, false, false, false, false, false, false, false, false, false, false, false, false, false, false, false] rfl rfl (any_of HT_.out (by kernel_rfl)) (fun _ _ _ h => h) (Or.inl ⟨by rfl, ?_⟩) ?_ ?_
        rotate_left
        · intro w'
          go_simp
          with_reducible rfl
        rotate_left
        · simp only [Act.put, List.setIfInBounds_toArray, List.set_cons_zero, List.set_cons_succ, i64_w, i32_w]
          rfl
        refine pure_ (i := 3) (N := some 39) (v := ?_) (a' := ?_) #[true, true, true, true, false, false, false, false, false, false, false, false, false, false, false, false, false, false, false, false, false] rfl rfl (any_of HT_.out (by kernel_rfl)) (fun _ _ _ h => h) (Or.inl ⟨by rfl, ?_⟩) ?_ ?_
        rotate_left
        · intro w'
          go_simp
          with_reducible rfl
        rotate_left
        · simp only [Act.put, List.setIfInBounds_toArray, List.set_cons_zero, List.set_cons_succ, i64_w, i32_w]
          rfl
        refine pure_ (i := 5) (N := some 41) (v := ?_) (a' := ?_) #[true, true, true, true, false, true, false, false, false, false, false, false, false, false, false, false, false, false, false, false, false] rfl rfl (any_of HT_.out (by kernel_rfl)) (fun _ _ _ h => h) (Or.inl ⟨by rfl, ?_⟩) ?_ ?_
        rotate_left
        · intro w'
          go_simp
          with_reducible rfl
        rotate_left
        · simp only [Act.put, List.setIfInBounds_toArray, List.set_cons_zero, List.set_cons_succ, i64_w, i32_w]
          rfl
        refine pure_ (i := 8) (N := some 44) (v := ?_) (a' := ?_) #[true, true, true, true, false, true, false, false, true, false, false, false, false, false, false, false, false, false, false, false, false] rfl rfl (any_of HT_.out (by kernel_rfl)) (fun _ _ _ h => h) (Or.inl ⟨by rfl, ?_⟩) ?_ ?_
        rotate_left
        · intro w'
          go_simp
          with_reducible rfl
        rotate_left
        · simp only [Act.put, List.setIfInBounds_toArray, List.set_cons_zero, List.set_cons_succ, i64_w, i32_w]
          rfl
        refine pure_ (i := 9) (N := some 45) (v := ?_) (a' := ?_) #[true, true, true, true, false, true, false, false, true, true, false, false, false, false, false, false, false, false, false, false, false] rfl rfl (any_of HT_.out (by kernel_rfl)) (fun _ _ _ h => h) (Or.inl ⟨by rfl, ?_⟩) ?_ ?_
        rotate_left
        · intro w'
          go_simp
          with_reducible rfl
        rotate_left
        · simp only [Act.put, List.setIfInBounds_toArray, List.set_cons_zero, List.set_cons_succ, i64_w, i32_w]
          rfl
        refine pure_ (i := 10) (N := some 46) (v := ?_) (a' := ?_) #[true, true, true, true, false, true, false, false, true, true, true, false, false, false, false, false, false, false, false, false, false] rfl rfl (any_of HT_.out (by kernel_rfl)) (fun _ _ _ h => h) (Or.inl ⟨by rfl, ?_⟩) ?_ ?_
        rotate_left
        · intro w'
          go_simp
          with_reducible rfl
        rotate_left
        · simp only [Act.put, List.setIfInBounds_toArray, List.set_cons_zero, List.set_cons_succ, i64_w, i32_w]
          rfl
        refine pure_ (i := 12) (N := some 48) (v := ?_) (a' := ?_) #[true, true, true, true, false, true, false, false, true, true, true, false, true, false, false, false, false, false, false, false, false] rfl rfl (any_of HT_.out (by kernel_rfl)) (fun _ _ _ h => h) (Or.inl ⟨by rfl, ?_⟩) ?_ ?_
        rotate_left
        · intro w'
          go_simp
          with_reducible rfl
        rotate_left
        · simp only [Act.put, List.setIfInBounds_toArray, List.set_cons_zero, List.set_cons_succ, i64_w, i32_w]
          rfl
        refine pure_ (i := 16) (N := some 52) (v := ?_) (a' := ?_) #[true, true, true, true, false, true, false, false, true, true, true, false, true, false, false, false, true, false, false, false, false] rfl rfl (any_of HT_.out (by kernel_rfl)) (fun _ _ _ h => h) (Or.inl ⟨by rfl, ?_⟩) ?_ ?_
        rotate_left
        · intro w'
          go_simp
          with_reducible rfl
        rotate_left
        · simp only [Act.put, List.setIfInBounds_toArray, List.set_cons_zero, List.set_cons_succ, i64_w, i32_w]
          rfl
        refine take_ (i := 4) (N := some 40) (v := ?_) (a' := ?_) #[true, true, true, true, true, true, false, false, true, true, true, false, true, false, false, false, true, false, false, false, false] rfl rfl (take_ofW HT_.out HW_.out (by kernel_rfl)) (fun _ _ _ h => h) (Or.inl ⟨by rfl, ?_⟩) hHeld ?_ ?_
        rotate_left
        · rintro w' ⟨s0, s1, s2, s3⟩
          go_simp
          with_reducible rfl
        rotate_left
        · simp only [Act.put, List.setIfInBounds_toArray, List.set_cons_zero, List.set_cons_succ, i64_w, i32_w]
          rfl
        refine pure_ (i := 6) (N := some 42) (v := ?_) (a' := ?_) #[true, true, true, true, true, true, true, false, true, true, true, false, true, false, false, false, true, false, false, false, false] rfl rfl (any_of HT_.out (by kernel_rfl)) (fun _ _ _ h => h) (Or.inl ⟨by rfl, ?_⟩) ?_ ?_
        rotate_left
        · intro w'
          go_simp
          with_reducible rfl
        rotate_left
        · simp only [Act.put, List.setIfInBounds_toArray, List.set_cons_zero, List.set_cons_succ, i64_w, i32_w]
          rfl
        refine take_ (i := 7) (N := some 43) (v := ?_) (a' := ?_) #[true, true, true, true, true, true, true, true, true, true, true, false, true, false, false, false, true, false, false, false, false] rfl rfl (take_ofW HT_.out HW_.out (by kernel_rfl)) (fun _ _ _ h => h) (Or.inl ⟨by rfl, ?_⟩) hHeld ?_ ?_
        rotate_left
        · rintro w' ⟨s0, s1, s2, s3⟩
          go_simp
          with_reducible rfl
        rotate_left
        · simp only [Act.put, List.setIfInBounds_toArray, List.set_cons_zero, List.set_cons_succ, i64_w, i32_w]
          rfl
        refine take_ (i := 11) (N := some 47) (v := ?_) (a' := ?_) #[true, true, true, true, true, true, true, true, true, true, true, true, true, false, false, false, true, false, false, false, false] rfl rfl (take_ofW HT_.out HW_.out (by kernel_rfl)) (fun _ _ _ h => h) (Or.inl ⟨by rfl, ?_⟩) hHeld ?_ ?_
        rotate_left
        · rintro w' ⟨s0, s1, s2, s3⟩
          go_simp
          with_reducible rfl
        rotate_left
        · simp only [Act.put, List.setIfInBounds_toArray, List.set_cons_zero, List.set_cons_succ, i64_w, i32_w]
          rfl
        refine pure_ (i := 13) (N := some 49) (v := ?_) (a' := ?_) #[true, true, true, true, true, true, true, true, true, true, true, true, true, true, false, false, true, false, false, false, false] rfl rfl (any_of HT_.out (by kernel_rfl)) (fun _ _ _ h => h) (Or.inl ⟨by rfl, ?_⟩) ?_ ?_
        rotate_left
        · intro w'
          go_simp
          with_reducible rfl
        rotate_left
        · simp only [Act.put, List.setIfInBounds_toArray, List.set_cons_zero, List.set_cons_succ, i64_w, i32_w]
          rfl
        refine take_ (i := 14) (N := some 50) (v := ?_) (a' := ?_) #[true, true, true, true, true, true, true, true, true, true, true, true, true, true, true, false, true, false, false, false, false] rfl rfl (take_ofW HT_.out HW_.out (by kernel_rfl)) (fun _ _ _ h => h) (Or.inl ⟨by rfl, ?_⟩) hHeld ?_ ?_
        rotate_left
        · rintro w' ⟨s0, s1, s2, s3⟩
          go_simp
          with_reducible rfl
        rotate_left
        · simp only [Act.put, List.setIfInBounds_toArray, List.set_cons_zero, List.set_cons_succ, i64_w, i32_w]
          rfl
        refine pure_ (i := 15) (N := some 51) (v := ?_) (a' := ?_) #[true, true, true, true, true, true, true, true, true, true, true, true, true, true, true, true, true, false, false, false, false] rfl rfl (any_of HT_.out (by kernel_rfl)) (fun _ _ _ h => h) (Or.inl ⟨by rfl, ?_⟩) ?_ ?_
        rotate_left
        · intro w'
          go_simp
          with_reducible rfl
        rotate_left
        · simp only [Act.put, List.setIfInBounds_toArray, List.set_cons_zero, List.set_cons_succ, i64_w, i32_w]
          rfl
        refine pure_ (i := 17) (N := some 53) (v := ?_) (a' := ?_) #[true, true, true, true, true, true, true, true, true, true, true, true, true, true, true, true, true, true, false, false, false] rfl rfl (any_of HT_.out (by kernel_rfl)) (fun _ _ _ h => h) (Or.inl ⟨by rfl, ?_⟩) ?_ ?_
        rotate_left
        · intro w'
          go_simp
          with_reducible rfl
        rotate_left
        · simp only [Act.put, List.setIfInBounds_toArray, List.set_cons_zero, List.set_cons_succ, i64_w, i32_w]
          rfl
        refine one_ (i := 18) (N := some 54) #[true, true, true, true, true, true, true, true, true, true, true, true, true, true, true, true, true, true, true, false, false] rfl rfl (one_of HT_.out (by kernel_rfl)) (by decide) (fun K hK => ?_)
        refine value_ (w1 := ?_) (v := ?_) (by rfl) rfl ?_ ?_
        rotate_left 2
        · go_simp
          constructor
          · rfl
          · rfl
        refine hK.out _ _ ⟨(pw_cell_below (below_alloc (Below.refl _ _) _) hHeld.1), (pw_cell_below (below_alloc (Below.refl _ _) _) hHeld.2.1), (pw_cell_below (below_alloc (Below.refl _ _) _) hHeld.2.2.1), (pw_cell_below (below_alloc (Below.refl _ _) _) hHeld.2.2.2)⟩ (fun hHeld => ?_)
        clear hK K
        refine norm_ (a' := ?_) ?_ ?_
        rotate_left
        · show Act.put _ (some 54) _ = _
          simp only [Act.put, List.setIfInBounds_toArray, List.set_cons_zero, List.set_cons_succ, i64_w, i32_w]
          rfl
        refine one_ (i := 19) (N := some 55) #[true, true, true, true, true, true, true, true, true, true, true, true, true, true, true, true, true, true, true, true, false] rfl rfl (one_of HT_.out (by kernel_rfl)) (by decide) (fun K hK => ?_)
        refine Kd.R_append_step (Kd.int .i64) (w0 := w3) w3.heap.size (by rfl) (.tmp 36) (.tmp 54) 38 3 (.int .i64 0) 8 rfl Try.underlying38 info3 rfl (by decide) (by omega) u7 xs (wrap64 (wrap64 (xr - xi) - (Int.tmod (wrap64 (wrap64 (m2 - m1) + N)) N))) [.int .i64 (wrap64 (wrap64 (xr - xi) - (Int.tmod (wrap64 (wrap64 (m2 - m1) + N)) N)))] (fun _ => True) (fun _ => False) rfl rfl rfl (fun _ hk => hk.elim) (fun _ _ => trivial) HO4.out HB4.out HB4.out.size (by have := HX.out; omega) ?_
        intro v1 w7 hr7 hb7 hg7 ha7
        rw [← hs.out] at hr7
        have HR7 := Aside0.mk hr7
        have HB7 := Aside0.mk hb7
        clear hg7 ha7 hr7 hb7
        refine hK.out _ _ ⟨(pw_cell_below HB7.out HY.out.1.1), (pw_cell_below HB7.out HY.out.1.2), (pw_cell_below HB7.out HY.out.2.1), (pw_cell_below HB7.out HY.out.2.2.1)⟩ (fun hHeld => ?_)
        clear hK K
        refine norm_ (a' := ?_) ?_ ?_
        rotate_left
        · show Act.put _ (some 55) _ = _
          simp only [Act.put, List.setIfInBounds_toArray, List.set_cons_zero, List.set_cons_succ, i64_w, i32_w]
          rfl
        refine pure_ (i := 20) (N := some 7) (v := ?_) (a' := ?_) #[true, true, true, true, true, true, true, true, true, true, true, true, true, true, true, true, true, true, true, true, true] rfl rfl (any_of HT_.out (by kernel_rfl)) (fun _ _ _ h => h) (Or.inl ⟨by rfl, ?_⟩) ?_ ?_
        rotate_left
        · intro w'
          go_simp
          with_reducible rfl
        rotate_left
        · simp only [Act.put, List.setIfInBounds_toArray, List.set_cons_zero, List.set_cons_succ, i64_w, i32_w]
          rfl
        refine done_ (done_of HT_.out (by kernel_rfl)) ?_
        go_wp2
        go_roundg k1
        case measure => have := HJ.out; omega
        case rel => exact ⟨j + 1, by go_num, ⟨by have := HJ.out; omega⟩, ⟨by repeat (first | exact HB7.out | apply pw_below_drewN | apply below_drew)⟩, ⟨by (with_reducible repeat (first | apply Kd.R_drewN | apply Kd.R_drew)); exact HR7.out⟩⟩
end Go.Proofs.Ytkfghiofmamdnaa.PA
