/- What functions of the program come to, as plain functions; no condition. -/
import Derived.Test.YtoeddkfbhjmbmaaQ24
set_option linter.unusedVariables false
set_option linter.unusedSimpArgs false
set_option maxRecDepth 100000
set_option maxHeartbeats 4000000
set_option linter.unusedVariables false
namespace Go.Proofs.Ytoeddkfbhjmbmaa.Ev.Q2
open Go
noncomputable def laws_kMost_j2 (x45 : Int) : Int → Option ((Int × Int) ⊕ Int) := fun x63 =>
some (.inl (x63, (w64 (x45 + (1 : Int)))))
noncomputable def laws_kMost_s1 (p0 : List Int) : (Int × Int) → Option ((Int × Int) ⊕ Int) := fun (x44, x45) =>
if (decide (x45 < (List.length p0 : Int))) = true then
(at? p0 x45).bind fun v68 =>
if (decide (v68 > x44)) = true then
laws_kMost_j2 x45 v68
else
laws_kMost_j2 x45 x44
else
some (.inr x44)
noncomputable def laws_kMost_l1 (p0 : List Int) : (Int × Int) → Option Int := iter (laws_kMost_s1 p0)
/-- loop.example/g01176/laws.kMost -/
noncomputable def laws_kMost (p0 : List Int) : Option Int :=
(laws_kMost_l1 p0 ((0 : Int), (0 : Int))).bind fun x52 =>
some x52
theorem laws_kMost_ok {p0 : List Int} {o : Int} (h : laws_kMost p0 = some o) : RN 51 [.ints .i64 p0] [] = some (.int .i64 o, []) := by
  refine fn_run (o := o) (nr := 0) (F := k51) (st := ⟨entry 0 [.vw [] (.ints .i64 p0)], fun n => ([] : List T)[n]?, 0⟩) (fun (o : Int) => (.int .i64 o, [])) rfl fns_51 rfl rfl ?_
  refine wp_seq ?_
  refine wp_reg (nx' := 16) rfl (ev_den (.vw _ _) rfl rfl (ev_nil)) (seqQ_n (?_))
  refine wp_seq ?_
  refine wp_reg (nx' := 32) rfl (ev_den (.vw _ _) rfl rfl (ev_nil)) (seqQ_n (?_))
  refine wp_seq ?_
  refine wp_gc ?_
  refine wp_seq ?_
  refine wp_gc ?_
  refine wp_reg (nx' := 80) rfl (ev_den (.vw _ _) rfl rfl (ev_den (.vw _ _) rfl rfl (ev_den (.vw _ _) rfl rfl (ev_nil)))) (gcQ_n (gc_to [] (e := [(3, .vw [] (.int .i64 ((0 : Int)))), (6, .vw [] (.ints .i64 p0)), (7, .vw [] (.int .i64 ((List.length p0 : Int)))), (8, .vw [] (.int .i64 ((0 : Int))))]) (ts := []) (n := 0) rfl rfl rfl rfl) (seqQ_n (?_)))
  refine wp_gc ?_
  refine wp_blk ?_
  obtain ⟨x52, hw73, h⟩ := bs h
  refine wp_mono (wp_loop (fun ((x44, x45) : Int × Int) => (⟨al .dead [(3, .vw [] (.int .i64 x44)), (6, .vw [] (.ints .i64 p0)), (7, .vw [] (.int .i64 ((List.length p0 : Int)))), (8, .vw [] (.int .i64 x45))], hl [], 0⟩ : St)) (fun (x52 : Int) e st => e = .exit 0 ∧ gc 0 [3] st = ⟨al .dead [(3, .vw [] (.int .i64 x52))], hl [], 0⟩) hw73 ?_) ?_
  · rintro ⟨x44, x45⟩ o h
    refine wp_gc ?_
    refine wp_seq ?_
    refine wp_reg (nx' := 16) rfl (ev_den (.vw _ _) rfl rfl (ev_nil)) (seqQ_n (?_))
    refine wp_seq ?_
    refine wp_gc ?_
    rcases its h with ⟨hc60, h⟩ | ⟨hc60, h⟩
    · refine wp_ct rfl hc60 ?_
      refine wp_skip (gcQ_n (gc_to [] (e := [(3, .vw [] (.int .i64 x44)), (6, .vw [] (.ints .i64 p0)), (7, .vw [] (.int .i64 ((List.length p0 : Int)))), (8, .vw [] (.int .i64 x45))]) (ts := []) (n := 0) rfl rfl rfl rfl) (seqQ_n (?_)))
      refine wp_seq ?_
      refine wp_join (laws_kMost_j2 x45) (fun (x63 : Int) => (⟨al .dead [(3, .vw [] (.int .i64 x63)), (6, .vw [] (.ints .i64 p0)), (7, .vw [] (.int .i64 ((List.length p0 : Int)))), (8, .vw [] (.int .i64 x45))], hl [], 0⟩ : St)) ?_ ?_
      · rintro x63 o h
        refine seqQ_n (?_)
        cases h
        exact wp_reg (nx' := 32) rfl (ev_den (.vw _ _) rfl rfl (ev_den (.vw _ _) rfl rfl (ev_nil))) (gcQ_n (gc_to [] (e := [(3, .vw [] (.int .i64 x63)), (6, .vw [] (.ints .i64 p0)), (7, .vw [] (.int .i64 ((List.length p0 : Int)))), (8, .vw [] (.int .i64 ((w64 (x45 + (1 : Int))))))]) (ts := []) (n := 0) rfl rfl rfl rfl) (loopQ_n rfl))
      · refine wp_gc ?_
        refine wp_blk ?_
        refine wp_seq ?_
        obtain ⟨v68, hv68, h⟩ := bs h
        refine wp_reg (nx' := 48) rfl (ev_den (.pv _ _) rfl (d_idx_vi rfl rfl hv68) (ev_den (.vw _ _) rfl rfl (ev_den (.vw _ _) rfl rfl (ev_nil)))) (seqQ_n (?_))
        refine wp_seq ?_
        refine wp_reg (nx' := 96) rfl (ev_den (.vw _ _) rfl rfl (ev_den (.vw _ _) rfl rfl (ev_den (.vw _ _) rfl rfl (ev_nil)))) (seqQ_n (?_))
        rcases its h with ⟨hc69, h⟩ | ⟨hc69, h⟩
        · refine wp_ct rfl hc69 ?_
          exact wp_reg (nx' := 128) rfl (ev_den (.vw _ _) rfl rfl (ev_den (.vw _ _) rfl rfl (ev_nil))) (blkQ_n (gcQ_n (gc_to [] (e := [(3, .vw [] (.int .i64 v68)), (6, .vw [] (.ints .i64 p0)), (7, .vw [] (.int .i64 ((List.length p0 : Int)))), (8, .vw [] (.int .i64 x45))]) (ts := []) (n := 0) rfl rfl rfl rfl) (joinQ_n v68 h (gc_to [] rfl rfl rfl rfl))))
        · refine wp_cf rfl hc69 ?_
          exact wp_skip (blkQ_n (gcQ_n (gc_to [] (e := [(3, .vw [] (.int .i64 x44)), (6, .vw [] (.ints .i64 p0)), (7, .vw [] (.int .i64 ((List.length p0 : Int)))), (8, .vw [] (.int .i64 x45))]) (ts := []) (n := 0) rfl rfl rfl rfl) (joinQ_n x44 h (gc_to [] rfl rfl rfl rfl))))
    · refine wp_cf rfl hc60 ?_
      cases h
      exact wp_exit (gcQ_e (seqQ_e (gcQ_e (loopQ_e (And.intro rfl (gc_to [] (e := [(3, .vw [] (.int .i64 x44))]) (ts := []) (n := 0) rfl rfl rfl rfl))))))
  · intro e st73 hg73
    obtain ⟨rfl, hg73⟩ := hg73
    refine blkQ_h (gcQ_n hg73 (gcQ_n (gc_to [] (e := [(3, .vw [] (.int .i64 x52))]) (ts := []) (n := 0) rfl rfl rfl rfl) (seqQ_n (?_))))
    refine wp_seq ?_
    refine wp_reg (nx' := 32) rfl (ev_den (.vw _ _) rfl rfl (ev_den (.vw _ _) rfl rfl (ev_nil))) (seqQ_n (?_))
    cases h
    exact wp_ret (qf_r ((outs_ok (vs := [(.vw _ _)]) rfl (absW_cons rfl rfl (absW_nil)) rfl rfl)))
/-- (*loop.example/g01176/spec.l1Cur).one -/
noncomputable def spec_l1Cur_one (p1 : Int) (c0 : (List Int) × Int × Int) : Option (Bool × ((List Int) × Int × Int)) :=
(spec_l1Cur_pick p1 c0).bind fun v2 =>
some ((v2.1 == (0 : Int)), v2.2)
theorem spec_l1Cur_one_ok {p1 : Int} {c0 : (List Int) × Int × Int} {o : Bool × ((List Int) × Int × Int)} (h : spec_l1Cur_one p1 c0 = some o) : RN 90 [.ref 0, .int .i64 p1] [.ptr (.agg [.sh (.ints .u8 c0.1), .int .i64 c0.2.1, .int .u64 c0.2.2])] = some (.bool o.1, [.ptr (.agg [.sh (.ints .u8 o.2.1), .int .i64 o.2.2.1, .int .u64 o.2.2.2])]) := by
  refine fn_run (o := o) (nr := 1) (F := k90) (st := ⟨entry 0 [.ptr 0 [] (some 0), .vw [] (.int .i64 p1)], fun n => ([.ptr (.agg [.sh (.ints .u8 c0.1), .int .i64 c0.2.1, .int .u64 c0.2.2])] : List T)[n]?, 1⟩) (fun (o : Bool × ((List Int) × Int × Int)) => (.bool o.1, [.ptr (.agg [.sh (.ints .u8 o.2.1), .int .i64 o.2.2.1, .int .u64 o.2.2.2])])) rfl fns_90 rfl rfl ?_
  refine wp_seq ?_
  refine wp_reg (nx' := 17) rfl (ev_den (.vw _ _) rfl rfl (ev_nil)) (seqQ_n (?_))
  refine wp_seq ?_
  obtain ⟨v2, hv2, h⟩ := bs h
  refine wp_reg (nx' := 97) rfl (ev_den (.ptr 0 [] (some 0)) rfl rfl (ev_den (.vw _ _) rfl rfl (ev_call1 [(.ptr 0 [] (some 0)), (.vw _ _)] rfl (call_ok (rs := [0]) (rd := []) rfl rfl rfl rfl (argL_cons rfl (argL_cons rfl (argL_nil))) rfl rfl (spec_l1Cur_pick_ok hv2) rfl rfl rfl rfl rfl) (ev_den (.vw _ _) rfl rfl (ev_den (.vw _ _) rfl rfl (ev_nil)))))) (seqQ_n (?_))
  cases h
  exact wp_ret (qf_r ((outs_ok (vs := [(.vw _ _)]) rfl (absW_cons rfl rfl (absW_nil)) rfl rfl)))
/-- loop.example/g01176/spec.DrawFixedWithin -/
noncomputable def spec_DrawFixedWithin (p0 : List Int) : Option (((Int × Int × (List Int)) × Int × Int)) :=
(spec_l1Cur_one ((10 : Int)) ((p0, (0 : Int), (0 : Int)))).bind fun v14 =>
if v14.1 = true then
(spec_l1Cur_timed v14.2).bind fun v16 =>
(spec_l1Cur_pick ((6 : Int)) v16.2).bind fun v17 =>
(spec_l1Cur_among (([(-1 : Int), (0 : Int), (100000 : Int), (100001 : Int)] : List Int)) v17.2).bind fun v18 =>
some (v16.1, (w64 (v17.1 - (1 : Int))), v18.1)
else
(spec_l1Cur_timed v14.2).bind fun v19 =>
(spec_l1Cur_pick ((5 : Int)) v19.2).bind fun v20 =>
(spec_l1Cur_pick ((256 : Int)) v20.2).bind fun v21 =>
some (v19.1, v20.1, v21.1)
theorem spec_DrawFixedWithin_ok {p0 : List Int} {o : ((Int × Int × (List Int)) × Int × Int)} (h : spec_DrawFixedWithin p0 = some o) : RN 52 [.ints .u8 p0] [] = some (.tup [.agg [.int .i64 o.1.1, .int .i64 o.1.2.1, .ints .i64 o.1.2.2], .int .i64 o.2.1, .int .i64 o.2.2], []) := by
  refine fn_run (o := o) (nr := 0) (F := k52) (st := ⟨entry 0 [.vw [] (.ints .u8 p0)], fun n => ([] : List T)[n]?, 0⟩) (fun (o : ((Int × Int × (List Int)) × Int × Int)) => (.tup [.agg [.int .i64 o.1.1, .int .i64 o.1.2.1, .ints .i64 o.1.2.2], .int .i64 o.2.1, .int .i64 o.2.2], [])) rfl fns_52 rfl rfl ?_
  refine wp_seq ?_
  refine wp_reg (nx' := 48) rfl (ev_new (.ptr 0 [] (some 0)) (.ptr (.agg [.int .i64 ((0 : Int)), .int .i64 ((0 : Int)), .ints .i64 ([])])) rfl rfl (ev_den (.vw _ _) rfl rfl (ev_den (.vw _ _) rfl rfl (ev_nil)))) (seqQ_n (?_))
  refine wp_seq ?_
  refine wp_reg (nx' := 112) rfl (ev_den (.vw _ _) rfl rfl (ev_den (.agg [(.vw _ _), (.vw _ _), (.vw _ _)]) rfl rfl (ev_wr rfl (w_box (sv := (.agg [(.vw _ _), (.vw _ _), (.vw _ _)])) rfl rfl (absW_cons rfl rfl (absW_cons rfl rfl (absW_cons rfl rfl (absW_nil))))) (ev_den (.ptr 80 [] (some 0)) rfl rfl (ev_nil))))) (seqQ_n (?_))
  refine wp_seq ?_
  refine wp_gc ?_
  refine wp_seq ?_
  obtain ⟨v14, hv14, h⟩ := bs h
  refine wp_reg (nx' := 144) rfl (ev_den (.ptr 80 [] (some 0)) rfl rfl (ev_call1 [(.ptr 80 [] (some 0)), (.vw _ _)] rfl (call_ok (rs := [80]) (rd := []) rfl rfl rfl rfl (argL_cons rfl (argL_cons rfl (argL_nil))) rfl rfl (spec_l1Cur_one_ok hv14) rfl rfl rfl rfl rfl) (ev_nil))) (seqQ_n (?_))
  rcases its h with ⟨hc15, h⟩ | ⟨hc15, h⟩
  · refine wp_ct rfl hc15 ?_
    refine wp_seq ?_
    obtain ⟨v16, hv16, h⟩ := bs h
    obtain ⟨v17, hv17, h⟩ := bs h
    obtain ⟨v18, hv18, h⟩ := bs h
    refine wp_reg (nx' := 320) rfl (ev_den (.ptr 80 [] (some 0)) rfl rfl (ev_call1 [(.ptr 80 [] (some 0))] rfl (call_ok (rs := [80]) (rd := []) rfl rfl rfl rfl (argL_cons rfl (argL_nil)) rfl rfl (spec_l1Cur_timed_ok hv16) rfl rfl rfl (bindR_a (bindL_cons rfl (bindL_cons rfl (bindL_cons rfl (bindL_nil))))) rfl) (ev_den (.ptr 80 [] (some 0)) rfl rfl (ev_call1 [(.ptr 80 [] (some 0)), (.vw _ _)] rfl (call_ok (rs := [80]) (rd := []) rfl rfl rfl rfl (argL_cons rfl (argL_cons rfl (argL_nil))) rfl rfl (spec_l1Cur_pick_ok hv17) rfl rfl rfl rfl rfl) (ev_den (.vw _ _) rfl rfl (ev_den (.ptr 80 [] (some 0)) rfl rfl (ev_den (.vw _ _) rfl rfl (ev_call1 [(.ptr 80 [] (some 0)), (.vw _ _)] rfl (call_ok (rs := [80]) (rd := []) rfl rfl rfl rfl (argL_cons rfl (argL_cons rfl (argL_nil))) rfl rfl (spec_l1Cur_among_ok hv18) rfl rfl rfl rfl rfl) (ev_wr0 rfl (w_st_a rfl rfl rfl (stL_cons (st1_of rfl rfl rfl (get_f rfl (get_nil)) rfl (rput_p (put_f rfl (put_nil)))) rfl (stL_cons (st1_of rfl rfl rfl (get_f rfl (get_nil)) rfl (rput_p (put_f rfl (put_nil)))) rfl (stL_cons (st1_of (abs_ref rfl sub_i) rfl rfl (get_f rfl (get_nil)) rfl (rput_p (put_f rfl (put_nil)))) rfl (stL_nil))))) (ev_den (.vw _ _) rfl rfl (ev_den (.vw _ _) rfl rfl (ev_nil)))))))))))) (seqQ_n (?_))
    cases h
    exact wp_ret (gcQ_r (seqQ_r (qf_r ((outs_ok (vs := [(.agg [(.vw _ _), (.vw _ _), (.ref 0 [.f 2] _ _ _)]), (.vw _ _), (.vw _ _)]) rfl (absW_cons (retT_agg (absW_cons rfl rfl (absW_cons rfl rfl (absW_cons (ret1_ref (abs_refp (r := .ptr (.agg [.int .i64 v16.1.1, .int .i64 v16.1.2.1, .ints .i64 v16.1.2.2])) rfl (get_f rfl (get_nil)) sub_i (rput_p (put_f rfl (put_nil))))) rfl (absW_nil))))) rfl (absW_cons rfl rfl (absW_cons rfl rfl (absW_nil)))) rfl rfl)))))
  · refine wp_cf rfl hc15 ?_
    refine wp_skip (gcQ_n (gc_to [0, 80] (e := [(2, .ptr 0 [] (some 0)), (5, .ptr 1 [] (some 0))]) (ts := [some (.ptr (.agg [.int .i64 ((0 : Int)), .int .i64 ((0 : Int)), .ints .i64 ([])])), some (.ptr (.agg [.sh (.ints .u8 v14.2.1), .int .i64 v14.2.2.1, .int .u64 v14.2.2.2]))]) (n := 2) rfl rfl rfl rfl) (seqQ_n (?_)))
    refine wp_seq ?_
    obtain ⟨v19, hv19, h⟩ := bs h
    obtain ⟨v20, hv20, h⟩ := bs h
    obtain ⟨v21, hv21, h⟩ := bs h
    refine wp_reg (nx' := 146) rfl (ev_den (.ptr 1 [] (some 0)) rfl rfl (ev_call1 [(.ptr 1 [] (some 0))] rfl (call_ok (rs := [1]) (rd := []) rfl rfl rfl rfl (argL_cons rfl (argL_nil)) rfl rfl (spec_l1Cur_timed_ok hv19) rfl rfl rfl (bindR_a (bindL_cons rfl (bindL_cons rfl (bindL_cons rfl (bindL_nil))))) rfl) (ev_den (.ptr 1 [] (some 0)) rfl rfl (ev_call1 [(.ptr 1 [] (some 0)), (.vw _ _)] rfl (call_ok (rs := [1]) (rd := []) rfl rfl rfl rfl (argL_cons rfl (argL_cons rfl (argL_nil))) rfl rfl (spec_l1Cur_pick_ok hv20) rfl rfl rfl rfl rfl) (ev_den (.ptr 1 [] (some 0)) rfl rfl (ev_call1 [(.ptr 1 [] (some 0)), (.vw _ _)] rfl (call_ok (rs := [1]) (rd := []) rfl rfl rfl rfl (argL_cons rfl (argL_cons rfl (argL_nil))) rfl rfl (spec_l1Cur_pick_ok hv21) rfl rfl rfl rfl rfl) (ev_wr0 rfl (w_st_a rfl rfl rfl (stL_cons (st1_of rfl rfl rfl (get_f rfl (get_nil)) rfl (rput_p (put_f rfl (put_nil)))) rfl (stL_cons (st1_of rfl rfl rfl (get_f rfl (get_nil)) rfl (rput_p (put_f rfl (put_nil)))) rfl (stL_cons (st1_of (abs_ref rfl sub_i) rfl rfl (get_f rfl (get_nil)) rfl (rput_p (put_f rfl (put_nil)))) rfl (stL_nil))))) (ev_den (.vw _ _) rfl rfl (ev_den (.vw _ _) rfl rfl (ev_nil)))))))))) (seqQ_n (?_))
    cases h
    exact wp_ret (qf_r ((outs_ok (vs := [(.agg [(.vw _ _), (.vw _ _), (.ref 0 [.f 2] _ _ _)]), (.vw _ _), (.vw _ _)]) rfl (absW_cons (retT_agg (absW_cons rfl rfl (absW_cons rfl rfl (absW_cons (ret1_ref (abs_refp (r := .ptr (.agg [.int .i64 v19.1.1, .int .i64 v19.1.2.1, .ints .i64 v19.1.2.2])) rfl (get_f rfl (get_nil)) sub_i (rput_p (put_f rfl (put_nil))))) rfl (absW_nil))))) rfl (absW_cons rfl rfl (absW_cons rfl rfl (absW_nil)))) rfl rfl)))
noncomputable def impl_FixedWithin_j1 (p0 : Int × Int × (List Int)) (p1 : Int) (p2 : Int) : Bool → Option ((Int × Bool)) := fun x22 =>
if x22 = true then
some ((0 : Int), false)
else
(at? p0.2.2 p1).bind fun v24 =>
(nz? ((w64 ((2 : Int) * p0.1)))).bind fun u25 =>
some ((w64 (v24 * (w64 ((1 : Int) + (w64 (Int.tdiv p2 (w64 ((2 : Int) * p0.1)))))))), true)
/-- loop.example/g01176/impl.FixedWithin -/
noncomputable def impl_FixedWithin (p0 : Int × Int × (List Int)) (p1 : Int) (p2 : Int) : Option ((Int × Bool)) :=
(impl_IsTimedRing p0).bind fun v26 =>
if (!v26) = true then
impl_FixedWithin_j1 p0 p1 p2 true
else
(impl_within p1 ((0 : Int)) ((w64 ((List.length p0.2.2 : Int) - (1 : Int))))).bind fun v29 =>
if (!v29) = true then
impl_FixedWithin_j1 p0 p1 p2 true
else
(impl_within p2 ((0 : Int)) ((100000 : Int))).bind fun v32 =>
impl_FixedWithin_j1 p0 p1 p2 (!v32)
theorem impl_FixedWithin_ok {p0 : Int × Int × (List Int)} {p1 : Int} {p2 : Int} {o : (Int × Bool)} (h : impl_FixedWithin p0 p1 p2 = some o) : RN 17 [.agg [.int .i64 p0.1, .int .i64 p0.2.1, .ints .i64 p0.2.2], .int .i64 p1, .int .i64 p2] [] = some (.tup [.int .i64 o.1, .bool o.2], []) := by
  refine fn_run (o := o) (nr := 0) (F := k17) (st := ⟨entry 0 [.agg [.vw [] (.int .i64 p0.1), .vw [] (.int .i64 p0.2.1), .vw [] (.ints .i64 p0.2.2)], .vw [] (.int .i64 p1), .vw [] (.int .i64 p2)], fun n => ([] : List T)[n]?, 0⟩) (fun (o : (Int × Bool)) => (.tup [.int .i64 o.1, .bool o.2], [])) rfl fns_17 rfl rfl ?_
  refine wp_seq ?_
  refine wp_reg (nx' := 48) rfl (ev_wr rfl (w_box (sv := (.agg [(.vw _ _), (.vw _ _), (.vw _ _)])) rfl rfl (absW_cons rfl rfl (absW_cons rfl rfl (absW_cons rfl rfl (absW_nil))))) (ev_den (.vw _ _) rfl rfl (ev_den (.vw _ _) rfl rfl (ev_nil)))) (seqQ_n (?_))
  refine wp_seq ?_
  refine wp_gc ?_
  refine wp_seq ?_
  refine wp_join (impl_FixedWithin_j1 p0 p1 p2) (fun (x22 : Bool) => (⟨al .dead [(1, .vw [] (.int .i64 p1)), (2, .vw [] (.int .i64 p2)), (3, .ptr 0 [] (some 0)), (24, .vw [] (.bool x22))], hl [some (.ptr (.agg [.int .i64 p0.1, .int .i64 p0.2.1, .sh (.ints .i64 p0.2.2)]))], 1⟩ : St)) ?_ ?_
  · rintro x22 o h
    refine seqQ_n (?_)
    rcases its h with ⟨hc23, h⟩ | ⟨hc23, h⟩
    · refine wp_ct rfl hc23 ?_
      refine wp_seq ?_
      refine wp_reg (nx' := 33) rfl (ev_den (.vw _ _) rfl rfl (ev_den (.vw _ _) rfl rfl (ev_nil))) (seqQ_n (?_))
      cases h
      exact wp_ret (gcQ_r (seqQ_r (qf_r ((outs_ok (vs := [(.vw _ _), (.vw _ _)]) rfl (absW_cons rfl rfl (absW_cons rfl rfl (absW_nil))) rfl rfl)))))
    · refine wp_cf rfl hc23 ?_
      refine wp_skip (gcQ_n (gc_to [0] (e := [(1, .vw [] (.int .i64 p1)), (2, .vw [] (.int .i64 p2)), (3, .ptr 0 [] (some 0))]) (ts := [some (.ptr (.agg [.int .i64 p0.1, .int .i64 p0.2.1, .sh (.ints .i64 p0.2.2)]))]) (n := 1) rfl rfl rfl rfl) (seqQ_n (?_)))
      refine wp_seq ?_
      obtain ⟨v24, hv24, h⟩ := bs h
      obtain ⟨u25, hu25, h⟩ := bs h
      refine wp_reg (nx' := 225) rfl (ev_den (.ptr 0 [] (some 2)) rfl rfl (ev_den (.vw _ _) rfl (d_ld_o rfl (rget_of rfl (get_nil)) rfl rfl) (ev_den (.vw _ _) rfl rfl (ev_den (.pv _ _) rfl (d_idx_vi rfl rfl hv24) (ev_den (.vw _ _) rfl rfl (ev_den (.vw _ _) rfl rfl (ev_den (.ptr 0 [] (some 0)) rfl rfl (ev_den (.vw _ _) rfl (d_ld_o rfl (rget_of rfl (get_nil)) rfl rfl) (ev_den (.vw _ _) rfl rfl (ev_den (.vw _ _) rfl (d_quo rfl rfl hu25) (ev_den (.vw _ _) rfl rfl (ev_den (.vw _ _) rfl rfl (ev_den (.vw _ _) rfl rfl (ev_den (.vw _ _) rfl rfl (ev_nil))))))))))))))) (seqQ_n (?_))
      cases h
      exact wp_ret (qf_r ((outs_ok (vs := [(.vw _ _), (.vw _ _)]) rfl (absW_cons rfl rfl (absW_cons rfl rfl (absW_nil))) rfl rfl)))
  · obtain ⟨v26, hv26, h⟩ := bs h
    rcases its h with ⟨hc27, h⟩ | ⟨hc27, h⟩
    · exact wp_reg (nx' := 320) rfl (ev_den (.agg [(.vw _ _), (.vw _ _), (.vw _ _)]) rfl (d_ld_os rfl (rget_of rfl (get_nil)) rfl (cells_cons rfl (cells_cons rfl (cells_cons rfl (cells_nil))))) (ev_call0 [(.agg [(.vw _ _), (.vw _ _), (.vw _ _)])] rfl (call_ok (rs := []) (rd := []) rfl rfl rfl rfl (argL_cons (argT_a (argL_cons rfl (argL_cons rfl (argL_cons rfl (argL_nil))))) (argL_nil)) rfl rfl (impl_IsTimedRing_ok hv26) rfl rfl rfl rfl rfl) (ev_den (.vw _ _) rfl rfl (ev_den (.vw _ _) rfl rfl (ev_off rfl hc27 (ev_off rfl hc27 (ev_off rfl hc27 (ev_off rfl hc27 (ev_off rfl hc27 (ev_off rfl hc27 (ev_off rfl hc27 (ev_den (.vw _ _) rfl (d_pick_t rfl hc27 rfl) (ev_den (.vw _ _) rfl rfl (ev_off rfl rfl (ev_off rfl rfl (ev_off rfl rfl (ev_den (.vw _ _) rfl (d_pick_t rfl rfl rfl) (ev_nil)))))))))))))))))) (joinQ_n true h (gc_to [0] rfl rfl rfl rfl))
    · obtain ⟨v29, hv29, h⟩ := bs h
      rcases its h with ⟨hc30, h⟩ | ⟨hc30, h⟩
      · exact wp_reg (nx' := 320) rfl (ev_den (.agg [(.vw _ _), (.vw _ _), (.vw _ _)]) rfl (d_ld_os rfl (rget_of rfl (get_nil)) rfl (cells_cons rfl (cells_cons rfl (cells_cons rfl (cells_nil))))) (ev_call0 [(.agg [(.vw _ _), (.vw _ _), (.vw _ _)])] rfl (call_ok (rs := []) (rd := []) rfl rfl rfl rfl (argL_cons (argT_a (argL_cons rfl (argL_cons rfl (argL_cons rfl (argL_nil))))) (argL_nil)) rfl rfl (impl_IsTimedRing_ok hv26) rfl rfl rfl rfl rfl) (ev_den (.vw _ _) rfl rfl (ev_den (.vw _ _) rfl rfl (ev_on rfl hc27 (ev_den (.vw _ _) rfl rfl (ev_on rfl hc27 (ev_den (.ptr 0 [] (some 2)) rfl rfl (ev_on rfl hc27 (ev_den (.vw _ _) rfl (d_ld_o rfl (rget_of rfl (get_nil)) rfl rfl) (ev_on rfl hc27 (ev_den (.vw _ _) rfl rfl (ev_on rfl hc27 (ev_den (.vw _ _) rfl rfl (ev_on rfl hc27 (ev_call0 [(.vw _ _), (.vw _ _), (.vw _ _)] rfl (call_ok (rs := []) (rd := []) rfl rfl rfl rfl (argL_cons rfl (argL_cons rfl (argL_cons rfl (argL_nil)))) rfl rfl (impl_within_ok hv29) rfl rfl rfl rfl rfl) (ev_on rfl hc27 (ev_den (.vw _ _) rfl rfl (ev_den (.vw _ _) rfl (d_pick_f rfl hc27 rfl) (ev_den (.vw _ _) rfl rfl (ev_off rfl hc30 (ev_off rfl hc30 (ev_off rfl hc30 (ev_den (.vw _ _) rfl (d_pick_t rfl hc30 rfl) (ev_nil))))))))))))))))))))))))) (joinQ_n true h (gc_to [0] rfl rfl rfl rfl))
      · obtain ⟨v32, hv32, h⟩ := bs h
        exact wp_reg (nx' := 320) rfl (ev_den (.agg [(.vw _ _), (.vw _ _), (.vw _ _)]) rfl (d_ld_os rfl (rget_of rfl (get_nil)) rfl (cells_cons rfl (cells_cons rfl (cells_cons rfl (cells_nil))))) (ev_call0 [(.agg [(.vw _ _), (.vw _ _), (.vw _ _)])] rfl (call_ok (rs := []) (rd := []) rfl rfl rfl rfl (argL_cons (argT_a (argL_cons rfl (argL_cons rfl (argL_cons rfl (argL_nil))))) (argL_nil)) rfl rfl (impl_IsTimedRing_ok hv26) rfl rfl rfl rfl rfl) (ev_den (.vw _ _) rfl rfl (ev_den (.vw _ _) rfl rfl (ev_on rfl hc27 (ev_den (.vw _ _) rfl rfl (ev_on rfl hc27 (ev_den (.ptr 0 [] (some 2)) rfl rfl (ev_on rfl hc27 (ev_den (.vw _ _) rfl (d_ld_o rfl (rget_of rfl (get_nil)) rfl rfl) (ev_on rfl hc27 (ev_den (.vw _ _) rfl rfl (ev_on rfl hc27 (ev_den (.vw _ _) rfl rfl (ev_on rfl hc27 (ev_call0 [(.vw _ _), (.vw _ _), (.vw _ _)] rfl (call_ok (rs := []) (rd := []) rfl rfl rfl rfl (argL_cons rfl (argL_cons rfl (argL_cons rfl (argL_nil)))) rfl rfl (impl_within_ok hv29) rfl rfl rfl rfl rfl) (ev_on rfl hc27 (ev_den (.vw _ _) rfl rfl (ev_den (.vw _ _) rfl (d_pick_f rfl hc27 rfl) (ev_den (.vw _ _) rfl rfl (ev_on rfl hc30 (ev_den (.vw _ _) rfl rfl (ev_on rfl hc30 (ev_call0 [(.vw _ _), (.vw _ _), (.vw _ _)] rfl (call_ok (rs := []) (rd := []) rfl rfl rfl rfl (argL_cons rfl (argL_cons rfl (argL_cons rfl (argL_nil)))) rfl rfl (impl_within_ok hv32) rfl rfl rfl rfl rfl) (ev_on rfl hc30 (ev_den (.vw _ _) rfl rfl (ev_den (.vw _ _) rfl (d_pick_f rfl hc30 rfl) (ev_nil)))))))))))))))))))))))))))) (joinQ_n (!v32) h (gc_to [0] rfl rfl rfl rfl))
noncomputable def spec_FixedWithin_j1 (p0 : Int × Int × (List Int)) (p1 : Int) (p2 : Int) : Bool → Option ((Int × Bool)) := fun x22 =>
if x22 = true then
some ((0 : Int), false)
else
(at? p0.2.2 p1).bind fun v24 =>
(nz? ((w64 ((2 : Int) * p0.1)))).bind fun u25 =>
some ((w64 (v24 * (w64 ((1 : Int) + (w64 (Int.tdiv p2 (w64 ((2 : Int) * p0.1)))))))), true)
/-- loop.example/g01176/spec.FixedWithin -/
noncomputable def spec_FixedWithin (p0 : Int × Int × (List Int)) (p1 : Int) (p2 : Int) : Option ((Int × Bool)) :=
(spec_boTimed p0).bind fun v26 =>
if (!v26) = true then
spec_FixedWithin_j1 p0 p1 p2 true
else
(spec_l1In p1 ((0 : Int)) ((w64 ((List.length p0.2.2 : Int) - (1 : Int))))).bind fun v29 =>
if (!v29) = true then
spec_FixedWithin_j1 p0 p1 p2 true
else
(spec_l1In p2 ((0 : Int)) ((100000 : Int))).bind fun v32 =>
spec_FixedWithin_j1 p0 p1 p2 (!v32)
theorem spec_FixedWithin_ok {p0 : Int × Int × (List Int)} {p1 : Int} {p2 : Int} {o : (Int × Bool)} (h : spec_FixedWithin p0 p1 p2 = some o) : RN 15 [.agg [.int .i64 p0.1, .int .i64 p0.2.1, .ints .i64 p0.2.2], .int .i64 p1, .int .i64 p2] [] = some (.tup [.int .i64 o.1, .bool o.2], []) := by
  refine fn_run (o := o) (nr := 0) (F := k15) (st := ⟨entry 0 [.agg [.vw [] (.int .i64 p0.1), .vw [] (.int .i64 p0.2.1), .vw [] (.ints .i64 p0.2.2)], .vw [] (.int .i64 p1), .vw [] (.int .i64 p2)], fun n => ([] : List T)[n]?, 0⟩) (fun (o : (Int × Bool)) => (.tup [.int .i64 o.1, .bool o.2], [])) rfl fns_15 rfl rfl ?_
  refine wp_seq ?_
  refine wp_reg (nx' := 48) rfl (ev_wr rfl (w_box (sv := (.agg [(.vw _ _), (.vw _ _), (.vw _ _)])) rfl rfl (absW_cons rfl rfl (absW_cons rfl rfl (absW_cons rfl rfl (absW_nil))))) (ev_den (.vw _ _) rfl rfl (ev_den (.vw _ _) rfl rfl (ev_nil)))) (seqQ_n (?_))
  refine wp_seq ?_
  refine wp_gc ?_
  refine wp_seq ?_
  refine wp_join (spec_FixedWithin_j1 p0 p1 p2) (fun (x22 : Bool) => (⟨al .dead [(1, .vw [] (.int .i64 p1)), (2, .vw [] (.int .i64 p2)), (3, .ptr 0 [] (some 0)), (24, .vw [] (.bool x22))], hl [some (.ptr (.agg [.int .i64 p0.1, .int .i64 p0.2.1, .sh (.ints .i64 p0.2.2)]))], 1⟩ : St)) ?_ ?_
  · rintro x22 o h
    refine seqQ_n (?_)
    rcases its h with ⟨hc23, h⟩ | ⟨hc23, h⟩
    · refine wp_ct rfl hc23 ?_
      refine wp_seq ?_
      refine wp_reg (nx' := 33) rfl (ev_den (.vw _ _) rfl rfl (ev_den (.vw _ _) rfl rfl (ev_nil))) (seqQ_n (?_))
      cases h
      exact wp_ret (gcQ_r (seqQ_r (qf_r ((outs_ok (vs := [(.vw _ _), (.vw _ _)]) rfl (absW_cons rfl rfl (absW_cons rfl rfl (absW_nil))) rfl rfl)))))
    · refine wp_cf rfl hc23 ?_
      refine wp_skip (gcQ_n (gc_to [0] (e := [(1, .vw [] (.int .i64 p1)), (2, .vw [] (.int .i64 p2)), (3, .ptr 0 [] (some 0))]) (ts := [some (.ptr (.agg [.int .i64 p0.1, .int .i64 p0.2.1, .sh (.ints .i64 p0.2.2)]))]) (n := 1) rfl rfl rfl rfl) (seqQ_n (?_)))
      refine wp_seq ?_
      obtain ⟨v24, hv24, h⟩ := bs h
      obtain ⟨u25, hu25, h⟩ := bs h
      refine wp_reg (nx' := 225) rfl (ev_den (.ptr 0 [] (some 2)) rfl rfl (ev_den (.vw _ _) rfl (d_ld_o rfl (rget_of rfl (get_nil)) rfl rfl) (ev_den (.vw _ _) rfl rfl (ev_den (.pv _ _) rfl (d_idx_vi rfl rfl hv24) (ev_den (.vw _ _) rfl rfl (ev_den (.vw _ _) rfl rfl (ev_den (.ptr 0 [] (some 0)) rfl rfl (ev_den (.vw _ _) rfl (d_ld_o rfl (rget_of rfl (get_nil)) rfl rfl) (ev_den (.vw _ _) rfl rfl (ev_den (.vw _ _) rfl (d_quo rfl rfl hu25) (ev_den (.vw _ _) rfl rfl (ev_den (.vw _ _) rfl rfl (ev_den (.vw _ _) rfl rfl (ev_den (.vw _ _) rfl rfl (ev_nil))))))))))))))) (seqQ_n (?_))
      cases h
      exact wp_ret (qf_r ((outs_ok (vs := [(.vw _ _), (.vw _ _)]) rfl (absW_cons rfl rfl (absW_cons rfl rfl (absW_nil))) rfl rfl)))
  · obtain ⟨v26, hv26, h⟩ := bs h
    rcases its h with ⟨hc27, h⟩ | ⟨hc27, h⟩
    · exact wp_reg (nx' := 320) rfl (ev_den (.agg [(.vw _ _), (.vw _ _), (.vw _ _)]) rfl (d_ld_os rfl (rget_of rfl (get_nil)) rfl (cells_cons rfl (cells_cons rfl (cells_cons rfl (cells_nil))))) (ev_call0 [(.agg [(.vw _ _), (.vw _ _), (.vw _ _)])] rfl (call_ok (rs := []) (rd := []) rfl rfl rfl rfl (argL_cons (argT_a (argL_cons rfl (argL_cons rfl (argL_cons rfl (argL_nil))))) (argL_nil)) rfl rfl (spec_boTimed_ok hv26) rfl rfl rfl rfl rfl) (ev_den (.vw _ _) rfl rfl (ev_den (.vw _ _) rfl rfl (ev_off rfl hc27 (ev_off rfl hc27 (ev_off rfl hc27 (ev_off rfl hc27 (ev_off rfl hc27 (ev_off rfl hc27 (ev_off rfl hc27 (ev_den (.vw _ _) rfl (d_pick_t rfl hc27 rfl) (ev_den (.vw _ _) rfl rfl (ev_off rfl rfl (ev_off rfl rfl (ev_off rfl rfl (ev_den (.vw _ _) rfl (d_pick_t rfl rfl rfl) (ev_nil)))))))))))))))))) (joinQ_n true h (gc_to [0] rfl rfl rfl rfl))
    · obtain ⟨v29, hv29, h⟩ := bs h
      rcases its h with ⟨hc30, h⟩ | ⟨hc30, h⟩
      · exact wp_reg (nx' := 320) rfl (ev_den (.agg [(.vw _ _), (.vw _ _), (.vw _ _)]) rfl (d_ld_os rfl (rget_of rfl (get_nil)) rfl (cells_cons rfl (cells_cons rfl (cells_cons rfl (cells_nil))))) (ev_call0 [(.agg [(.vw _ _), (.vw _ _), (.vw _ _)])] rfl (call_ok (rs := []) (rd := []) rfl rfl rfl rfl (argL_cons (argT_a (argL_cons rfl (argL_cons rfl (argL_cons rfl (argL_nil))))) (argL_nil)) rfl rfl (spec_boTimed_ok hv26) rfl rfl rfl rfl rfl) (ev_den (.vw _ _) rfl rfl (ev_den (.vw _ _) rfl rfl (ev_on rfl hc27 (ev_den (.vw _ _) rfl rfl (ev_on rfl hc27 (ev_den (.ptr 0 [] (some 2)) rfl rfl (ev_on rfl hc27 (ev_den (.vw _ _) rfl (d_ld_o rfl (rget_of rfl (get_nil)) rfl rfl) (ev_on rfl hc27 (ev_den (.vw _ _) rfl rfl (ev_on rfl hc27 (ev_den (.vw _ _) rfl rfl (ev_on rfl hc27 (ev_call0 [(.vw _ _), (.vw _ _), (.vw _ _)] rfl (call_ok (rs := []) (rd := []) rfl rfl rfl rfl (argL_cons rfl (argL_cons rfl (argL_cons rfl (argL_nil)))) rfl rfl (spec_l1In_ok hv29) rfl rfl rfl rfl rfl) (ev_on rfl hc27 (ev_den (.vw _ _) rfl rfl (ev_den (.vw _ _) rfl (d_pick_f rfl hc27 rfl) (ev_den (.vw _ _) rfl rfl (ev_off rfl hc30 (ev_off rfl hc30 (ev_off rfl hc30 (ev_den (.vw _ _) rfl (d_pick_t rfl hc30 rfl) (ev_nil))))))))))))))))))))))))) (joinQ_n true h (gc_to [0] rfl rfl rfl rfl))
      · obtain ⟨v32, hv32, h⟩ := bs h
        exact wp_reg (nx' := 320) rfl (ev_den (.agg [(.vw _ _), (.vw _ _), (.vw _ _)]) rfl (d_ld_os rfl (rget_of rfl (get_nil)) rfl (cells_cons rfl (cells_cons rfl (cells_cons rfl (cells_nil))))) (ev_call0 [(.agg [(.vw _ _), (.vw _ _), (.vw _ _)])] rfl (call_ok (rs := []) (rd := []) rfl rfl rfl rfl (argL_cons (argT_a (argL_cons rfl (argL_cons rfl (argL_cons rfl (argL_nil))))) (argL_nil)) rfl rfl (spec_boTimed_ok hv26) rfl rfl rfl rfl rfl) (ev_den (.vw _ _) rfl rfl (ev_den (.vw _ _) rfl rfl (ev_on rfl hc27 (ev_den (.vw _ _) rfl rfl (ev_on rfl hc27 (ev_den (.ptr 0 [] (some 2)) rfl rfl (ev_on rfl hc27 (ev_den (.vw _ _) rfl (d_ld_o rfl (rget_of rfl (get_nil)) rfl rfl) (ev_on rfl hc27 (ev_den (.vw _ _) rfl rfl (ev_on rfl hc27 (ev_den (.vw _ _) rfl rfl (ev_on rfl hc27 (ev_call0 [(.vw _ _), (.vw _ _), (.vw _ _)] rfl (call_ok (rs := []) (rd := []) rfl rfl rfl rfl (argL_cons rfl (argL_cons rfl (argL_cons rfl (argL_nil)))) rfl rfl (spec_l1In_ok hv29) rfl rfl rfl rfl rfl) (ev_on rfl hc27 (ev_den (.vw _ _) rfl rfl (ev_den (.vw _ _) rfl (d_pick_f rfl hc27 rfl) (ev_den (.vw _ _) rfl rfl (ev_on rfl hc30 (ev_den (.vw _ _) rfl rfl (ev_on rfl hc30 (ev_call0 [(.vw _ _), (.vw _ _), (.vw _ _)] rfl (call_ok (rs := []) (rd := []) rfl rfl rfl rfl (argL_cons rfl (argL_cons rfl (argL_cons rfl (argL_nil)))) rfl rfl (spec_l1In_ok hv32) rfl rfl rfl rfl rfl) (ev_on rfl hc30 (ev_den (.vw _ _) rfl rfl (ev_den (.vw _ _) rfl (d_pick_f rfl hc30 rfl) (ev_nil)))))))))))))))))))))))))))) (joinQ_n (!v32) h (gc_to [0] rfl rfl rfl rfl))
end Go.Proofs.Ytoeddkfbhjmbmaa.Ev.Q2
