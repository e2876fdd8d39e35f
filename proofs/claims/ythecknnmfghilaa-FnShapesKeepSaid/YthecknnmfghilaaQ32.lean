/- What functions of the program come to, as plain functions; no condition. -/
import Derived.Test.YthecknnmfghilaaQ31
set_option linter.unusedVariables false
set_option linter.unusedSimpArgs false
set_option maxRecDepth 100000
set_option maxHeartbeats 4000000
set_option linter.unusedVariables false
namespace Go.Proofs.Ythecknnmfghilaa.Ev.Q3
open Go
/-- (loop.example/g01176/impl.Bucket).shape -/
noncomputable def impl_Bucket_shape (p0 : Int × Int) (p1 : List Int) : Option ((((List Int) × Int × Int) × Bool)) :=
(impl_sent p1 p0.2 p0).bind fun v2 =>
some v2.1
theorem impl_Bucket_shape_ok {p0 : Int × Int} {p1 : List Int} {o : (((List Int) × Int × Int) × Bool)} (h : impl_Bucket_shape p0 p1 = some o) : RN 63 [.agg [.int .i64 p0.1, .int .i64 p0.2], .ints .i64 p1] [] = some (.tup [.agg [.ints .i64 o.1.1, .int .i64 o.1.2.1, .int .i64 o.1.2.2], .bool o.2], []) := by
  refine fn_run (o := o) (nr := 0) (F := k63) (st := ⟨entry 0 [.agg [.vw [] (.int .i64 p0.1), .vw [] (.int .i64 p0.2)], .vw [] (.ints .i64 p1)], fun n => ([] : List T)[n]?, 0⟩) (fun (o : (((List Int) × Int × Int) × Bool)) => (.tup [.agg [.ints .i64 o.1.1, .int .i64 o.1.2.1, .int .i64 o.1.2.2], .bool o.2], [])) rfl fns_63 rfl rfl ?_
  refine wp_seq ?_
  refine wp_reg (nx' := 48) rfl (ev_wr rfl (w_box (sv := (.agg [(.vw _ _), (.vw _ _)])) rfl rfl (absW_cons rfl rfl (absW_cons rfl rfl (absW_nil)))) (ev_new (.ptr 16 [] (some 0)) (.ptr (.agg [.ints .i64 ([]), .int .i64 ((0 : Int)), .int .i64 ((0 : Int))])) rfl rfl (ev_den (.vw _ _) rfl rfl (ev_nil)))) (seqQ_n (?_))
  refine wp_seq ?_
  refine wp_reg (nx' := 112) rfl (ev_den (.ptr 0 [] (some 1)) rfl rfl (ev_den (.vw _ _) rfl (d_ld_o rfl (rget_of rfl (get_nil)) rfl rfl) (ev_new (.ptr 80 [] (some 0)) (.ptr (.agg [.int .i64 ((0 : Int))])) rfl rfl (ev_wr0 rfl (w_st_o rfl rfl (st1_of rfl rfl rfl (get_f rfl (get_nil)) rfl (rput_p (put_f rfl (put_nil))))) (ev_nil))))) (seqQ_n (?_))
  refine wp_seq ?_
  obtain ⟨v2, hv2, h⟩ := bs h
  refine wp_reg (nx' := 240) rfl (ev_den (.vw _ _) rfl rfl (ev_den (.fn 70 [(.ptr 80 [] (some 0))]) rfl rfl (ev_den (.fn 71 [(.ptr 0 [] (some 0)), (.ptr 80 [] (some 0))]) rfl rfl (ev_call1 [(.vw _ _), (.fn 70 [(.ptr 80 [] (some 0))]), (.fn 71 [(.ptr 0 [] (some 0)), (.ptr 80 [] (some 0))])] rfl (call_ok (rs := [80, 0]) (rd := []) rfl rfl rfl rfl (argL_cons rfl (argL_cons (argT_f (argL_cons rfl (argL_nil))) (argL_cons (argT_f (argL_cons rfl (argL_cons rfl (argL_nil)))) (argL_nil)))) rfl rfl (impl_sent_ok hv2) rfl rfl rfl (bindR_t (bindL_cons (bindR_a (bindL_cons rfl (bindL_cons rfl (bindL_cons rfl (bindL_nil))))) (bindL_cons rfl (bindL_nil)))) rfl) (ev_den (.agg [(.ref 160 _ _ _ _), (.vw _ _), (.vw _ _)]) rfl rfl (ev_den (.vw _ _) rfl rfl (ev_wr0 rfl (w_st_a rfl rfl rfl (stL_cons (st1_of (abs_ref rfl sub_i) rfl rfl (get_f rfl (get_nil)) rfl (rput_p (put_f rfl (put_nil)))) rfl (stL_cons (st1_of rfl rfl rfl (get_f rfl (get_nil)) rfl (rput_p (put_f rfl (put_nil)))) rfl (stL_cons (st1_of rfl rfl rfl (get_f rfl (get_nil)) rfl (rput_p (put_f rfl (put_nil)))) rfl (stL_nil))))) (ev_den (.vw _ _) rfl rfl (ev_nil))))))))) (seqQ_n (?_))
  replace h := Option.some.inj h
  subst h
  exact wp_ret (qf_r ((outs_ok (vs := [(.agg [(.ref 16 [.f 0] _ _ _), (.vw _ _), (.vw _ _)]), (.vw _ _)]) rfl (absW_cons (retT_agg (absW_cons (ret1_ref (abs_refp (r := .ptr (.agg [.ints .i64 v2.1.1.1, .int .i64 v2.1.1.2.1, .int .i64 v2.1.1.2.2])) rfl (get_f rfl (get_nil)) sub_i (rput_p (put_f rfl (put_nil))))) rfl (absW_cons rfl rfl (absW_cons rfl rfl (absW_nil))))) rfl (absW_cons rfl rfl (absW_nil))) rfl rfl)))
/-- loop.example/g01176/impl.shaped -/
noncomputable def impl_shaped (p0 : Int × Int) (p1 : List Int) : Option ((((List Int) × Int × Int) × Bool)) :=
(impl_isShaped p0 p1).bind fun v6 =>
if (!v6) = true then
some (([], (0 : Int), (0 : Int)), false)
else
(impl_Bucket_shape p0 p1).bind fun v8 =>
some v8
theorem impl_shaped_ok {p0 : Int × Int} {p1 : List Int} {o : (((List Int) × Int × Int) × Bool)} (h : impl_shaped p0 p1 = some o) : RN 39 [.agg [.int .i64 p0.1, .int .i64 p0.2], .ints .i64 p1] [] = some (.tup [.agg [.ints .i64 o.1.1, .int .i64 o.1.2.1, .int .i64 o.1.2.2], .bool o.2], []) := by
  refine fn_run (o := o) (nr := 0) (F := k39) (st := ⟨entry 0 [.agg [.vw [] (.int .i64 p0.1), .vw [] (.int .i64 p0.2)], .vw [] (.ints .i64 p1)], fun n => ([] : List T)[n]?, 0⟩) (fun (o : (((List Int) × Int × Int) × Bool)) => (.tup [.agg [.ints .i64 o.1.1, .int .i64 o.1.2.1, .int .i64 o.1.2.2], .bool o.2], [])) rfl fns_39 rfl rfl ?_
  refine wp_seq ?_
  refine wp_reg (nx' := 48) rfl (ev_wr rfl (w_box (sv := (.agg [(.vw _ _), (.vw _ _)])) rfl rfl (absW_cons rfl rfl (absW_cons rfl rfl (absW_nil)))) (ev_new (.ptr 16 [] (some 0)) (.ptr (.agg [.ints .i64 ([]), .int .i64 ((0 : Int)), .int .i64 ((0 : Int))])) rfl rfl (ev_den (.vw _ _) rfl rfl (ev_nil)))) (seqQ_n (?_))
  refine wp_seq ?_
  refine wp_gc ?_
  refine wp_seq ?_
  obtain ⟨v6, hv6, h⟩ := bs h
  refine wp_reg (nx' := 112) rfl (ev_den (.agg [(.vw _ _), (.vw _ _)]) rfl (d_ld_os rfl (rget_of rfl (get_nil)) rfl (cells_cons rfl (cells_cons rfl (cells_nil)))) (ev_den (.vw _ _) rfl rfl (ev_call0 [(.agg [(.vw _ _), (.vw _ _)]), (.vw _ _)] rfl (call_ok (rs := []) (rd := []) rfl rfl rfl rfl (argL_cons (argT_a (argL_cons rfl (argL_cons rfl (argL_nil)))) (argL_cons rfl (argL_nil))) rfl rfl (impl_isShaped_ok hv6) rfl rfl rfl rfl rfl) (ev_den (.vw _ _) rfl rfl (ev_nil))))) (seqQ_n (?_))
  rcases its h with ⟨hc7, h⟩ | ⟨hc7, h⟩
  · refine wp_ct rfl hc7 ?_
    refine wp_seq ?_
    refine wp_reg (nx' := 160) rfl (ev_den (.agg [(.nilS _), (.vw _ _), (.vw _ _)]) rfl rfl (ev_wr0 rfl (w_st_a rfl rfl rfl (stL_cons (st1_of rfl rfl rfl (get_f rfl (get_nil)) rfl (rput_p (put_f rfl (put_nil)))) rfl (stL_cons (st1_of rfl rfl rfl (get_f rfl (get_nil)) rfl (rput_p (put_f rfl (put_nil)))) rfl (stL_cons (st1_of rfl rfl rfl (get_f rfl (get_nil)) rfl (rput_p (put_f rfl (put_nil)))) rfl (stL_nil))))) (ev_den (.vw _ _) rfl rfl (ev_nil)))) (seqQ_n (?_))
    replace h := Option.some.inj h
    subst h
    exact wp_ret (gcQ_r (seqQ_r (qf_r ((outs_ok (vs := [(.agg [(.ref 16 [.f 0] _ _ _), (.vw _ _), (.vw _ _)]), (.vw _ _)]) rfl (absW_cons (retT_agg (absW_cons (ret1_ref (abs_refp (r := .ptr (.agg [.ints .i64 ([]), .int .i64 ((0 : Int)), .int .i64 ((0 : Int))])) rfl (get_f rfl (get_nil)) sub_i (rput_p (put_f rfl (put_nil))))) rfl (absW_cons rfl rfl (absW_cons rfl rfl (absW_nil))))) rfl (absW_cons rfl rfl (absW_nil))) rfl rfl)))))
  · refine wp_cf rfl hc7 ?_
    refine wp_skip (gcQ_n (gc_to [0, 16] (e := [(1, .vw [] (.ints .i64 p1)), (2, .ptr 0 [] (some 0)), (4, .ptr 1 [] (some 0))]) (ts := [some (.ptr (.agg [.int .i64 p0.1, .int .i64 p0.2])), some (.ptr (.agg [.ints .i64 ([]), .int .i64 ((0 : Int)), .int .i64 ((0 : Int))]))]) (n := 2) rfl rfl rfl rfl) (seqQ_n (?_)))
    refine wp_seq ?_
    obtain ⟨v8, hv8, h⟩ := bs h
    refine wp_reg (nx' := 114) rfl (ev_den (.agg [(.vw _ _), (.vw _ _)]) rfl (d_ld_os rfl (rget_of rfl (get_nil)) rfl (cells_cons rfl (cells_cons rfl (cells_nil)))) (ev_den (.vw _ _) rfl rfl (ev_call0 [(.agg [(.vw _ _), (.vw _ _)]), (.vw _ _)] rfl (call_ok (rs := []) (rd := []) rfl rfl rfl rfl (argL_cons (argT_a (argL_cons rfl (argL_cons rfl (argL_nil)))) (argL_cons rfl (argL_nil))) rfl rfl (impl_Bucket_shape_ok hv8) rfl rfl rfl (bindR_t (bindL_cons (bindR_a (bindL_cons rfl (bindL_cons rfl (bindL_cons rfl (bindL_nil))))) (bindL_cons rfl (bindL_nil)))) rfl) (ev_den (.agg [(.ref 34 _ _ _ _), (.vw _ _), (.vw _ _)]) rfl rfl (ev_den (.vw _ _) rfl rfl (ev_wr0 rfl (w_st_a rfl rfl rfl (stL_cons (st1_of (abs_ref rfl sub_i) rfl rfl (get_f rfl (get_nil)) rfl (rput_p (put_f rfl (put_nil)))) rfl (stL_cons (st1_of rfl rfl rfl (get_f rfl (get_nil)) rfl (rput_p (put_f rfl (put_nil)))) rfl (stL_cons (st1_of rfl rfl rfl (get_f rfl (get_nil)) rfl (rput_p (put_f rfl (put_nil)))) rfl (stL_nil))))) (ev_den (.vw _ _) rfl rfl (ev_nil)))))))) (seqQ_n (?_))
    replace h := Option.some.inj h
    subst h
    exact wp_ret (qf_r ((outs_ok (vs := [(.agg [(.ref 1 [.f 0] _ _ _), (.vw _ _), (.vw _ _)]), (.vw _ _)]) rfl (absW_cons (retT_agg (absW_cons (ret1_ref (abs_refp (r := .ptr (.agg [.ints .i64 v8.1.1, .int .i64 v8.1.2.1, .int .i64 v8.1.2.2])) rfl (get_f rfl (get_nil)) sub_i (rput_p (put_f rfl (put_nil))))) rfl (absW_cons rfl rfl (absW_cons rfl rfl (absW_nil))))) rfl (absW_cons rfl rfl (absW_nil))) rfl rfl)))
/-- loop.example/g01176/impl.ShapeOf -/
noncomputable def impl_ShapeOf (p0 : Int × Int) (p1 : List Int) : Option (((List Int) × Bool)) :=
(impl_shaped p0 p1).bind fun v2 =>
some (v2.1.1, v2.2)
theorem impl_ShapeOf_ok {p0 : Int × Int} {p1 : List Int} {o : ((List Int) × Bool)} (h : impl_ShapeOf p0 p1 = some o) : RN 7 [.agg [.int .i64 p0.1, .int .i64 p0.2], .ints .i64 p1] [] = some (.tup [.ints .i64 o.1, .bool o.2], []) := by
  refine fn_run (o := o) (nr := 0) (F := k7) (st := ⟨entry 0 [.agg [.vw [] (.int .i64 p0.1), .vw [] (.int .i64 p0.2)], .vw [] (.ints .i64 p1)], fun n => ([] : List T)[n]?, 0⟩) (fun (o : ((List Int) × Bool)) => (.tup [.ints .i64 o.1, .bool o.2], [])) rfl fns_7 rfl rfl ?_
  refine wp_seq ?_
  refine wp_reg (nx' := 48) rfl (ev_wr rfl (w_box (sv := (.agg [(.vw _ _), (.vw _ _)])) rfl rfl (absW_cons rfl rfl (absW_cons rfl rfl (absW_nil)))) (ev_new (.ref 16 [] 1 0 0) (.ints .i64 []) rfl rfl (ev_den (.vw _ _) rfl rfl (ev_nil)))) (seqQ_n (?_))
  refine wp_seq ?_
  obtain ⟨v2, hv2, h⟩ := bs h
  refine wp_reg (nx' := 192) rfl (ev_den (.agg [(.vw _ _), (.vw _ _)]) rfl (d_ld_os rfl (rget_of rfl (get_nil)) rfl (cells_cons rfl (cells_cons rfl (cells_nil)))) (ev_den (.vw _ _) rfl rfl (ev_call0 [(.agg [(.vw _ _), (.vw _ _)]), (.vw _ _)] rfl (call_ok (rs := []) (rd := []) rfl rfl rfl rfl (argL_cons (argT_a (argL_cons rfl (argL_cons rfl (argL_nil)))) (argL_cons rfl (argL_nil))) rfl rfl (impl_shaped_ok hv2) rfl rfl rfl (bindR_t (bindL_cons (bindR_a (bindL_cons rfl (bindL_cons rfl (bindL_cons rfl (bindL_nil))))) (bindL_cons rfl (bindL_nil)))) rfl) (ev_den (.tup [(.agg [(.ref 80 _ _ _ _), (.vw _ _), (.vw _ _)]), (.vw _ _)]) rfl rfl (ev_den (.agg [(.ref 80 _ _ _ _), (.vw _ _), (.vw _ _)]) rfl rfl (ev_den (.vw _ _) rfl rfl (ev_new (.ptr 144 [] (some 0)) (.ptr (.agg [.ints .i64 ([]), .int .i64 ((0 : Int)), .int .i64 ((0 : Int))])) rfl rfl (ev_wr0 rfl (w_st_a rfl rfl rfl (stL_cons (st1_of (abs_ref rfl sub_i) rfl rfl (get_f rfl (get_nil)) rfl (rput_p (put_f rfl (put_nil)))) rfl (stL_cons (st1_of rfl rfl rfl (get_f rfl (get_nil)) rfl (rput_p (put_f rfl (put_nil)))) rfl (stL_cons (st1_of rfl rfl rfl (get_f rfl (get_nil)) rfl (rput_p (put_f rfl (put_nil)))) rfl (stL_nil))))) (ev_den (.vw _ _) rfl rfl (ev_nil)))))))))) (seqQ_n (?_))
  refine wp_seq ?_
  refine wp_reg (nx' := 272) rfl (ev_den (.ptr 144 [] (some 0)) rfl rfl (ev_den (.ref 144 [.f 0] _ _ _) rfl (d_ld_o rfl (rget_of rfl (get_nil)) rfl rfl) (ev_den (.vw _ _) rfl rfl (ev_den (.ref 144 [.f 0] _ _ _) rfl rfl (ev_den (.vw _ _) rfl rfl (ev_nil)))))) (seqQ_n (?_))
  replace h := Option.some.inj h
  subst h
  exact wp_ret (qf_r ((outs_ok (vs := [(.ref 144 [.f 0] _ _ _), (.vw _ _)]) rfl (absW_cons (retT_ref (abs_refp (r := .ptr (.agg [.ints .i64 v2.1.1, .int .i64 v2.1.2.1, .int .i64 v2.1.2.2])) rfl (get_f rfl (get_nil)) sub_i (rput_p (put_f rfl (put_nil))))) rfl (absW_cons rfl rfl (absW_nil))) rfl rfl)))
/-- loop.example/g01176/spec.l1In -/
noncomputable def spec_l1In (p0 : Int) (p1 : Int) (p2 : Int) : Option Bool :=
if (decide (p0 ≥ p1)) = true then
some (decide (p0 ≤ p2))
else
some false
theorem spec_l1In_ok {p0 : Int} {p1 : Int} {p2 : Int} {o : Bool} (h : spec_l1In p0 p1 p2 = some o) : RN 61 [.int .i64 p0, .int .i64 p1, .int .i64 p2] [] = some (.bool o, []) := by
  refine fn_run (o := o) (nr := 0) (F := k61) (st := ⟨entry 0 [.vw [] (.int .i64 p0), .vw [] (.int .i64 p1), .vw [] (.int .i64 p2)], fun n => ([] : List T)[n]?, 0⟩) (fun (o : Bool) => (.bool o, [])) rfl fns_61 rfl rfl ?_
  refine wp_seq ?_
  refine wp_reg (nx' := 16) rfl (ev_den (.vw _ _) rfl rfl (ev_nil)) (seqQ_n (?_))
  refine wp_seq ?_
  refine wp_gc ?_
  rcases its h with ⟨hc3, h⟩ | ⟨hc3, h⟩
  · refine wp_reg (nx' := 160) rfl (ev_den (.vw _ _) rfl rfl (ev_den (.vw _ _) rfl rfl (ev_den (.vw _ _) rfl rfl (ev_den (.vw _ _) rfl rfl (ev_on rfl hc3 (ev_den (.vw _ _) rfl rfl (ev_on rfl hc3 (ev_den (.vw _ _) rfl rfl (ev_on rfl hc3 (ev_den (.vw _ _) rfl rfl (ev_den (.vw _ _) rfl (d_pick_t rfl hc3 rfl) (ev_den (.vw _ _) rfl rfl (ev_nil))))))))))))) (gcQ_n (gc_to [] (e := [(6, .vw [] (.bool ((decide (p0 ≤ p2)))))]) (ts := []) (n := 0) rfl rfl rfl rfl) (seqQ_n (?_)))
    replace h := Option.some.inj h
    subst h
    exact wp_ret (qf_r ((outs_ok (vs := [(.vw _ _)]) rfl (absW_cons rfl rfl (absW_nil)) rfl rfl)))
  · refine wp_reg (nx' := 160) rfl (ev_den (.vw _ _) rfl rfl (ev_den (.vw _ _) rfl rfl (ev_den (.vw _ _) rfl rfl (ev_den (.vw _ _) rfl rfl (ev_off rfl hc3 (ev_off rfl hc3 (ev_off rfl hc3 (ev_den (.vw _ _) rfl (d_pick_f rfl hc3 rfl) (ev_den (.vw _ _) rfl rfl (ev_nil)))))))))) (gcQ_n (gc_to [] (e := [(6, .vw [] (.bool false))]) (ts := []) (n := 0) rfl rfl rfl rfl) (seqQ_n (?_)))
    replace h := Option.some.inj h
    subst h
    exact wp_ret (qf_r ((outs_ok (vs := [(.vw _ _)]) rfl (absW_cons rfl rfl (absW_nil)) rfl rfl)))
/-- loop.example/g01176/spec.shBucket -/
noncomputable def spec_shBucket (p0 : Int × Int) : Option Bool :=
(spec_l1In p0.1 ((1 : Int)) ((100 : Int))).bind fun v7 =>
if v7 = true then
(spec_l1In p0.2 ((1 : Int)) ((1000 : Int))).bind fun v9 =>
some v9
else
some false
theorem spec_shBucket_ok {p0 : Int × Int} {o : Bool} (h : spec_shBucket p0 = some o) : RN 62 [.agg [.int .i64 p0.1, .int .i64 p0.2]] [] = some (.bool o, []) := by
  refine fn_run (o := o) (nr := 0) (F := k62) (st := ⟨entry 0 [.agg [.vw [] (.int .i64 p0.1), .vw [] (.int .i64 p0.2)]], fun n => ([] : List T)[n]?, 0⟩) (fun (o : Bool) => (.bool o, [])) rfl fns_62 rfl rfl ?_
  refine wp_seq ?_
  refine wp_reg (nx' := 32) rfl (ev_wr rfl (w_box (sv := (.agg [(.vw _ _), (.vw _ _)])) rfl rfl (absW_cons rfl rfl (absW_cons rfl rfl (absW_nil)))) (ev_den (.vw _ _) rfl rfl (ev_nil))) (seqQ_n (?_))
  refine wp_seq ?_
  refine wp_gc ?_
  obtain ⟨v7, hv7, h⟩ := bs h
  rcases its h with ⟨hc8, h⟩ | ⟨hc8, h⟩
  · obtain ⟨v9, hv9, h⟩ := bs h
    refine wp_reg (nx' := 176) rfl (ev_den (.ptr 0 [] (some 0)) rfl rfl (ev_den (.vw _ _) rfl (d_ld_o rfl (rget_of rfl (get_nil)) rfl rfl) (ev_call0 [(.vw _ _), (.vw _ _), (.vw _ _)] rfl (call_ok (rs := []) (rd := []) rfl rfl rfl rfl (argL_cons rfl (argL_cons rfl (argL_cons rfl (argL_nil)))) rfl rfl (spec_l1In_ok hv7) rfl rfl rfl rfl rfl) (ev_den (.vw _ _) rfl rfl (ev_on rfl hc8 (ev_den (.ptr 0 [] (some 1)) rfl rfl (ev_on rfl hc8 (ev_den (.vw _ _) rfl (d_ld_o rfl (rget_of rfl (get_nil)) rfl rfl) (ev_on rfl hc8 (ev_call0 [(.vw _ _), (.vw _ _), (.vw _ _)] rfl (call_ok (rs := []) (rd := []) rfl rfl rfl rfl (argL_cons rfl (argL_cons rfl (argL_cons rfl (argL_nil)))) rfl rfl (spec_l1In_ok hv9) rfl rfl rfl rfl rfl) (ev_den (.vw _ _) rfl (d_pick_t rfl hc8 rfl) (ev_den (.vw _ _) rfl rfl (ev_nil))))))))))))) (gcQ_n (gc_to [] (e := [(2, .vw [] (.bool v9))]) (ts := []) (n := 0) rfl rfl rfl rfl) (seqQ_n (?_)))
    replace h := Option.some.inj h
    subst h
    exact wp_ret (qf_r ((outs_ok (vs := [(.vw _ _)]) rfl (absW_cons rfl rfl (absW_nil)) rfl rfl)))
  · refine wp_reg (nx' := 176) rfl (ev_den (.ptr 0 [] (some 0)) rfl rfl (ev_den (.vw _ _) rfl (d_ld_o rfl (rget_of rfl (get_nil)) rfl rfl) (ev_call0 [(.vw _ _), (.vw _ _), (.vw _ _)] rfl (call_ok (rs := []) (rd := []) rfl rfl rfl rfl (argL_cons rfl (argL_cons rfl (argL_cons rfl (argL_nil)))) rfl rfl (spec_l1In_ok hv7) rfl rfl rfl rfl rfl) (ev_den (.vw _ _) rfl rfl (ev_off rfl hc8 (ev_off rfl hc8 (ev_off rfl hc8 (ev_den (.vw _ _) rfl (d_pick_f rfl hc8 rfl) (ev_den (.vw _ _) rfl rfl (ev_nil)))))))))) (gcQ_n (gc_to [] (e := [(2, .vw [] (.bool false))]) (ts := []) (n := 0) rfl rfl rfl rfl) (seqQ_n (?_)))
    replace h := Option.some.inj h
    subst h
    exact wp_ret (qf_r ((outs_ok (vs := [(.vw _ _)]) rfl (absW_cons rfl rfl (absW_nil)) rfl rfl)))
noncomputable def spec_l1All_s1 (p0 : List Int) (p1 : Int) (p2 : Int) : Int → Option (Int ⊕ (Unit ⊕ Bool)) := fun x35 =>
if (decide (x35 < (List.length p0 : Int))) = true then
(at? p0 x35).bind fun v54 =>
(spec_l1In v54 p1 p2).bind fun v55 =>
if (!v55) = true then
some (.inr (.inr false))
else
some (.inl ((w64 (x35 + (1 : Int)))))
else
some (.inr (.inl ()))
noncomputable def spec_l1All_l1 (p0 : List Int) (p1 : Int) (p2 : Int) : Int → Option (Unit ⊕ Bool) := iter (spec_l1All_s1 p0 p1 p2)
/-- loop.example/g01176/spec.l1All -/
noncomputable def spec_l1All (p0 : List Int) (p1 : Int) (p2 : Int) : Option Bool :=
(spec_l1All_l1 p0 p1 p2 (0 : Int)).bind fun w => match w with
| .inl _ =>
some true
| .inr r59 =>
some r59
theorem spec_l1All_ok {p0 : List Int} {p1 : Int} {p2 : Int} {o : Bool} (h : spec_l1All p0 p1 p2 = some o) : RN 69 [.ints .i64 p0, .int .i64 p1, .int .i64 p2] [] = some (.bool o, []) := by
  refine fn_run (o := o) (nr := 0) (F := k69) (st := ⟨entry 0 [.vw [] (.ints .i64 p0), .vw [] (.int .i64 p1), .vw [] (.int .i64 p2)], fun n => ([] : List T)[n]?, 0⟩) (fun (o : Bool) => (.bool o, [])) rfl fns_69 rfl rfl ?_
  refine wp_seq ?_
  refine wp_reg (nx' := 16) rfl (ev_den (.vw _ _) rfl rfl (ev_nil)) (seqQ_n (?_))
  refine wp_seq ?_
  refine wp_gc ?_
  refine wp_seq ?_
  refine wp_gc ?_
  refine wp_reg (nx' := 64) rfl (ev_den (.vw _ _) rfl rfl (ev_den (.vw _ _) rfl rfl (ev_den (.vw _ _) rfl rfl (ev_nil)))) (gcQ_n (gc_to [] (e := [(1, .vw [] (.int .i64 p1)), (2, .vw [] (.int .i64 p2)), (9, .vw [] (.ints .i64 p0)), (10, .vw [] (.int .i64 ((List.length p0 : Int)))), (11, .vw [] (.int .i64 ((0 : Int))))]) (ts := []) (n := 0) rfl rfl rfl rfl) (seqQ_n (?_)))
  refine wp_gc ?_
  refine wp_blk ?_
  obtain ⟨w58, hw58, h⟩ := bs h
  refine wp_mono (wp_loop (fun (x35 : Int) => (⟨al .dead [(1, .vw [] (.int .i64 p1)), (2, .vw [] (.int .i64 p2)), (9, .vw [] (.ints .i64 p0)), (10, .vw [] (.int .i64 ((List.length p0 : Int)))), (11, .vw [] (.int .i64 x35))], hl [], 0⟩ : St)) (fun (v : Unit ⊕ Bool) e st => match v with | .inl _ => e = .exit 0 ∧ gc 0 [] st = ⟨al .dead [], hl [], 0⟩ | .inr rr => e = .ret ∧ outs 0 k69 st = some (.bool rr, [])) hw58 ?_) ?_
  · rintro x35 o h
    refine wp_gc ?_
    refine wp_seq ?_
    refine wp_reg (nx' := 16) rfl (ev_den (.vw _ _) rfl rfl (ev_nil)) (seqQ_n (?_))
    refine wp_seq ?_
    refine wp_gc ?_
    rcases its h with ⟨hc47, h⟩ | ⟨hc47, h⟩
    · refine wp_ct rfl hc47 ?_
      refine wp_skip (gcQ_n (gc_to [] (e := [(1, .vw [] (.int .i64 p1)), (2, .vw [] (.int .i64 p2)), (9, .vw [] (.ints .i64 p0)), (10, .vw [] (.int .i64 ((List.length p0 : Int)))), (11, .vw [] (.int .i64 x35))]) (ts := []) (n := 0) rfl rfl rfl rfl) (seqQ_n (?_)))
      refine wp_seq ?_
      refine wp_gc ?_
      refine wp_gc ?_
      refine wp_blk ?_
      refine wp_seq ?_
      obtain ⟨v54, hv54, h⟩ := bs h
      refine wp_reg (nx' := 48) rfl (ev_den (.pv _ _) rfl (d_idx_vi rfl rfl hv54) (ev_den (.vw _ _) rfl rfl (ev_den (.vw _ _) rfl rfl (ev_nil)))) (seqQ_n (?_))
      refine wp_seq ?_
      obtain ⟨v55, hv55, h⟩ := bs h
      refine wp_reg (nx' := 128) rfl (ev_den (.vw _ _) rfl rfl (ev_den (.vw _ _) rfl rfl (ev_den (.vw _ _) rfl rfl (ev_call0 [(.vw _ _), (.vw _ _), (.vw _ _)] rfl (call_ok (rs := []) (rd := []) rfl rfl rfl rfl (argL_cons rfl (argL_cons rfl (argL_cons rfl (argL_nil)))) rfl rfl (spec_l1In_ok hv55) rfl rfl rfl rfl rfl) (ev_den (.vw _ _) rfl rfl (ev_nil)))))) (seqQ_n (?_))
      rcases its h with ⟨hc56, h⟩ | ⟨hc56, h⟩
      · refine wp_ct rfl hc56 ?_
        refine wp_seq ?_
        refine wp_reg (nx' := 144) rfl (ev_den (.vw _ _) rfl rfl (ev_nil)) (seqQ_n (?_))
        replace h := Option.some.inj h
        subst h
        exact wp_ret (blkQ_r (gcQ_r (gcQ_r (seqQ_r (gcQ_r (loopQ_r (And.intro rfl (outs_ok (vs := [(.vw _ _)]) rfl (absW_cons rfl rfl (absW_nil)) rfl rfl))))))))
      · refine wp_cf rfl hc56 ?_
        refine wp_skip (blkQ_n (gcQ_n (gc_to [] (e := [(1, .vw [] (.int .i64 p1)), (2, .vw [] (.int .i64 p2)), (9, .vw [] (.ints .i64 p0)), (10, .vw [] (.int .i64 ((List.length p0 : Int)))), (11, .vw [] (.int .i64 x35))]) (ts := []) (n := 0) rfl rfl rfl rfl) (gcQ_n (gc_to [] (e := [(1, .vw [] (.int .i64 p1)), (2, .vw [] (.int .i64 p2)), (9, .vw [] (.ints .i64 p0)), (10, .vw [] (.int .i64 ((List.length p0 : Int)))), (11, .vw [] (.int .i64 x35))]) (ts := []) (n := 0) rfl rfl rfl rfl) (seqQ_n (?_)))))
        replace h := Option.some.inj h
        subst h
        exact wp_reg (nx' := 32) rfl (ev_den (.vw _ _) rfl rfl (ev_den (.vw _ _) rfl rfl (ev_nil))) (gcQ_n (gc_to [] (e := [(1, .vw [] (.int .i64 p1)), (2, .vw [] (.int .i64 p2)), (9, .vw [] (.ints .i64 p0)), (10, .vw [] (.int .i64 ((List.length p0 : Int)))), (11, .vw [] (.int .i64 ((w64 (x35 + (1 : Int))))))]) (ts := []) (n := 0) rfl rfl rfl rfl) (loopQ_n rfl))
    · refine wp_cf rfl hc47 ?_
      replace h := Option.some.inj h
      subst h
      exact wp_exit (gcQ_e (seqQ_e (gcQ_e (loopQ_e (And.intro rfl (gc_to [] (e := []) (ts := []) (n := 0) rfl rfl rfl rfl))))))
  · intro e st58 hg58
    rcases w58 with _ | r59
    · obtain ⟨rfl, hg58⟩ := hg58
      refine blkQ_h (gcQ_n hg58 (gcQ_n (gc_to [] (e := []) (ts := []) (n := 0) rfl rfl rfl rfl) (seqQ_n (?_))))
      refine wp_seq ?_
      refine wp_reg (nx' := 16) rfl (ev_den (.vw _ _) rfl rfl (ev_nil)) (seqQ_n (?_))
      replace h := Option.some.inj h
      subst h
      exact wp_ret (qf_r ((outs_ok (vs := [(.vw _ _)]) rfl (absW_cons rfl rfl (absW_nil)) rfl rfl)))
    · obtain ⟨rfl, hg58⟩ := hg58
      replace h := Option.some.inj h
      subst h
      exact blkQ_r (gcQ_r (gcQ_r (seqQ_r (qf_r (hg58)))))
/-- loop.example/g01176/spec.shTraffic -/
noncomputable def spec_shTraffic (p0 : List Int) : Option Bool :=
if (decide ((List.length p0 : Int) ≤ (40 : Int))) = true then
(spec_l1All p0 ((0 : Int)) ((1000 : Int))).bind fun v6 =>
some v6
else
some false
theorem spec_shTraffic_ok {p0 : List Int} {o : Bool} (h : spec_shTraffic p0 = some o) : RN 55 [.ints .i64 p0] [] = some (.bool o, []) := by
  refine fn_run (o := o) (nr := 0) (F := k55) (st := ⟨entry 0 [.vw [] (.ints .i64 p0)], fun n => ([] : List T)[n]?, 0⟩) (fun (o : Bool) => (.bool o, [])) rfl fns_55 rfl rfl ?_
  refine wp_seq ?_
  refine wp_reg (nx' := 16) rfl (ev_den (.vw _ _) rfl rfl (ev_nil)) (seqQ_n (?_))
  refine wp_seq ?_
  refine wp_gc ?_
  rcases its h with ⟨hc5, h⟩ | ⟨hc5, h⟩
  · obtain ⟨v6, hv6, h⟩ := bs h
    refine wp_reg (nx' := 144) rfl (ev_den (.vw _ _) rfl rfl (ev_den (.vw _ _) rfl rfl (ev_den (.vw _ _) rfl rfl (ev_den (.vw _ _) rfl rfl (ev_on rfl hc5 (ev_den (.vw _ _) rfl rfl (ev_on rfl hc5 (ev_call0 [(.vw _ _), (.vw _ _), (.vw _ _)] rfl (call_ok (rs := []) (rd := []) rfl rfl rfl rfl (argL_cons rfl (argL_cons rfl (argL_cons rfl (argL_nil)))) rfl rfl (spec_l1All_ok hv6) rfl rfl rfl rfl rfl) (ev_den (.vw _ _) rfl (d_pick_t rfl hc5 rfl) (ev_den (.vw _ _) rfl rfl (ev_nil))))))))))) (gcQ_n (gc_to [] (e := [(2, .vw [] (.bool v6))]) (ts := []) (n := 0) rfl rfl rfl rfl) (seqQ_n (?_)))
    replace h := Option.some.inj h
    subst h
    exact wp_ret (qf_r ((outs_ok (vs := [(.vw _ _)]) rfl (absW_cons rfl rfl (absW_nil)) rfl rfl)))
  · refine wp_reg (nx' := 144) rfl (ev_den (.vw _ _) rfl rfl (ev_den (.vw _ _) rfl rfl (ev_den (.vw _ _) rfl rfl (ev_den (.vw _ _) rfl rfl (ev_off rfl hc5 (ev_off rfl hc5 (ev_den (.vw _ _) rfl (d_pick_f rfl hc5 rfl) (ev_den (.vw _ _) rfl rfl (ev_nil))))))))) (gcQ_n (gc_to [] (e := [(2, .vw [] (.bool false))]) (ts := []) (n := 0) rfl rfl rfl rfl) (seqQ_n (?_)))
    replace h := Option.some.inj h
    subst h
    exact wp_ret (qf_r ((outs_ok (vs := [(.vw _ _)]) rfl (absW_cons rfl rfl (absW_nil)) rfl rfl)))
/-- loop.example/g01176/spec.shAsked -/
noncomputable def spec_shAsked (p0 : Int × Int) (p1 : List Int) : Option Bool :=
(spec_shBucket p0).bind fun v7 =>
if v7 = true then
(spec_shTraffic p1).bind fun v9 =>
some v9
else
some false
theorem spec_shAsked_ok {p0 : Int × Int} {p1 : List Int} {o : Bool} (h : spec_shAsked p0 p1 = some o) : RN 40 [.agg [.int .i64 p0.1, .int .i64 p0.2], .ints .i64 p1] [] = some (.bool o, []) := by
  refine fn_run (o := o) (nr := 0) (F := k40) (st := ⟨entry 0 [.agg [.vw [] (.int .i64 p0.1), .vw [] (.int .i64 p0.2)], .vw [] (.ints .i64 p1)], fun n => ([] : List T)[n]?, 0⟩) (fun (o : Bool) => (.bool o, [])) rfl fns_40 rfl rfl ?_
  refine wp_seq ?_
  refine wp_reg (nx' := 32) rfl (ev_wr rfl (w_box (sv := (.agg [(.vw _ _), (.vw _ _)])) rfl rfl (absW_cons rfl rfl (absW_cons rfl rfl (absW_nil)))) (ev_den (.vw _ _) rfl rfl (ev_nil))) (seqQ_n (?_))
  refine wp_seq ?_
  refine wp_gc ?_
  obtain ⟨v7, hv7, h⟩ := bs h
  rcases its h with ⟨hc8, h⟩ | ⟨hc8, h⟩
  · obtain ⟨v9, hv9, h⟩ := bs h
    refine wp_reg (nx' := 144) rfl (ev_den (.agg [(.vw _ _), (.vw _ _)]) rfl (d_ld_os rfl (rget_of rfl (get_nil)) rfl (cells_cons rfl (cells_cons rfl (cells_nil)))) (ev_call0 [(.agg [(.vw _ _), (.vw _ _)])] rfl (call_ok (rs := []) (rd := []) rfl rfl rfl rfl (argL_cons (argT_a (argL_cons rfl (argL_cons rfl (argL_nil)))) (argL_nil)) rfl rfl (spec_shBucket_ok hv7) rfl rfl rfl rfl rfl) (ev_den (.vw _ _) rfl rfl (ev_on rfl hc8 (ev_den (.vw _ _) rfl rfl (ev_on rfl hc8 (ev_call0 [(.vw _ _)] rfl (call_ok (rs := []) (rd := []) rfl rfl rfl rfl (argL_cons rfl (argL_nil)) rfl rfl (spec_shTraffic_ok hv9) rfl rfl rfl rfl rfl) (ev_den (.vw _ _) rfl (d_pick_t rfl hc8 rfl) (ev_den (.vw _ _) rfl rfl (ev_nil)))))))))) (gcQ_n (gc_to [] (e := [(4, .vw [] (.bool v9))]) (ts := []) (n := 0) rfl rfl rfl rfl) (seqQ_n (?_)))
    replace h := Option.some.inj h
    subst h
    exact wp_ret (qf_r ((outs_ok (vs := [(.vw _ _)]) rfl (absW_cons rfl rfl (absW_nil)) rfl rfl)))
  · refine wp_reg (nx' := 144) rfl (ev_den (.agg [(.vw _ _), (.vw _ _)]) rfl (d_ld_os rfl (rget_of rfl (get_nil)) rfl (cells_cons rfl (cells_cons rfl (cells_nil)))) (ev_call0 [(.agg [(.vw _ _), (.vw _ _)])] rfl (call_ok (rs := []) (rd := []) rfl rfl rfl rfl (argL_cons (argT_a (argL_cons rfl (argL_cons rfl (argL_nil)))) (argL_nil)) rfl rfl (spec_shBucket_ok hv7) rfl rfl rfl rfl rfl) (ev_den (.vw _ _) rfl rfl (ev_off rfl hc8 (ev_off rfl hc8 (ev_den (.vw _ _) rfl (d_pick_f rfl hc8 rfl) (ev_den (.vw _ _) rfl rfl (ev_nil)))))))) (gcQ_n (gc_to [] (e := [(4, .vw [] (.bool false))]) (ts := []) (n := 0) rfl rfl rfl rfl) (seqQ_n (?_)))
    replace h := Option.some.inj h
    subst h
    exact wp_ret (qf_r ((outs_ok (vs := [(.vw _ _)]) rfl (absW_cons rfl rfl (absW_nil)) rfl rfl)))
/-- loop.example/g01176/spec.l1Least -/
noncomputable def spec_l1Least (p0 : Int) (p1 : Int) : Option Int :=
if (decide (p0 < p1)) = true then
some p0
else
some p1
theorem spec_l1Least_ok {p0 : Int} {p1 : Int} {o : Int} (h : spec_l1Least p0 p1 = some o) : RN 64 [.int .i64 p0, .int .i64 p1] [] = some (.int .i64 o, []) := by
  refine fn_run (o := o) (nr := 0) (F := k64) (st := ⟨entry 0 [.vw [] (.int .i64 p0), .vw [] (.int .i64 p1)], fun n => ([] : List T)[n]?, 0⟩) (fun (o : Int) => (.int .i64 o, [])) rfl fns_64 rfl rfl ?_
  refine wp_seq ?_
  refine wp_reg (nx' := 16) rfl (ev_den (.vw _ _) rfl rfl (ev_nil)) (seqQ_n (?_))
  refine wp_seq ?_
  refine wp_gc ?_
  refine wp_seq ?_
  refine wp_reg (nx' := 64) rfl (ev_den (.vw _ _) rfl rfl (ev_den (.vw _ _) rfl rfl (ev_den (.vw _ _) rfl rfl (ev_nil)))) (seqQ_n (?_))
  rcases its h with ⟨hc3, h⟩ | ⟨hc3, h⟩
  · refine wp_ct rfl hc3 ?_
    refine wp_seq ?_
    refine wp_reg (nx' := 96) rfl (ev_den (.vw _ _) rfl rfl (ev_den (.vw _ _) rfl rfl (ev_nil))) (seqQ_n (?_))
    replace h := Option.some.inj h
    subst h
    exact wp_ret (gcQ_r (seqQ_r (qf_r ((outs_ok (vs := [(.vw _ _)]) rfl (absW_cons rfl rfl (absW_nil)) rfl rfl)))))
  · refine wp_cf rfl hc3 ?_
    refine wp_skip (gcQ_n (gc_to [] (e := [(1, .vw [] (.int .i64 p1))]) (ts := []) (n := 0) rfl rfl rfl rfl) (seqQ_n (?_)))
    refine wp_seq ?_
    refine wp_reg (nx' := 32) rfl (ev_den (.vw _ _) rfl rfl (ev_den (.vw _ _) rfl rfl (ev_nil))) (seqQ_n (?_))
    replace h := Option.some.inj h
    subst h
    exact wp_ret (qf_r ((outs_ok (vs := [(.vw _ _)]) rfl (absW_cons rfl rfl (absW_nil)) rfl rfl)))
noncomputable def spec_shSend_j3 (p0 : Int) (p1 : Int) (x114 : List Int) (x115 : List Int) (x116 : Int) (x118 : Int) : Int → Option (((List Int) × (List Int) × Int × Int × Int) ⊕ (((List Int) × (List Int)) ⊕ (((List Int) × (List Int) × Bool)))) := fun x179 =>
(spec_l1Least x179 x116).bind fun v180 =>
(app? x114 (([v180] : List Int))).bind fun v181 =>
(app? x115 (([(w64 (x179 - v180))] : List Int))).bind fun v182 =>
(spec_l1Least p1 ((w64 ((w64 (x116 - v180)) + p0)))).bind fun v183 =>
some (.inl (v181, v182, v183, (w64 (x179 - v180)), (w64 (x118 + (1 : Int)))))
noncomputable def spec_shSend_j2 (p0 : Int) (p1 : Int) (p2 : List Int) (x114 : List Int) (x115 : List Int) (x116 : Int) (x117 : Int) (x118 : Int) : Bool → Option (((List Int) × (List Int) × Int × Int × Int) ⊕ (((List Int) × (List Int)) ⊕ (((List Int) × (List Int) × Bool)))) := fun x157 =>
if x157 = true then
if (decide (x118 ≥ (100 : Int))) = true then
some (.inr (.inr ([], [], false)))
else
if (decide (x118 < (List.length p2 : Int))) = true then
(at? p2 x118).bind fun v190 =>
spec_shSend_j3 p0 p1 x114 x115 x116 x118 (w64 (x117 + v190))
else
spec_shSend_j3 p0 p1 x114 x115 x116 x118 x117
else
some (.inr (.inl (x114, x115)))
noncomputable def spec_shSend_s1 (p0 : Int) (p1 : Int) (p2 : List Int) : ((List Int) × (List Int) × Int × Int × Int) → Option (((List Int) × (List Int) × Int × Int × Int) ⊕ (((List Int) × (List Int)) ⊕ (((List Int) × (List Int) × Bool)))) := fun (x114, x115, x116, x117, x118) =>
if (decide (x118 < (List.length p2 : Int))) = true then
spec_shSend_j2 p0 p1 p2 x114 x115 x116 x117 x118 true
else
spec_shSend_j2 p0 p1 p2 x114 x115 x116 x117 x118 (decide (x117 > (0 : Int)))
noncomputable def spec_shSend_l1 (p0 : Int) (p1 : Int) (p2 : List Int) : ((List Int) × (List Int) × Int × Int × Int) → Option (((List Int) × (List Int)) ⊕ (((List Int) × (List Int) × Bool))) := iter (spec_shSend_s1 p0 p1 p2)
/-- loop.example/g01176/spec.shSend -/
noncomputable def spec_shSend (p0 : Int) (p1 : Int) (p2 : List Int) : Option (((List Int) × (List Int) × Bool)) :=
(spec_shSend_l1 p0 p1 p2 ([], [], p1, (0 : Int), (0 : Int))).bind fun w => match w with
| .inl (x135, x136) =>
some (x135, x136, true)
| .inr r199 =>
some r199
theorem spec_shSend_ok {p0 : Int} {p1 : Int} {p2 : List Int} {o : ((List Int) × (List Int) × Bool)} (h : spec_shSend p0 p1 p2 = some o) : RN 41 [.int .i64 p0, .int .i64 p1, .ints .i64 p2] [] = some (.tup [.ints .i64 o.1, .ints .i64 o.2.1, .bool o.2.2], []) := by
  refine fn_run (o := o) (nr := 0) (F := k41) (st := ⟨entry 0 [.vw [] (.int .i64 p0), .vw [] (.int .i64 p1), .vw [] (.ints .i64 p2)], fun n => ([] : List T)[n]?, 0⟩) (fun (o : ((List Int) × (List Int) × Bool)) => (.tup [.ints .i64 o.1, .ints .i64 o.2.1, .bool o.2.2], [])) rfl fns_41 rfl rfl ?_
  refine wp_seq ?_
  refine wp_reg (nx' := 48) rfl (ev_new (.ref 0 [] 1 0 0) (.ints .i64 []) rfl rfl (ev_new (.ref 16 [] 1 0 0) (.ints .i64 []) rfl rfl (ev_den (.vw _ _) rfl rfl (ev_nil)))) (seqQ_n (?_))
  refine wp_seq ?_
  refine wp_reg (nx' := 80) rfl (ev_new (.ref 48 [] 1 0 0) (.ints .i64 []) rfl rfl (ev_new (.ref 64 [] 1 0 0) (.ints .i64 []) rfl rfl (ev_nil))) (seqQ_n (?_))
  refine wp_seq ?_
  refine wp_reg (nx' := 128) rfl (ev_den (.vw _ _) rfl rfl (ev_den (.vw _ _) rfl rfl (ev_den (.vw _ _) rfl rfl (ev_nil)))) (seqQ_n (?_))
  refine wp_seq ?_
  refine wp_gc ?_
  refine wp_seq ?_
  refine wp_gc ?_
  refine wp_reg (nx' := 144) rfl (ev_den (.vw _ _) rfl rfl (ev_nil)) (gcQ_n (gc_to [48, 64] (e := [(0, .vw [] (.int .i64 p0)), (1, .vw [] (.int .i64 p1)), (2, .vw [] (.ints .i64 p2)), (9, .ref 0 [] 1 0 0), (10, .ref 1 [] 1 0 0), (11, .vw [] (.int .i64 p1)), (12, .vw [] (.int .i64 ((0 : Int)))), (13, .vw [] (.int .i64 ((0 : Int))))]) (ts := [some (.ints .i64 ([])), some (.ints .i64 ([]))]) (n := 2) rfl rfl rfl rfl) (seqQ_n (?_)))
  refine wp_gc ?_
  refine wp_blk ?_
  obtain ⟨w198, hw198, h⟩ := bs h
  refine wp_mono (wp_loop (fun ((x114, x115, x116, x117, x118) : (List Int) × (List Int) × Int × Int × Int) => (⟨al .dead [(0, .vw [] (.int .i64 p0)), (1, .vw [] (.int .i64 p1)), (2, .vw [] (.ints .i64 p2)), (9, .ref 0 [] 1 0 (List.length x114)), (10, .ref 1 [] 1 0 (List.length x115)), (11, .vw [] (.int .i64 x116)), (12, .vw [] (.int .i64 x117)), (13, .vw [] (.int .i64 x118))], hl [some (.ints .i64 x114), some (.ints .i64 x115)], 2⟩ : St)) (fun (v : ((List Int) × (List Int)) ⊕ (((List Int) × (List Int) × Bool))) e st => match v with | .inl (x135, x136) => e = .exit 0 ∧ gc 0 [9, 10] st = ⟨al .dead [(9, .ref 0 [] 1 0 (List.length x135)), (10, .ref 1 [] 1 0 (List.length x136))], hl [some (.ints .i64 x135), some (.ints .i64 x136)], 2⟩ | .inr rr => e = .ret ∧ outs 0 k41 st = some (.tup [.ints .i64 rr.1, .ints .i64 rr.2.1, .bool rr.2.2], [])) hw198 ?_) ?_
  · rintro ⟨x114, x115, x116, x117, x118⟩ o h
    refine wp_gc ?_
    refine wp_seq ?_
    refine wp_gc ?_
    refine wp_seq ?_
    refine wp_join (spec_shSend_j2 p0 p1 p2 x114 x115 x116 x117 x118) (fun (x157 : Bool) => (⟨al .dead [(0, .vw [] (.int .i64 p0)), (1, .vw [] (.int .i64 p1)), (2, .vw [] (.ints .i64 p2)), (9, .ref 0 [] 1 0 (List.length x114)), (10, .ref 1 [] 1 0 (List.length x115)), (11, .vw [] (.int .i64 x116)), (12, .vw [] (.int .i64 x117)), (13, .vw [] (.int .i64 x118)), (23, .vw [] (.bool x157))], hl [some (.ints .i64 x114), some (.ints .i64 x115)], 2⟩ : St)) ?_ ?_
    · rintro x157 o h
      unfold spec_shSend_j2 at h
      refine seqQ_n (?_)
      rcases its h with ⟨hc158, h⟩ | ⟨hc158, h⟩
      · refine wp_ct rfl hc158 ?_
        refine wp_skip (gcQ_n (gc_to [0, 1] (e := [(0, .vw [] (.int .i64 p0)), (1, .vw [] (.int .i64 p1)), (2, .vw [] (.ints .i64 p2)), (9, .ref 0 [] 1 0 (List.length x114)), (10, .ref 1 [] 1 0 (List.length x115)), (11, .vw [] (.int .i64 x116)), (12, .vw [] (.int .i64 x117)), (13, .vw [] (.int .i64 x118))]) (ts := [some (.ints .i64 x114), some (.ints .i64 x115)]) (n := 2) rfl rfl rfl rfl) (seqQ_n (?_)))
        refine wp_seq ?_
        refine wp_gc ?_
        refine wp_gc ?_
        refine wp_blk ?_
        refine wp_seq ?_
        refine wp_gc ?_
        refine wp_seq ?_
        refine wp_reg (nx' := 34) rfl (ev_den (.vw _ _) rfl rfl (ev_den (.vw _ _) rfl rfl (ev_nil))) (seqQ_n (?_))
        rcases its h with ⟨hc176, h⟩ | ⟨hc176, h⟩
        · refine wp_ct rfl hc176 ?_
          refine wp_seq ?_
          refine wp_reg (nx' := 82) rfl (ev_new (.ref 34 [] 1 0 0) (.ints .i64 []) rfl rfl (ev_new (.ref 50 [] 1 0 0) (.ints .i64 []) rfl rfl (ev_den (.vw _ _) rfl rfl (ev_nil)))) (seqQ_n (?_))
          replace h := Option.some.inj h
          subst h
          exact wp_ret (gcQ_r (seqQ_r (blkQ_r (gcQ_r (gcQ_r (seqQ_r (gcQ_r (loopQ_r (And.intro rfl (outs_ok (vs := [(.ref 34 _ _ _ _), (.ref 50 _ _ _ _), (.vw _ _)]) rfl (absW_cons (retT_ref (abs_ref rfl sub_i)) rfl (absW_cons (retT_ref (abs_ref rfl sub_i)) rfl (absW_cons rfl rfl (absW_nil)))) rfl rfl))))))))))
        · refine wp_cf rfl hc176 ?_
          refine wp_skip (gcQ_n (gc_to [0, 1] (e := [(0, .vw [] (.int .i64 p0)), (1, .vw [] (.int .i64 p1)), (2, .vw [] (.ints .i64 p2)), (9, .ref 0 [] 1 0 (List.length x114)), (10, .ref 1 [] 1 0 (List.length x115)), (11, .vw [] (.int .i64 x116)), (12, .vw [] (.int .i64 x117)), (13, .vw [] (.int .i64 x118))]) (ts := [some (.ints .i64 x114), some (.ints .i64 x115)]) (n := 2) rfl rfl rfl rfl) (seqQ_n (?_)))
          refine wp_seq ?_
          refine wp_join (spec_shSend_j3 p0 p1 x114 x115 x116 x118) (fun (x179 : Int) => (⟨al .dead [(0, .vw [] (.int .i64 p0)), (1, .vw [] (.int .i64 p1)), (2, .vw [] (.ints .i64 p2)), (9, .ref 0 [] 1 0 (List.length x114)), (10, .ref 1 [] 1 0 (List.length x115)), (11, .vw [] (.int .i64 x116)), (12, .vw [] (.int .i64 x179)), (13, .vw [] (.int .i64 x118))], hl [some (.ints .i64 x114), some (.ints .i64 x115)], 2⟩ : St)) ?_ ?_
          · rintro x179 o h
            unfold spec_shSend_j3 at h
            refine seqQ_n (?_)
            refine wp_seq ?_
            obtain ⟨v180, hv180, h⟩ := bs h
            refine wp_reg (nx' := 66) rfl (ev_den (.vw _ _) rfl rfl (ev_den (.vw _ _) rfl rfl (ev_call0 [(.vw _ _), (.vw _ _)] rfl (call_ok (rs := []) (rd := []) rfl rfl rfl rfl (argL_cons rfl (argL_cons rfl (argL_nil))) rfl rfl (spec_l1Least_ok hv180) rfl rfl rfl rfl rfl) (ev_den (.vw _ _) rfl rfl (ev_nil))))) (seqQ_n (?_))
            refine wp_seq ?_
            refine wp_reg (nx' := 130) rfl (ev_den (.vw _ _) rfl rfl (ev_den (.vw _ _) rfl rfl (ev_den (.vw _ _) rfl rfl (ev_den (.vw _ _) rfl rfl (ev_nil))))) (seqQ_n (?_))
            refine wp_seq ?_
            obtain ⟨v181, hv181, h⟩ := bs h
            refine wp_reg (nx' := 210) rfl (ev_den (.ref 0 _ _ _ _) rfl rfl (ev_den (.vw _ _) rfl rfl (ev_den (.vw _ _) rfl rfl (ev_wr rfl (w_app_i (xv := (.ref 0 _ _ _ _)) 0 rfl rfl (abs_ref rfl sub_i) hv181 rfl) (ev_den (.ref 0 _ _ _ _) rfl rfl (ev_nil)))))) (seqQ_n (?_))
            refine wp_seq ?_
            obtain ⟨v182, hv182, h⟩ := bs h
            refine wp_reg (nx' := 290) rfl (ev_den (.ref 1 _ _ _ _) rfl rfl (ev_den (.vw _ _) rfl rfl (ev_den (.vw _ _) rfl rfl (ev_wr rfl (w_app_i (xv := (.ref 1 _ _ _ _)) 1 rfl rfl (abs_ref rfl sub_i) hv182 rfl) (ev_den (.ref 1 _ _ _ _) rfl rfl (ev_nil)))))) (seqQ_n (?_))
            obtain ⟨v183, hv183, h⟩ := bs h
            refine wp_reg (nx' := 418) rfl (ev_den (.vw _ _) rfl rfl (ev_den (.vw _ _) rfl rfl (ev_den (.vw _ _) rfl rfl (ev_den (.vw _ _) rfl rfl (ev_den (.vw _ _) rfl rfl (ev_den (.vw _ _) rfl rfl (ev_call0 [(.vw _ _), (.vw _ _)] rfl (call_ok (rs := []) (rd := []) rfl rfl rfl rfl (argL_cons rfl (argL_cons rfl (argL_nil))) rfl rfl (spec_l1Least_ok hv183) rfl rfl rfl rfl rfl) (ev_den (.vw _ _) rfl rfl (ev_nil))))))))) (blkQ_n (gcQ_n (gc_to [0, 1] (e := [(0, .vw [] (.int .i64 p0)), (1, .vw [] (.int .i64 p1)), (2, .vw [] (.ints .i64 p2)), (9, .ref 0 [] 1 0 (List.length v181)), (10, .ref 1 [] 1 0 (List.length v182)), (11, .vw [] (.int .i64 v183)), (12, .vw [] (.int .i64 ((w64 (x179 - v180))))), (13, .vw [] (.int .i64 x118))]) (ts := [some (.ints .i64 v181), some (.ints .i64 v182)]) (n := 2) rfl rfl rfl rfl) (gcQ_n (gc_to [0, 1] (e := [(0, .vw [] (.int .i64 p0)), (1, .vw [] (.int .i64 p1)), (2, .vw [] (.ints .i64 p2)), (9, .ref 0 [] 1 0 (List.length v181)), (10, .ref 1 [] 1 0 (List.length v182)), (11, .vw [] (.int .i64 v183)), (12, .vw [] (.int .i64 ((w64 (x179 - v180))))), (13, .vw [] (.int .i64 x118))]) (ts := [some (.ints .i64 v181), some (.ints .i64 v182)]) (n := 2) rfl rfl rfl rfl) (seqQ_n (?_)))))
            replace h := Option.some.inj h
            subst h
            exact wp_reg (nx' := 50) rfl (ev_den (.vw _ _) rfl rfl (ev_den (.vw _ _) rfl rfl (ev_den (.vw _ _) rfl rfl (ev_nil)))) (gcQ_n (gc_to [0, 1] (e := [(0, .vw [] (.int .i64 p0)), (1, .vw [] (.int .i64 p1)), (2, .vw [] (.ints .i64 p2)), (9, .ref 0 [] 1 0 (List.length v181)), (10, .ref 1 [] 1 0 (List.length v182)), (11, .vw [] (.int .i64 v183)), (12, .vw [] (.int .i64 ((w64 (x179 - v180))))), (13, .vw [] (.int .i64 ((w64 (x118 + (1 : Int))))))]) (ts := [some (.ints .i64 v181), some (.ints .i64 v182)]) (n := 2) rfl rfl rfl rfl) (loopQ_n rfl))
          · refine wp_seq ?_
            refine wp_reg (nx' := 66) rfl (ev_den (.vw _ _) rfl rfl (ev_den (.vw _ _) rfl rfl (ev_den (.vw _ _) rfl rfl (ev_den (.vw _ _) rfl rfl (ev_nil))))) (seqQ_n (?_))
            rcases its h with ⟨hc189, h⟩ | ⟨hc189, h⟩
            · refine wp_ct rfl hc189 ?_
              obtain ⟨v190, hv190, h⟩ := bs h
              exact wp_reg (nx' := 178) rfl (ev_den (.vw _ _) rfl rfl (ev_den (.vw _ _) rfl rfl (ev_den (.vw _ _) rfl rfl (ev_den (.pv _ _) rfl (d_idx_vi rfl rfl hv190) (ev_den (.vw _ _) rfl rfl (ev_den (.vw _ _) rfl rfl (ev_den (.vw _ _) rfl rfl (ev_nil)))))))) (joinQ_n (w64 (x117 + v190)) h (gc_to [0, 1] rfl rfl rfl rfl))
            · refine wp_cf rfl hc189 ?_
              exact wp_skip (joinQ_n x117 h (gc_to [0, 1] rfl rfl rfl rfl))
      · refine wp_cf rfl hc158 ?_
        replace h := Option.some.inj h
        subst h
        exact wp_exit (gcQ_e (seqQ_e (gcQ_e (loopQ_e (And.intro rfl (gc_to [0, 1] (e := [(9, .ref 0 [] 1 0 (List.length x114)), (10, .ref 1 [] 1 0 (List.length x115))]) (ts := [some (.ints .i64 x114), some (.ints .i64 x115)]) (n := 2) rfl rfl rfl rfl))))))
    · rcases its h with ⟨hc195, h⟩ | ⟨hc195, h⟩
      · exact wp_reg (nx' := 130) rfl (ev_den (.vw _ _) rfl rfl (ev_den (.vw _ _) rfl rfl (ev_den (.vw _ _) rfl rfl (ev_den (.vw _ _) rfl rfl (ev_den (.vw _ _) rfl rfl (ev_off rfl hc195 (ev_off rfl hc195 (ev_den (.vw _ _) rfl (d_pick_t rfl hc195 rfl) (ev_nil))))))))) (joinQ_n true h (gc_to [0, 1] rfl rfl rfl rfl))
      · exact wp_reg (nx' := 130) rfl (ev_den (.vw _ _) rfl rfl (ev_den (.vw _ _) rfl rfl (ev_den (.vw _ _) rfl rfl (ev_den (.vw _ _) rfl rfl (ev_den (.vw _ _) rfl rfl (ev_on rfl hc195 (ev_den (.vw _ _) rfl rfl (ev_on rfl hc195 (ev_den (.vw _ _) rfl rfl (ev_den (.vw _ _) rfl (d_pick_f rfl hc195 rfl) (ev_nil))))))))))) (joinQ_n (decide (x117 > (0 : Int))) h (gc_to [0, 1] rfl rfl rfl rfl))
  · intro e st198 hg198
    rcases w198 with ⟨x135, x136⟩ | r199
    · obtain ⟨rfl, hg198⟩ := hg198
      refine blkQ_h (gcQ_n hg198 (gcQ_n (gc_to [0, 1] (e := [(9, .ref 0 [] 1 0 (List.length x135)), (10, .ref 1 [] 1 0 (List.length x136))]) (ts := [some (.ints .i64 x135), some (.ints .i64 x136)]) (n := 2) rfl rfl rfl rfl) (seqQ_n (?_))))
      refine wp_seq ?_
      refine wp_reg (nx' := 82) rfl (ev_den (.ref 0 _ _ _ _) rfl rfl (ev_den (.ref 1 _ _ _ _) rfl rfl (ev_den (.ref 0 _ _ _ _) rfl rfl (ev_den (.ref 1 _ _ _ _) rfl rfl (ev_den (.vw _ _) rfl rfl (ev_nil)))))) (seqQ_n (?_))
      replace h := Option.some.inj h
      subst h
      exact wp_ret (qf_r ((outs_ok (vs := [(.ref 0 _ _ _ _), (.ref 1 _ _ _ _), (.vw _ _)]) rfl (absW_cons (retT_ref (abs_ref rfl sub_i)) rfl (absW_cons (retT_ref (abs_ref rfl sub_i)) rfl (absW_cons rfl rfl (absW_nil)))) rfl rfl)))
    · obtain ⟨rfl, hg198⟩ := hg198
      replace h := Option.some.inj h
      subst h
      exact blkQ_r (gcQ_r (gcQ_r (seqQ_r (qf_r (hg198)))))
/-- loop.example/g01176/spec.ShapeOf -/
noncomputable def spec_ShapeOf (p0 : Int × Int) (p1 : List Int) : Option (((List Int) × Bool)) :=
(spec_shAsked p0 p1).bind fun v6 =>
if (!v6) = true then
some ([], false)
else
(spec_shSend p0.1 p0.2 p1).bind fun v8 =>
some (v8.1, v8.2.2)
theorem spec_ShapeOf_ok {p0 : Int × Int} {p1 : List Int} {o : ((List Int) × Bool)} (h : spec_ShapeOf p0 p1 = some o) : RN 8 [.agg [.int .i64 p0.1, .int .i64 p0.2], .ints .i64 p1] [] = some (.tup [.ints .i64 o.1, .bool o.2], []) := by
  refine fn_run (o := o) (nr := 0) (F := k8) (st := ⟨entry 0 [.agg [.vw [] (.int .i64 p0.1), .vw [] (.int .i64 p0.2)], .vw [] (.ints .i64 p1)], fun n => ([] : List T)[n]?, 0⟩) (fun (o : ((List Int) × Bool)) => (.tup [.ints .i64 o.1, .bool o.2], [])) rfl fns_8 rfl rfl ?_
  refine wp_seq ?_
  refine wp_reg (nx' := 48) rfl (ev_wr rfl (w_box (sv := (.agg [(.vw _ _), (.vw _ _)])) rfl rfl (absW_cons rfl rfl (absW_cons rfl rfl (absW_nil)))) (ev_new (.ref 16 [] 1 0 0) (.ints .i64 []) rfl rfl (ev_den (.vw _ _) rfl rfl (ev_nil)))) (seqQ_n (?_))
  refine wp_seq ?_
  refine wp_gc ?_
  refine wp_seq ?_
  obtain ⟨v6, hv6, h⟩ := bs h
  refine wp_reg (nx' := 112) rfl (ev_den (.agg [(.vw _ _), (.vw _ _)]) rfl (d_ld_os rfl (rget_of rfl (get_nil)) rfl (cells_cons rfl (cells_cons rfl (cells_nil)))) (ev_den (.vw _ _) rfl rfl (ev_call0 [(.agg [(.vw _ _), (.vw _ _)]), (.vw _ _)] rfl (call_ok (rs := []) (rd := []) rfl rfl rfl rfl (argL_cons (argT_a (argL_cons rfl (argL_cons rfl (argL_nil)))) (argL_cons rfl (argL_nil))) rfl rfl (spec_shAsked_ok hv6) rfl rfl rfl rfl rfl) (ev_den (.vw _ _) rfl rfl (ev_nil))))) (seqQ_n (?_))
  rcases its h with ⟨hc7, h⟩ | ⟨hc7, h⟩
  · refine wp_ct rfl hc7 ?_
    refine wp_seq ?_
    refine wp_reg (nx' := 144) rfl (ev_new (.ref 112 [] 1 0 0) (.ints .i64 []) rfl rfl (ev_den (.vw _ _) rfl rfl (ev_nil))) (seqQ_n (?_))
    replace h := Option.some.inj h
    subst h
    exact wp_ret (gcQ_r (seqQ_r (qf_r ((outs_ok (vs := [(.ref 112 _ _ _ _), (.vw _ _)]) rfl (absW_cons (retT_ref (abs_ref rfl sub_i)) rfl (absW_cons rfl rfl (absW_nil))) rfl rfl)))))
  · refine wp_cf rfl hc7 ?_
    refine wp_skip (gcQ_n (gc_to [0] (e := [(1, .vw [] (.ints .i64 p1)), (2, .ptr 0 [] (some 0))]) (ts := [some (.ptr (.agg [.int .i64 p0.1, .int .i64 p0.2]))]) (n := 1) rfl rfl rfl rfl) (seqQ_n (?_)))
    refine wp_seq ?_
    obtain ⟨v8, hv8, h⟩ := bs h
    refine wp_reg (nx' := 209) rfl (ev_den (.ptr 0 [] (some 0)) rfl rfl (ev_den (.vw _ _) rfl (d_ld_o rfl (rget_of rfl (get_nil)) rfl rfl) (ev_den (.ptr 0 [] (some 1)) rfl rfl (ev_den (.vw _ _) rfl (d_ld_o rfl (rget_of rfl (get_nil)) rfl rfl) (ev_den (.vw _ _) rfl rfl (ev_call0 [(.vw _ _), (.vw _ _), (.vw _ _)] rfl (call_ok (rs := []) (rd := []) rfl rfl rfl rfl (argL_cons rfl (argL_cons rfl (argL_cons rfl (argL_nil)))) rfl rfl (spec_shSend_ok hv8) rfl rfl rfl (bindR_t (bindL_cons rfl (bindL_cons rfl (bindL_cons rfl (bindL_nil))))) rfl) (ev_den (.tup [(.ref 81 _ _ _ _), (.ref 82 _ _ _ _), (.vw _ _)]) rfl rfl (ev_den (.ref 81 _ _ _ _) rfl rfl (ev_den (.ref 82 _ _ _ _) rfl rfl (ev_den (.vw _ _) rfl rfl (ev_den (.ref 81 _ _ _ _) rfl rfl (ev_den (.ref 82 _ _ _ _) rfl rfl (ev_den (.vw _ _) rfl rfl (ev_nil)))))))))))))) (seqQ_n (?_))
    refine wp_seq ?_
    refine wp_reg (nx' := 273) rfl (ev_den (.ref 81 _ _ _ _) rfl rfl (ev_den (.vw _ _) rfl rfl (ev_den (.ref 81 _ _ _ _) rfl rfl (ev_den (.vw _ _) rfl rfl (ev_nil))))) (seqQ_n (?_))
    replace h := Option.some.inj h
    subst h
    exact wp_ret (qf_r ((outs_ok (vs := [(.ref 81 _ _ _ _), (.vw _ _)]) rfl (absW_cons (retT_ref (abs_ref rfl sub_i)) rfl (absW_cons rfl rfl (absW_nil))) rfl rfl)))
/-- loop.example/g01176/impl.BacklogOfShape -/
noncomputable def impl_BacklogOfShape (p0 : Int × Int) (p1 : List Int) : Option ((Int × Bool)) :=
(impl_shaped p0 p1).bind fun v2 =>
some (v2.1.2.1, v2.2)
theorem impl_BacklogOfShape_ok {p0 : Int × Int} {p1 : List Int} {o : (Int × Bool)} (h : impl_BacklogOfShape p0 p1 = some o) : RN 9 [.agg [.int .i64 p0.1, .int .i64 p0.2], .ints .i64 p1] [] = some (.tup [.int .i64 o.1, .bool o.2], []) := by
  refine fn_run (o := o) (nr := 0) (F := k9) (st := ⟨entry 0 [.agg [.vw [] (.int .i64 p0.1), .vw [] (.int .i64 p0.2)], .vw [] (.ints .i64 p1)], fun n => ([] : List T)[n]?, 0⟩) (fun (o : (Int × Bool)) => (.tup [.int .i64 o.1, .bool o.2], [])) rfl fns_9 rfl rfl ?_
  refine wp_seq ?_
  refine wp_reg (nx' := 48) rfl (ev_wr rfl (w_box (sv := (.agg [(.vw _ _), (.vw _ _)])) rfl rfl (absW_cons rfl rfl (absW_cons rfl rfl (absW_nil)))) (ev_den (.vw _ _) rfl rfl (ev_den (.vw _ _) rfl rfl (ev_nil)))) (seqQ_n (?_))
  refine wp_seq ?_
  obtain ⟨v2, hv2, h⟩ := bs h
  refine wp_reg (nx' := 192) rfl (ev_den (.agg [(.vw _ _), (.vw _ _)]) rfl (d_ld_os rfl (rget_of rfl (get_nil)) rfl (cells_cons rfl (cells_cons rfl (cells_nil)))) (ev_den (.vw _ _) rfl rfl (ev_call0 [(.agg [(.vw _ _), (.vw _ _)]), (.vw _ _)] rfl (call_ok (rs := []) (rd := []) rfl rfl rfl rfl (argL_cons (argT_a (argL_cons rfl (argL_cons rfl (argL_nil)))) (argL_cons rfl (argL_nil))) rfl rfl (impl_shaped_ok hv2) rfl rfl rfl (bindR_t (bindL_cons (bindR_a (bindL_cons rfl (bindL_cons rfl (bindL_cons rfl (bindL_nil))))) (bindL_cons rfl (bindL_nil)))) rfl) (ev_den (.tup [(.agg [(.ref 80 _ _ _ _), (.vw _ _), (.vw _ _)]), (.vw _ _)]) rfl rfl (ev_den (.agg [(.ref 80 _ _ _ _), (.vw _ _), (.vw _ _)]) rfl rfl (ev_den (.vw _ _) rfl rfl (ev_new (.ptr 144 [] (some 0)) (.ptr (.agg [.ints .i64 ([]), .int .i64 ((0 : Int)), .int .i64 ((0 : Int))])) rfl rfl (ev_wr0 rfl (w_st_a rfl rfl rfl (stL_cons (st1_of (abs_ref rfl sub_i) rfl rfl (get_f rfl (get_nil)) rfl (rput_p (put_f rfl (put_nil)))) rfl (stL_cons (st1_of rfl rfl rfl (get_f rfl (get_nil)) rfl (rput_p (put_f rfl (put_nil)))) rfl (stL_cons (st1_of rfl rfl rfl (get_f rfl (get_nil)) rfl (rput_p (put_f rfl (put_nil)))) rfl (stL_nil))))) (ev_den (.vw _ _) rfl rfl (ev_nil)))))))))) (seqQ_n (?_))
  refine wp_seq ?_
  refine wp_reg (nx' := 272) rfl (ev_den (.ptr 144 [] (some 1)) rfl rfl (ev_den (.vw _ _) rfl (d_ld_o rfl (rget_of rfl (get_nil)) rfl rfl) (ev_den (.vw _ _) rfl rfl (ev_den (.vw _ _) rfl rfl (ev_den (.vw _ _) rfl rfl (ev_nil)))))) (seqQ_n (?_))
  replace h := Option.some.inj h
  subst h
  exact wp_ret (qf_r ((outs_ok (vs := [(.vw _ _), (.vw _ _)]) rfl (absW_cons rfl rfl (absW_cons rfl rfl (absW_nil))) rfl rfl)))
/-- loop.example/g01176/spec.l1Most -/
noncomputable def spec_l1Most (p0 : Int) (p1 : Int) : Option Int :=
if (decide (p0 > p1)) = true then
some p0
else
some p1
theorem spec_l1Most_ok {p0 : Int} {p1 : Int} {o : Int} (h : spec_l1Most p0 p1 = some o) : RN 42 [.int .i64 p0, .int .i64 p1] [] = some (.int .i64 o, []) := by
  refine fn_run (o := o) (nr := 0) (F := k42) (st := ⟨entry 0 [.vw [] (.int .i64 p0), .vw [] (.int .i64 p1)], fun n => ([] : List T)[n]?, 0⟩) (fun (o : Int) => (.int .i64 o, [])) rfl fns_42 rfl rfl ?_
  refine wp_seq ?_
  refine wp_reg (nx' := 16) rfl (ev_den (.vw _ _) rfl rfl (ev_nil)) (seqQ_n (?_))
  refine wp_seq ?_
  refine wp_gc ?_
  refine wp_seq ?_
  refine wp_reg (nx' := 64) rfl (ev_den (.vw _ _) rfl rfl (ev_den (.vw _ _) rfl rfl (ev_den (.vw _ _) rfl rfl (ev_nil)))) (seqQ_n (?_))
  rcases its h with ⟨hc3, h⟩ | ⟨hc3, h⟩
  · refine wp_ct rfl hc3 ?_
    refine wp_seq ?_
    refine wp_reg (nx' := 96) rfl (ev_den (.vw _ _) rfl rfl (ev_den (.vw _ _) rfl rfl (ev_nil))) (seqQ_n (?_))
    replace h := Option.some.inj h
    subst h
    exact wp_ret (gcQ_r (seqQ_r (qf_r ((outs_ok (vs := [(.vw _ _)]) rfl (absW_cons rfl rfl (absW_nil)) rfl rfl)))))
  · refine wp_cf rfl hc3 ?_
    refine wp_skip (gcQ_n (gc_to [] (e := [(1, .vw [] (.int .i64 p1))]) (ts := []) (n := 0) rfl rfl rfl rfl) (seqQ_n (?_)))
    refine wp_seq ?_
    refine wp_reg (nx' := 32) rfl (ev_den (.vw _ _) rfl rfl (ev_den (.vw _ _) rfl rfl (ev_nil))) (seqQ_n (?_))
    replace h := Option.some.inj h
    subst h
    exact wp_ret (qf_r ((outs_ok (vs := [(.vw _ _)]) rfl (absW_cons rfl rfl (absW_nil)) rfl rfl)))
noncomputable def spec_BacklogOfShape_s1 (v19 : ((List Int) × (List Int) × Bool)) : (Int × Int) → Option ((Int × Int) ⊕ Int) := fun (x45, x46) =>
if (decide (x46 < (List.length v19.2.1 : Int))) = true then
(at? v19.2.1 x46).bind fun v64 =>
(spec_l1Most x45 v64).bind fun v65 =>
some (.inl (v65, (w64 (x46 + (1 : Int)))))
else
some (.inr x45)
noncomputable def spec_BacklogOfShape_l1 (v19 : ((List Int) × (List Int) × Bool)) : (Int × Int) → Option Int := iter (spec_BacklogOfShape_s1 v19)
/-- loop.example/g01176/spec.BacklogOfShape -/
noncomputable def spec_BacklogOfShape (p0 : Int × Int) (p1 : List Int) : Option ((Int × Bool)) :=
(spec_shAsked p0 p1).bind fun v17 =>
if (!v17) = true then
some ((0 : Int), false)
else
(spec_shSend p0.1 p0.2 p1).bind fun v19 =>
(spec_BacklogOfShape_l1 v19 ((0 : Int), (0 : Int))).bind fun x52 =>
some (x52, v19.2.2)
theorem spec_BacklogOfShape_ok {p0 : Int × Int} {p1 : List Int} {o : (Int × Bool)} (h : spec_BacklogOfShape p0 p1 = some o) : RN 10 [.agg [.int .i64 p0.1, .int .i64 p0.2], .ints .i64 p1] [] = some (.tup [.int .i64 o.1, .bool o.2], []) := by
  refine fn_run (o := o) (nr := 0) (F := k10) (st := ⟨entry 0 [.agg [.vw [] (.int .i64 p0.1), .vw [] (.int .i64 p0.2)], .vw [] (.ints .i64 p1)], fun n => ([] : List T)[n]?, 0⟩) (fun (o : (Int × Bool)) => (.tup [.int .i64 o.1, .bool o.2], [])) rfl fns_10 rfl rfl ?_
  refine wp_seq ?_
  refine wp_reg (nx' := 48) rfl (ev_wr rfl (w_box (sv := (.agg [(.vw _ _), (.vw _ _)])) rfl rfl (absW_cons rfl rfl (absW_cons rfl rfl (absW_nil)))) (ev_den (.vw _ _) rfl rfl (ev_den (.vw _ _) rfl rfl (ev_nil)))) (seqQ_n (?_))
  refine wp_seq ?_
  refine wp_gc ?_
  refine wp_seq ?_
  obtain ⟨v17, hv17, h⟩ := bs h
  refine wp_reg (nx' := 112) rfl (ev_den (.agg [(.vw _ _), (.vw _ _)]) rfl (d_ld_os rfl (rget_of rfl (get_nil)) rfl (cells_cons rfl (cells_cons rfl (cells_nil)))) (ev_den (.vw _ _) rfl rfl (ev_call0 [(.agg [(.vw _ _), (.vw _ _)]), (.vw _ _)] rfl (call_ok (rs := []) (rd := []) rfl rfl rfl rfl (argL_cons (argT_a (argL_cons rfl (argL_cons rfl (argL_nil)))) (argL_cons rfl (argL_nil))) rfl rfl (spec_shAsked_ok hv17) rfl rfl rfl rfl rfl) (ev_den (.vw _ _) rfl rfl (ev_nil))))) (seqQ_n (?_))
  rcases its h with ⟨hc18, h⟩ | ⟨hc18, h⟩
  · refine wp_ct rfl hc18 ?_
    refine wp_seq ?_
    refine wp_reg (nx' := 144) rfl (ev_den (.vw _ _) rfl rfl (ev_den (.vw _ _) rfl rfl (ev_nil))) (seqQ_n (?_))
    replace h := Option.some.inj h
    subst h
    exact wp_ret (gcQ_r (seqQ_r (qf_r ((outs_ok (vs := [(.vw _ _), (.vw _ _)]) rfl (absW_cons rfl rfl (absW_cons rfl rfl (absW_nil))) rfl rfl)))))
  · refine wp_cf rfl hc18 ?_
    refine wp_skip (gcQ_n (gc_to [0] (e := [(1, .vw [] (.ints .i64 p1)), (2, .ptr 0 [] (some 0))]) (ts := [some (.ptr (.agg [.int .i64 p0.1, .int .i64 p0.2]))]) (n := 1) rfl rfl rfl rfl) (seqQ_n (?_)))
    refine wp_seq ?_
    obtain ⟨v19, hv19, h⟩ := bs h
    refine wp_reg (nx' := 209) rfl (ev_den (.ptr 0 [] (some 0)) rfl rfl (ev_den (.vw _ _) rfl (d_ld_o rfl (rget_of rfl (get_nil)) rfl rfl) (ev_den (.ptr 0 [] (some 1)) rfl rfl (ev_den (.vw _ _) rfl (d_ld_o rfl (rget_of rfl (get_nil)) rfl rfl) (ev_den (.vw _ _) rfl rfl (ev_call0 [(.vw _ _), (.vw _ _), (.vw _ _)] rfl (call_ok (rs := []) (rd := []) rfl rfl rfl rfl (argL_cons rfl (argL_cons rfl (argL_cons rfl (argL_nil)))) rfl rfl (spec_shSend_ok hv19) rfl rfl rfl (bindR_t (bindL_cons rfl (bindL_cons rfl (bindL_cons rfl (bindL_nil))))) rfl) (ev_den (.tup [(.ref 81 _ _ _ _), (.ref 82 _ _ _ _), (.vw _ _)]) rfl rfl (ev_den (.ref 81 _ _ _ _) rfl rfl (ev_den (.ref 82 _ _ _ _) rfl rfl (ev_den (.vw _ _) rfl rfl (ev_den (.ref 81 _ _ _ _) rfl rfl (ev_den (.ref 82 _ _ _ _) rfl rfl (ev_den (.vw _ _) rfl rfl (ev_nil)))))))))))))) (seqQ_n (?_))
    refine wp_seq ?_
    refine wp_reg (nx' := 225) rfl (ev_den (.vw _ _) rfl rfl (ev_nil)) (seqQ_n (?_))
    refine wp_seq ?_
    refine wp_gc ?_
    refine wp_seq ?_
    refine wp_gc ?_
    refine wp_reg (nx' := 273) rfl (ev_den (.ref 82 _ _ _ _) rfl rfl (ev_den (.vw _ _) rfl rfl (ev_den (.vw _ _) rfl rfl (ev_nil)))) (gcQ_n (gc_to [82] (e := [(8, .vw [] (.bool v19.2.2)), (9, .vw [] (.int .i64 ((0 : Int)))), (26, .ref 0 [] 1 0 (List.length v19.2.1)), (27, .vw [] (.int .i64 ((List.length v19.2.1 : Int)))), (28, .vw [] (.int .i64 ((0 : Int))))]) (ts := [some (.ints .i64 v19.2.1)]) (n := 1) rfl rfl rfl rfl) (seqQ_n (?_)))
    refine wp_gc ?_
    refine wp_blk ?_
    obtain ⟨x52, hw69, h⟩ := bs h
    refine wp_mono (wp_loop (fun ((x45, x46) : Int × Int) => (⟨al .dead [(8, .vw [] (.bool v19.2.2)), (9, .vw [] (.int .i64 x45)), (26, .ref 0 [] 1 0 (List.length v19.2.1)), (27, .vw [] (.int .i64 ((List.length v19.2.1 : Int)))), (28, .vw [] (.int .i64 x46))], hl [some (.ints .i64 v19.2.1)], 1⟩ : St)) (fun (x52 : Int) e st => e = .exit 0 ∧ gc 0 [8, 9] st = ⟨al .dead [(8, .vw [] (.bool v19.2.2)), (9, .vw [] (.int .i64 x52))], hl [], 0⟩) hw69 ?_) ?_
    · rintro ⟨x45, x46⟩ o h
      refine wp_gc ?_
      refine wp_seq ?_
      refine wp_reg (nx' := 17) rfl (ev_den (.vw _ _) rfl rfl (ev_nil)) (seqQ_n (?_))
      refine wp_seq ?_
      refine wp_gc ?_
      rcases its h with ⟨hc59, h⟩ | ⟨hc59, h⟩
      · refine wp_ct rfl hc59 ?_
        refine wp_skip (gcQ_n (gc_to [0] (e := [(8, .vw [] (.bool v19.2.2)), (9, .vw [] (.int .i64 x45)), (26, .ref 0 [] 1 0 (List.length v19.2.1)), (27, .vw [] (.int .i64 ((List.length v19.2.1 : Int)))), (28, .vw [] (.int .i64 x46))]) (ts := [some (.ints .i64 v19.2.1)]) (n := 1) rfl rfl rfl rfl) (seqQ_n (?_)))
        refine wp_seq ?_
        refine wp_gc ?_
        refine wp_gc ?_
        refine wp_blk ?_
        refine wp_seq ?_
        obtain ⟨v64, hv64, h⟩ := bs h
        refine wp_reg (nx' := 49) rfl (ev_den (.ptr 0 [.e (Int.toNat x46)] none) rfl (d_idx_r (p := []) rfl rfl hv64) (ev_den (.vw _ _) rfl (d_ld_p rfl (rget_of rfl (get_i hv64)) rfl) (ev_den (.vw _ _) rfl rfl (ev_nil)))) (seqQ_n (?_))
        obtain ⟨v65, hv65, h⟩ := bs h
        refine wp_reg (nx' := 113) rfl (ev_den (.vw _ _) rfl rfl (ev_den (.vw _ _) rfl rfl (ev_call0 [(.vw _ _), (.vw _ _)] rfl (call_ok (rs := []) (rd := []) rfl rfl rfl rfl (argL_cons rfl (argL_cons rfl (argL_nil))) rfl rfl (spec_l1Most_ok hv65) rfl rfl rfl rfl rfl) (ev_den (.vw _ _) rfl rfl (ev_nil))))) (blkQ_n (gcQ_n (gc_to [0] (e := [(8, .vw [] (.bool v19.2.2)), (9, .vw [] (.int .i64 v65)), (26, .ref 0 [] 1 0 (List.length v19.2.1)), (27, .vw [] (.int .i64 ((List.length v19.2.1 : Int)))), (28, .vw [] (.int .i64 x46))]) (ts := [some (.ints .i64 v19.2.1)]) (n := 1) rfl rfl rfl rfl) (gcQ_n (gc_to [0] (e := [(8, .vw [] (.bool v19.2.2)), (9, .vw [] (.int .i64 v65)), (26, .ref 0 [] 1 0 (List.length v19.2.1)), (27, .vw [] (.int .i64 ((List.length v19.2.1 : Int)))), (28, .vw [] (.int .i64 x46))]) (ts := [some (.ints .i64 v19.2.1)]) (n := 1) rfl rfl rfl rfl) (seqQ_n (?_)))))
        replace h := Option.some.inj h
        subst h
        exact wp_reg (nx' := 33) rfl (ev_den (.vw _ _) rfl rfl (ev_den (.vw _ _) rfl rfl (ev_nil))) (gcQ_n (gc_to [0] (e := [(8, .vw [] (.bool v19.2.2)), (9, .vw [] (.int .i64 v65)), (26, .ref 0 [] 1 0 (List.length v19.2.1)), (27, .vw [] (.int .i64 ((List.length v19.2.1 : Int)))), (28, .vw [] (.int .i64 ((w64 (x46 + (1 : Int))))))]) (ts := [some (.ints .i64 v19.2.1)]) (n := 1) rfl rfl rfl rfl) (loopQ_n rfl))
      · refine wp_cf rfl hc59 ?_
        replace h := Option.some.inj h
        subst h
        exact wp_exit (gcQ_e (seqQ_e (gcQ_e (loopQ_e (And.intro rfl (gc_to [] (e := [(8, .vw [] (.bool v19.2.2)), (9, .vw [] (.int .i64 x45))]) (ts := []) (n := 0) rfl rfl rfl rfl))))))
    · intro e st69 hg69
      obtain ⟨rfl, hg69⟩ := hg69
      refine blkQ_h (gcQ_n hg69 (gcQ_n (gc_to [] (e := [(8, .vw [] (.bool v19.2.2)), (9, .vw [] (.int .i64 x52))]) (ts := []) (n := 0) rfl rfl rfl rfl) (seqQ_n (?_))))
      refine wp_seq ?_
      refine wp_reg (nx' := 64) rfl (ev_den (.vw _ _) rfl rfl (ev_den (.vw _ _) rfl rfl (ev_den (.vw _ _) rfl rfl (ev_den (.vw _ _) rfl rfl (ev_nil))))) (seqQ_n (?_))
      replace h := Option.some.inj h
      subst h
      exact wp_ret (qf_r ((outs_ok (vs := [(.vw _ _), (.vw _ _)]) rfl (absW_cons rfl rfl (absW_cons rfl rfl (absW_nil))) rfl rfl)))
end Go.Proofs.Ythecknnmfghilaa.Ev.Q3
