/- What functions of the program come to, as plain functions; no condition. -/
import Derived.Test.YteeejellpcikkaaG50
set_option linter.unusedVariables false
set_option linter.unusedSimpArgs false
set_option maxRecDepth 100000
set_option maxHeartbeats 4000000
set_option linter.unusedVariables false
namespace Go.Proofs.Yteeejellpcikkaa.Ev.G5
open Go
/-- loop.example/g01176/spec.DrawReadAt -/
noncomputable def spec_DrawReadAt (p0 : List Int) : Option (((Int × Bool) × (List (Int × Int × Int)))) :=
(spec_DrawAreMessages p0).bind fun v2 =>
some v2
theorem spec_DrawReadAt_ok {p0 : List Int} {o : ((Int × Bool) × (List (Int × Int × Int)))} (h : spec_DrawReadAt p0 = some o) : RN 22 [.ints .u8 p0] [] = some (.tup [.agg [.int .i64 o.1.1, .bool o.1.2], .rows 3 (List.map e0 o.2)], []) := by
 refine fn_run (o := o) (nr := 0) (F := k22) (st := ⟨entry 0 [.vw [] (.ints .u8 p0)], fun n => ([] : List T)[n]?, 0⟩) (fun (o : ((Int × Bool) × (List (Int × Int × Int)))) => (.tup [.agg [.int .i64 o.1.1, .bool o.1.2], .rows 3 (List.map e0 o.2)], [])) rfl fns_22 rfl rfl rfl ?_
 refine wp_seq ?_
 refine wp_reg (nx' := 32) rfl (ev_new (.ptr 0 [] (some 0)) (.ptr (.agg [.int .i64 ((0 : Int)), .bool false])) rfl rfl (ev_new (.ref 16 [] 3 0 0) (.rows 3 []) rfl rfl (ev_nil))) (seqQ_n (?_))
 refine wp_seq ?_
 obtain ⟨v2, hv2, h⟩ := bs h
 refine wp_reg (nx' := 128) rfl (ev_v rfl rfl (ev_call0 [(.vw _ _)] rfl (call_ok (rs := []) (rd := []) rfl rfl rfl rfl (argL_cons rfl (argL_nil)) rfl rfl (spec_DrawAreMessages_ok hv2) rfl rfl rfl (bindR_t (bindL_cons (bindR_a (bindL_cons rfl (bindL_cons rfl (bindL_nil)))) (bindL_cons bindR_r (bindL_nil)))) rfl) (ev_den (.agg [(.vw _ _), (.vw _ _)]) rfl rfl (ev_den (.ref 48 _ _ _ _) rfl rfl (ev_wr0 rfl (w_st_a rfl rfl rfl (stL_cons (st1_of rfl rfl rfl (get_f rfl (get_nil)) rfl (rput_p (put_f rfl (put_nil)))) rfl (stL_cons (st1_of rfl rfl rfl (get_f rfl (get_nil)) rfl (rput_p (put_f rfl (put_nil)))) rfl (stL_nil)))) (ev_den (.ref 48 _ _ _ _) rfl rfl (ev_nil))))))) (seqQ_n (?_))
 replace h := Option.some.inj h
 subst h
 exact wp_ret (qf_r ((outs_ok (vs := [(.agg [(.vw _ _), (.vw _ _)]), (.ref 48 _ _ _ _)]) rfl (absW_cons (retT_agg (absW_cons rfl rfl (absW_cons rfl rfl (absW_nil)))) rfl (absW_cons (retT_ref (abs_ref rfl sub_r)) rfl (absW_nil))) rfl rfl)))
/-- loop.example/g01176/impl.within -/
noncomputable def impl_within (p0 : Int) (p1 : Int) (p2 : Int) : Option Bool :=
if (decide (p0 ≥ p1)) = true then
some (decide (p0 ≤ p2))
else
some false
theorem impl_within_ok {p0 : Int} {p1 : Int} {p2 : Int} {o : Bool} (h : impl_within p0 p1 p2 = some o) : RN 50 [.int .i64 p0, .int .i64 p1, .int .i64 p2] [] = some (.bool o, []) := by
 refine fn_run (o := o) (nr := 0) (F := k50) (st := ⟨entry 0 [.vw [] (.int .i64 p0), .vw [] (.int .i64 p1), .vw [] (.int .i64 p2)], fun n => ([] : List T)[n]?, 0⟩) (fun (o : Bool) => (.bool o, [])) rfl fns_50 rfl rfl rfl ?_
 refine wp_seq ?_
 refine wp_reg (nx' := 16) rfl (ev_v rfl rfl (ev_nil)) (seqQ_n (?_))
 refine wp_seq ?_
 refine wp_gc ?_
 rcases its h with ⟨hc3, h⟩ | ⟨hc3, h⟩
 ·refine wp_reg (nx' := 160) rfl (ev_v rfl rfl (ev_v rfl rfl (ev_v rfl rfl (ev_v rfl rfl (ev_on rfl hc3 (ev_v rfl rfl (ev_on rfl hc3 (ev_v rfl rfl (ev_on rfl hc3 (ev_v rfl rfl (ev_v rfl (d_pick_t rfl hc3 rfl) (ev_v rfl rfl (ev_nil))))))))))))) (gcQ_n (gc_to [] (e := [(6, .vw [] (.bool ((decide (p0 ≤ p2)))))]) (ts := []) (n := 0) rfl rfl rfl rfl) (seqQ_n (?_)))
  replace h := Option.some.inj h
  subst h
  exact wp_ret (qf_r ((outs_ok (vs := [(.vw _ _)]) rfl (absW_cons rfl rfl (absW_nil)) rfl rfl)))
 ·refine wp_reg (nx' := 160) rfl (ev_v rfl rfl (ev_v rfl rfl (ev_v rfl rfl (ev_v rfl rfl (ev_off rfl hc3 (ev_off rfl hc3 (ev_off rfl hc3 (ev_v rfl (d_pick_f rfl hc3 rfl) (ev_v rfl rfl (ev_nil)))))))))) (gcQ_n (gc_to [] (e := [(6, .vw [] (.bool false))]) (ts := []) (n := 0) rfl rfl rfl rfl) (seqQ_n (?_)))
  replace h := Option.some.inj h
  subst h
  exact wp_ret (qf_r ((outs_ok (vs := [(.vw _ _)]) rfl (absW_cons rfl rfl (absW_nil)) rfl rfl)))
/-- loop.example/g01176/impl.isRingSize -/
noncomputable def impl_isRingSize (p0 : Int) : Option Bool :=
(impl_within p0 ((2 : Int)) ((12 : Int))).bind fun v2 =>
some v2
theorem impl_isRingSize_ok {p0 : Int} {o : Bool} (h : impl_isRingSize p0 = some o) : RN 62 [.int .i64 p0] [] = some (.bool o, []) := by
 refine fn_run (o := o) (nr := 0) (F := k62) (st := ⟨entry 0 [.vw [] (.int .i64 p0)], fun n => ([] : List T)[n]?, 0⟩) (fun (o : Bool) => (.bool o, [])) rfl fns_62 rfl rfl rfl ?_
 refine wp_seq ?_
 refine wp_reg (nx' := 16) rfl (ev_v rfl rfl (ev_nil)) (seqQ_n (?_))
 refine wp_seq ?_
 obtain ⟨v2, hv2, h⟩ := bs h
 refine wp_reg (nx' := 64) rfl (ev_v rfl rfl (ev_call0 [(.vw _ _), (.vw _ _), (.vw _ _)] rfl (call_ok (rs := []) (rd := []) rfl rfl rfl rfl (argL_cons rfl (argL_cons rfl (argL_cons rfl (argL_nil)))) rfl rfl (impl_within_ok hv2) rfl rfl rfl rfl rfl) (ev_v rfl rfl (ev_nil)))) (seqQ_n (?_))
 replace h := Option.some.inj h
 subst h
 exact wp_ret (qf_r ((outs_ok (vs := [(.vw _ _)]) rfl (absW_cons rfl rfl (absW_nil)) rfl rfl)))
/-- loop.example/g01176/impl.IsSlotRing -/
noncomputable def impl_IsSlotRing (p0 : Int × Bool) : Option Bool :=
(impl_isRingSize p0.1).bind fun v2 =>
some v2
theorem impl_IsSlotRing_ok {p0 : Int × Bool} {o : Bool} (h : impl_IsSlotRing p0 = some o) : RN 33 [.agg [.int .i64 p0.1, .bool p0.2]] [] = some (.bool o, []) := by
 refine fn_run (o := o) (nr := 0) (F := k33) (st := ⟨entry 0 [.agg [.vw [] (.int .i64 p0.1), .vw [] (.bool p0.2)]], fun n => ([] : List T)[n]?, 0⟩) (fun (o : Bool) => (.bool o, [])) rfl fns_33 rfl rfl rfl ?_
 refine wp_seq ?_
 refine wp_reg (nx' := 32) rfl (ev_wr rfl (w_box (sv := (.agg [(.vw _ _), (.vw _ _)])) rfl rfl (absW_cons rfl rfl (absW_cons rfl rfl (absW_nil)))) (ev_v rfl rfl (ev_nil))) (seqQ_n (?_))
 refine wp_seq ?_
 obtain ⟨v2, hv2, h⟩ := bs h
 refine wp_reg (nx' := 96) rfl (ev_den (.ptr 0 [] (some 0)) rfl rfl (ev_v rfl (d_ld_o rfl (rget_of rfl (get_nil)) rfl rfl) (ev_call0 [(.vw _ _)] rfl (call_ok (rs := []) (rd := []) rfl rfl rfl rfl (argL_cons rfl (argL_nil)) rfl rfl (impl_isRingSize_ok hv2) rfl rfl rfl rfl rfl) (ev_v rfl rfl (ev_nil))))) (seqQ_n (?_))
 replace h := Option.some.inj h
 subst h
 exact wp_ret (qf_r ((outs_ok (vs := [(.vw _ _)]) rfl (absW_cons rfl rfl (absW_nil)) rfl rfl)))
/-- loop.example/g01176/impl.allWithin$1 -/
noncomputable def impl_allWithin_fn1 (p0 : Int) (c0 : Int) (c1 : Int) : Option (Bool × Int × Int) :=
(impl_within p0 c0 c1).bind fun v2 =>
some ((!v2), c0, c1)
theorem impl_allWithin_fn1_ok {p0 : Int} {c0 : Int} {c1 : Int} {o : Bool × Int × Int} (h : impl_allWithin_fn1 p0 c0 c1 = some o) : RN 79 [.int .i64 p0, .ref 0, .ref 1] [.ptr (.agg [.int .i64 c0]), .ptr (.agg [.int .i64 c1])] = some (.bool o.1, [.ptr (.agg [.int .i64 o.2.1]), .ptr (.agg [.int .i64 o.2.2])]) := by
 refine fn_run (o := o) (nr := 2) (F := k79) (st := ⟨entry 0 [.vw [] (.int .i64 p0), .ptr 0 [] (some 0), .ptr 1 [] (some 0)], fun n => ([.ptr (.agg [.int .i64 c0]), .ptr (.agg [.int .i64 c1])] : List T)[n]?, 2⟩) (fun (o : Bool × Int × Int) => (.bool o.1, [.ptr (.agg [.int .i64 o.2.1]), .ptr (.agg [.int .i64 o.2.2])])) rfl fns_79 rfl rfl rfl ?_
 refine wp_seq ?_
 refine wp_reg (nx' := 18) rfl (ev_v rfl rfl (ev_nil)) (seqQ_n (?_))
 refine wp_seq ?_
 obtain ⟨v2, hv2, h⟩ := bs h
 refine wp_reg (nx' := 114) rfl (ev_v rfl rfl (ev_v rfl (d_ld_o rfl (rget_of rfl (get_nil)) rfl rfl) (ev_v rfl (d_ld_o rfl (rget_of rfl (get_nil)) rfl rfl) (ev_call0 [(.vw _ _), (.vw _ _), (.vw _ _)] rfl (call_ok (rs := []) (rd := []) rfl rfl rfl rfl (argL_cons rfl (argL_cons rfl (argL_cons rfl (argL_nil)))) rfl rfl (impl_within_ok hv2) rfl rfl rfl rfl rfl) (ev_v rfl rfl (ev_v rfl rfl (ev_nil))))))) (seqQ_n (?_))
 replace h := Option.some.inj h
 subst h
 exact wp_ret (qf_r ((outs_ok (vs := [(.vw _ _)]) rfl (absW_cons rfl rfl (absW_nil)) rfl rfl)))
noncomputable def slices_IndexFunc_s1 (p0 : List Int) : (Int × Int × Int) → Option ((Int × Int × Int) ⊕ ((Int × Int) ⊕ (Int × Int × Int))) := fun (x53, x54, x55) =>
if (decide (x55 < (List.length p0 : Int))) = true then
(at? p0 x55).bind fun v80 =>
(impl_allWithin_fn1 v80 x53 x54).bind fun v81 =>
if v81.1 = true then
some (.inr (.inr (x55, v81.2.1, v81.2.2)))
else
some (.inl (v81.2.1, v81.2.2, (w64 (x55 + (1 : Int)))))
else
some (.inr (.inl (x53, x54)))
noncomputable def slices_IndexFunc_l1 (p0 : List Int) : (Int × Int × Int) → Option ((Int × Int) ⊕ (Int × Int × Int)) := iter (slices_IndexFunc_s1 p0)
/-- slices.IndexFunc[[]int,int] -/
noncomputable def slices_IndexFunc (p0 : List Int) (c0 : Int) (c1 : Int) : Option (Int × Int × Int) :=
(slices_IndexFunc_l1 p0 (c0, c1, (0 : Int))).bind fun w => match w with
| .inl (x63, x64) =>
some ((-1 : Int), x63, x64)
| .inr r89 =>
some r89
theorem slices_IndexFunc_ok {p0 : List Int} {c0 : Int} {c1 : Int} {o : Int × Int × Int} (h : slices_IndexFunc p0 c0 c1 = some o) : RN 82 [.ints .i64 p0, .fn 79 [.ref 0, .ref 1]] [.ptr (.agg [.int .i64 c0]), .ptr (.agg [.int .i64 c1])] = some (.int .i64 o.1, [.ptr (.agg [.int .i64 o.2.1]), .ptr (.agg [.int .i64 o.2.2])]) := by
 refine fn_run (o := o) (nr := 2) (F := k82) (st := ⟨entry 0 [.vw [] (.ints .i64 p0), .fn 79 [.ptr 0 [] (some 0), .ptr 1 [] (some 0)]], fun n => ([.ptr (.agg [.int .i64 c0]), .ptr (.agg [.int .i64 c1])] : List T)[n]?, 2⟩) (fun (o : Int × Int × Int) => (.int .i64 o.1, [.ptr (.agg [.int .i64 o.2.1]), .ptr (.agg [.int .i64 o.2.2])])) rfl fns_82 rfl rfl rfl ?_
 refine wp_seq ?_
 refine wp_reg (nx' := 18) rfl (ev_v rfl rfl (ev_nil)) (seqQ_n (?_))
 refine wp_seq ?_
 refine wp_gc ?_
 refine wp_seq ?_
 refine wp_gc ?_
 refine wp_reg (nx' := 66) rfl (ev_v rfl rfl (ev_v rfl rfl (ev_v rfl rfl (ev_nil)))) (gcQ_n (gc_to [] (e := [(0, .vw [] (.ints .i64 p0)), (1, .fn 79 [.ptr 0 [] (some 0), .ptr 1 [] (some 0)]), (7, .vw [] (.int .i64 ((List.length p0 : Int)))), (8, .vw [] (.int .i64 ((0 : Int))))]) (ts := [some (.ptr (.agg [.int .i64 c0])), some (.ptr (.agg [.int .i64 c1]))]) (n := 2) rfl rfl rfl rfl) (seqQ_n (?_)))
 refine wp_gc ?_
 refine wp_blk ?_
 obtain ⟨w88, hw88, h⟩ := bs h
 refine wp_mono (wp_loop (fun ((x53, x54, x55) : Int × Int × Int) => (⟨al .dead [(0, .vw [] (.ints .i64 p0)), (1, .fn 79 [.ptr 0 [] (some 0), .ptr 1 [] (some 0)]), (7, .vw [] (.int .i64 ((List.length p0 : Int)))), (8, .vw [] (.int .i64 x55))], hl [some (.ptr (.agg [.int .i64 x53])), some (.ptr (.agg [.int .i64 x54]))], 2⟩ : St)) (fun (v : (Int × Int) ⊕ (Int × Int × Int)) e st => match v with | .inl (x63, x64) => e = .exit 0 ∧ gc 2 [] st = ⟨al .dead [], hl [some (.ptr (.agg [.int .i64 x63])), some (.ptr (.agg [.int .i64 x64]))], 2⟩ | .inr rr => e = .ret ∧ outs 2 k82 st = some (.int .i64 rr.1, [.ptr (.agg [.int .i64 rr.2.1]), .ptr (.agg [.int .i64 rr.2.2])])) hw88 ?_) ?_
 ·rintro ⟨x53, x54, x55⟩ o h
  refine wp_gc ?_
  refine wp_seq ?_
  refine wp_reg (nx' := 18) rfl (ev_v rfl rfl (ev_nil)) (seqQ_n (?_))
  refine wp_seq ?_
  refine wp_gc ?_
  rcases its h with ⟨hc73, h⟩ | ⟨hc73, h⟩
  ·refine wp_ct rfl hc73 ?_
   refine wp_skip (gcQ_n (gc_to [] (e := [(0, .vw [] (.ints .i64 p0)), (1, .fn 79 [.ptr 0 [] (some 0), .ptr 1 [] (some 0)]), (7, .vw [] (.int .i64 ((List.length p0 : Int)))), (8, .vw [] (.int .i64 x55))]) (ts := [some (.ptr (.agg [.int .i64 x53])), some (.ptr (.agg [.int .i64 x54]))]) (n := 2) rfl rfl rfl rfl) (seqQ_n (?_)))
   refine wp_seq ?_
   refine wp_gc ?_
   refine wp_gc ?_
   refine wp_blk ?_
   refine wp_seq ?_
   refine wp_reg (nx' := 34) rfl (ev_v rfl rfl (ev_v rfl rfl (ev_nil))) (seqQ_n (?_))
   refine wp_seq ?_
   obtain ⟨v80, hv80, h⟩ := bs h
   obtain ⟨v81, hv81, h⟩ := bs h
   refine wp_reg (nx' := 130) rfl (ev_den (.fn 79 [(.ptr 0 [] (some 0)), (.ptr 1 [] (some 0))]) rfl rfl (ev_v rfl rfl (ev_v rfl rfl (ev_den (.pv _ _) rfl (d_idx_vi rfl rfl hv80) (ev_v rfl rfl (ev_callv [(.vw _ _), (.ptr 0 [] (some 0)), (.ptr 1 [] (some 0))] rfl rfl (call_ok (rs := [0, 1]) (rd := []) rfl rfl rfl rfl (argL_cons rfl (argL_cons rfl (argL_cons rfl (argL_nil)))) rfl rfl (impl_allWithin_fn1_ok hv81) rfl rfl rfl rfl rfl) (ev_nil))))))) (seqQ_n (?_))
   rcases its h with ⟨hc82, h⟩ | ⟨hc82, h⟩
   ·refine wp_ct rfl hc82 ?_
    refine wp_seq ?_
    refine wp_reg (nx' := 162) rfl (ev_v rfl rfl (ev_v rfl rfl (ev_nil))) (seqQ_n (?_))
    replace h := Option.some.inj h
    subst h
    exact wp_ret (blkQ_r (gcQ_r (gcQ_r (seqQ_r (gcQ_r (loopQ_r (And.intro rfl (outs_ok (vs := [(.vw _ _)]) rfl (absW_cons rfl rfl (absW_nil)) rfl rfl))))))))
   ·refine wp_cf rfl hc82 ?_
    refine wp_skip (blkQ_n (gcQ_n (gc_to [] (e := [(0, .vw [] (.ints .i64 p0)), (1, .fn 79 [.ptr 0 [] (some 0), .ptr 1 [] (some 0)]), (7, .vw [] (.int .i64 ((List.length p0 : Int)))), (8, .vw [] (.int .i64 x55))]) (ts := [some (.ptr (.agg [.int .i64 v81.2.1])), some (.ptr (.agg [.int .i64 v81.2.2]))]) (n := 2) rfl rfl rfl rfl) (gcQ_n (gc_to [] (e := [(0, .vw [] (.ints .i64 p0)), (1, .fn 79 [.ptr 0 [] (some 0), .ptr 1 [] (some 0)]), (7, .vw [] (.int .i64 ((List.length p0 : Int)))), (8, .vw [] (.int .i64 x55))]) (ts := [some (.ptr (.agg [.int .i64 v81.2.1])), some (.ptr (.agg [.int .i64 v81.2.2]))]) (n := 2) rfl rfl rfl rfl) (seqQ_n (?_)))))
    replace h := Option.some.inj h
    subst h
    exact wp_reg (nx' := 34) rfl (ev_v rfl rfl (ev_v rfl rfl (ev_nil))) (gcQ_n (gc_to [] (e := [(0, .vw [] (.ints .i64 p0)), (1, .fn 79 [.ptr 0 [] (some 0), .ptr 1 [] (some 0)]), (7, .vw [] (.int .i64 ((List.length p0 : Int)))), (8, .vw [] (.int .i64 ((w64 (x55 + (1 : Int))))))]) (ts := [some (.ptr (.agg [.int .i64 v81.2.1])), some (.ptr (.agg [.int .i64 v81.2.2]))]) (n := 2) rfl rfl rfl rfl) (loopQ_n rfl))
  ·refine wp_cf rfl hc73 ?_
   replace h := Option.some.inj h
   subst h
   exact wp_exit (gcQ_e (seqQ_e (gcQ_e (loopQ_e (And.intro rfl (gc_to [] (e := []) (ts := [some (.ptr (.agg [.int .i64 x53])), some (.ptr (.agg [.int .i64 x54]))]) (n := 2) rfl rfl rfl rfl))))))
 ·intro e st88 hg88
  rcases w88 with ⟨x63, x64⟩ | r89
  ·obtain ⟨rfl, hg88⟩ := hg88
   refine blkQ_h (gcQ_n hg88 (gcQ_n (gc_to [] (e := []) (ts := [some (.ptr (.agg [.int .i64 x63])), some (.ptr (.agg [.int .i64 x64]))]) (n := 2) rfl rfl rfl rfl) (seqQ_n (?_))))
   refine wp_seq ?_
   refine wp_reg (nx' := 18) rfl (ev_v rfl rfl (ev_nil)) (seqQ_n (?_))
   replace h := Option.some.inj h
   subst h
   exact wp_ret (qf_r ((outs_ok (vs := [(.vw _ _)]) rfl (absW_cons rfl rfl (absW_nil)) rfl rfl)))
  ·obtain ⟨rfl, hg88⟩ := hg88
   replace h := Option.some.inj h
   subst h
   exact blkQ_r (gcQ_r (gcQ_r (seqQ_r (qf_r (hg88)))))
/-- slices.ContainsFunc[[]int,int] -/
noncomputable def slices_ContainsFunc (p0 : List Int) (c0 : Int) (c1 : Int) : Option (Bool × Int × Int) :=
(slices_IndexFunc p0 c0 c1).bind fun v2 =>
some ((decide (v2.1 ≥ (0 : Int))), v2.2.1, v2.2.2)
theorem slices_ContainsFunc_ok {p0 : List Int} {c0 : Int} {c1 : Int} {o : Bool × Int × Int} (h : slices_ContainsFunc p0 c0 c1 = some o) : RN 78 [.ints .i64 p0, .fn 79 [.ref 0, .ref 1]] [.ptr (.agg [.int .i64 c0]), .ptr (.agg [.int .i64 c1])] = some (.bool o.1, [.ptr (.agg [.int .i64 o.2.1]), .ptr (.agg [.int .i64 o.2.2])]) := by
 refine fn_run (o := o) (nr := 2) (F := k78) (st := ⟨entry 0 [.vw [] (.ints .i64 p0), .fn 79 [.ptr 0 [] (some 0), .ptr 1 [] (some 0)]], fun n => ([.ptr (.agg [.int .i64 c0]), .ptr (.agg [.int .i64 c1])] : List T)[n]?, 2⟩) (fun (o : Bool × Int × Int) => (.bool o.1, [.ptr (.agg [.int .i64 o.2.1]), .ptr (.agg [.int .i64 o.2.2])])) rfl fns_78 rfl rfl rfl ?_
 refine wp_seq ?_
 refine wp_reg (nx' := 18) rfl (ev_v rfl rfl (ev_nil)) (seqQ_n (?_))
 refine wp_seq ?_
 obtain ⟨v2, hv2, h⟩ := bs h
 refine wp_reg (nx' := 98) rfl (ev_v rfl rfl (ev_den (.fn 79 [(.ptr 0 [] (some 0)), (.ptr 1 [] (some 0))]) rfl rfl (ev_call1 [(.vw _ _), (.fn 79 [(.ptr 0 [] (some 0)), (.ptr 1 [] (some 0))])] rfl (call_ok (rs := [0, 1]) (rd := []) rfl rfl rfl rfl (argL_cons rfl (argL_cons (argT_f (argL_cons rfl (argL_cons rfl (argL_nil)))) (argL_nil))) rfl rfl (slices_IndexFunc_ok hv2) rfl rfl rfl rfl rfl) (ev_v rfl rfl (ev_v rfl rfl (ev_nil)))))) (seqQ_n (?_))
 replace h := Option.some.inj h
 subst h
 exact wp_ret (qf_r ((outs_ok (vs := [(.vw _ _)]) rfl (absW_cons rfl rfl (absW_nil)) rfl rfl)))
/-- loop.example/g01176/impl.allWithin -/
noncomputable def impl_allWithin (p0 : List Int) (p1 : Int) (p2 : Int) : Option Bool :=
(slices_ContainsFunc p0 p1 p2).bind fun v2 =>
some (!v2.1)
theorem impl_allWithin_ok {p0 : List Int} {p1 : Int} {p2 : Int} {o : Bool} (h : impl_allWithin p0 p1 p2 = some o) : RN 76 [.ints .i64 p0, .int .i64 p1, .int .i64 p2] [] = some (.bool o, []) := by
 refine fn_run (o := o) (nr := 0) (F := k76) (st := ⟨entry 0 [.vw [] (.ints .i64 p0), .vw [] (.int .i64 p1), .vw [] (.int .i64 p2)], fun n => ([] : List T)[n]?, 0⟩) (fun (o : Bool) => (.bool o, [])) rfl fns_76 rfl rfl rfl ?_
 refine wp_seq ?_
 refine wp_reg (nx' := 48) rfl (ev_wr rfl (w_box (sv := (.vw _ _)) rfl rfl (absW_cons rfl rfl (absW_nil))) (ev_wr rfl (w_box (sv := (.vw _ _)) rfl rfl (absW_cons rfl rfl (absW_nil))) (ev_v rfl rfl (ev_nil)))) (seqQ_n (?_))
 refine wp_seq ?_
 obtain ⟨v2, hv2, h⟩ := bs h
 refine wp_reg (nx' := 128) rfl (ev_v rfl rfl (ev_den (.fn 79 [(.ptr 0 [] (some 0)), (.ptr 16 [] (some 0))]) rfl rfl (ev_call1 [(.vw _ _), (.fn 79 [(.ptr 0 [] (some 0)), (.ptr 16 [] (some 0))])] rfl (call_ok (rs := [0, 16]) (rd := []) rfl rfl rfl rfl (argL_cons rfl (argL_cons (argT_f (argL_cons rfl (argL_cons rfl (argL_nil)))) (argL_nil))) rfl rfl (slices_ContainsFunc_ok hv2) rfl rfl rfl rfl rfl) (ev_v rfl rfl (ev_v rfl rfl (ev_nil)))))) (seqQ_n (?_))
 replace h := Option.some.inj h
 subst h
 exact wp_ret (qf_r ((outs_ok (vs := [(.vw _ _)]) rfl (absW_cons rfl rfl (absW_nil)) rfl rfl)))
noncomputable def impl_areMessages_j2 (x84 : Int) : Bool → Option (Int ⊕ (Unit ⊕ Bool)) := fun x139 =>
if x139 = true then
some (.inr (.inr false))
else
some (.inl ((w64 (x84 + (1 : Int)))))
noncomputable def impl_areMessages_s1 (p0 : Int) (p1 : List (Int × Int × Int)) : Int → Option (Int ⊕ (Unit ⊕ Bool)) := fun x84 =>
if (decide (x84 < (List.length p1 : Int))) = true then
(at? p1 x84).bind fun v131 =>
(impl_within v131.1 ((0 : Int)) ((100 : Int))).bind fun v142 =>
if (!v142) = true then
impl_areMessages_j2 x84 true
else
(impl_allWithin (([v131.2.1, v131.2.2] : List Int)) ((0 : Int)) ((w64 (p0 - (1 : Int))))).bind fun v145 =>
if (!v145) = true then
impl_areMessages_j2 x84 true
else
if (v131.2.1 == v131.2.2) = true then
impl_areMessages_j2 x84 true
else
if (decide (x84 > (0 : Int))) = true then
(at? p1 ((w64 (x84 - (1 : Int))))).bind fun v151 =>
impl_areMessages_j2 x84 (decide (v151.1 > v131.1))
else
impl_areMessages_j2 x84 false
else
some (.inr (.inl ()))
noncomputable def impl_areMessages_l1 (p0 : Int) (p1 : List (Int × Int × Int)) : Int → Option (Unit ⊕ Bool) := iter (impl_areMessages_s1 p0 p1)
/-- loop.example/g01176/impl.areMessages -/
noncomputable def impl_areMessages (p0 : Int) (p1 : List (Int × Int × Int)) : Option Bool :=
(impl_areMessages_l1 p0 p1 (0 : Int)).bind fun w => match w with
| .inl _ =>
some (decide ((List.length p1 : Int) ≤ (20 : Int)))
| .inr r155 =>
some r155
theorem impl_areMessages_ok {p0 : Int} {p1 : List (Int × Int × Int)} {o : Bool} (h : impl_areMessages p0 p1 = some o) : RN 60 [.int .i64 p0, .rows 3 (List.map e0 p1)] [] = some (.bool o, []) := by
 refine fn_run (o := o) (nr := 0) (F := k60) (st := ⟨entry 0 [.vw [] (.int .i64 p0), .vw [] (.rows 3 (List.map e0 p1))], fun n => ([] : List T)[n]?, 0⟩) (fun (o : Bool) => (.bool o, [])) rfl fns_60 rfl rfl rfl ?_
 refine wp_seq ?_
 refine wp_reg (nx' := 16) rfl (ev_v rfl rfl (ev_nil)) (seqQ_n (?_))
 refine wp_seq ?_
 refine wp_gc ?_
 refine wp_seq ?_
 refine wp_gc ?_
 refine wp_reg (nx' := 64) rfl (ev_v rfl rfl (ev_v rfl (d_len_vr (e := e0) rfl) (ev_v rfl rfl (ev_nil)))) (gcQ_n (gc_to [] (e := [(0, .vw [] (.int .i64 p0)), (1, .vw [] (.rows 3 (List.map e0 p1))), (7, .vw [] (.rows 3 (List.map e0 p1))), (8, .vw [] (.int .i64 ((List.length p1 : Int)))), (9, .vw [] (.int .i64 ((0 : Int))))]) (ts := []) (n := 0) rfl rfl rfl rfl) (seqQ_n (?_)))
 refine wp_gc ?_
 refine wp_blk ?_
 obtain ⟨w154, hw154, h⟩ := bs h
 refine wp_mono (wp_loop (fun (x84 : Int) => (⟨al .dead [(0, .vw [] (.int .i64 p0)), (1, .vw [] (.rows 3 (List.map e0 p1))), (7, .vw [] (.rows 3 (List.map e0 p1))), (8, .vw [] (.int .i64 ((List.length p1 : Int)))), (9, .vw [] (.int .i64 x84))], hl [], 0⟩ : St)) (fun (v : Unit ⊕ Bool) e st => match v with | .inl _ => e = .exit 0 ∧ gc 0 [1] st = ⟨al .dead [(1, .vw [] (.rows 3 (List.map e0 p1)))], hl [], 0⟩ | .inr rr => e = .ret ∧ outs 0 k60 st = some (.bool rr, [])) hw154 ?_) ?_
 ·rintro x84 o h
  refine wp_gc ?_
  refine wp_seq ?_
  refine wp_reg (nx' := 16) rfl (ev_v rfl rfl (ev_nil)) (seqQ_n (?_))
  refine wp_seq ?_
  refine wp_gc ?_
  rcases its h with ⟨hc110, h⟩ | ⟨hc110, h⟩
  ·refine wp_ct rfl hc110 ?_
   refine wp_skip (gcQ_n (gc_to [] (e := [(0, .vw [] (.int .i64 p0)), (1, .vw [] (.rows 3 (List.map e0 p1))), (7, .vw [] (.rows 3 (List.map e0 p1))), (8, .vw [] (.int .i64 ((List.length p1 : Int)))), (9, .vw [] (.int .i64 x84))]) (ts := []) (n := 0) rfl rfl rfl rfl) (seqQ_n (?_)))
   refine wp_seq ?_
   refine wp_gc ?_
   refine wp_gc ?_
   refine wp_blk ?_
   refine wp_seq ?_
   obtain ⟨v131, hv131, h⟩ := bs h
   refine wp_reg (nx' := 96) rfl (ev_v rfl rfl (ev_den (.pv _ _) rfl (d_idx_vr e0 rfl rfl hv131) (ev_den (.agg [(.vw _ _), (.vw _ _), (.vw _ _)]) rfl rfl (ev_new (.ptr 48 [] (some 0)) (.ptr (.agg [.int .i64 ((0 : Int)), .int .i64 ((0 : Int)), .int .i64 ((0 : Int))])) rfl rfl (ev_v rfl rfl (ev_wr0 rfl (w_st_a rfl rfl rfl (stL_cons (st1_of rfl rfl rfl (get_f rfl (get_nil)) rfl (rput_p (put_f rfl (put_nil)))) rfl (stL_cons (st1_of rfl rfl rfl (get_f rfl (get_nil)) rfl (rput_p (put_f rfl (put_nil)))) rfl (stL_cons (st1_of rfl rfl rfl (get_f rfl (get_nil)) rfl (rput_p (put_f rfl (put_nil)))) rfl (stL_nil))))) (ev_nil))))))) (seqQ_n (?_))
   refine wp_seq ?_
   refine wp_join (impl_areMessages_j2 x84) (fun (x139 : Bool) => (⟨al .dead [(0, .vw [] (.int .i64 p0)), (1, .vw [] (.rows 3 (List.map e0 p1))), (7, .vw [] (.rows 3 (List.map e0 p1))), (8, .vw [] (.int .i64 ((List.length p1 : Int)))), (9, .vw [] (.int .i64 x84)), (50, .vw [] (.bool x139))], hl [], 0⟩ : St)) ?_ ?_
   ·rintro x139 o h
    unfold impl_areMessages_j2 at h
    refine seqQ_n (?_)
    rcases its h with ⟨hc140, h⟩ | ⟨hc140, h⟩
    ·refine wp_ct rfl hc140 ?_
     refine wp_seq ?_
     refine wp_reg (nx' := 16) rfl (ev_v rfl rfl (ev_nil)) (seqQ_n (?_))
     replace h := Option.some.inj h
     subst h
     exact wp_ret (blkQ_r (gcQ_r (gcQ_r (seqQ_r (gcQ_r (loopQ_r (And.intro rfl (outs_ok (vs := [(.vw _ _)]) rfl (absW_cons rfl rfl (absW_nil)) rfl rfl))))))))
    ·refine wp_cf rfl hc140 ?_
     refine wp_skip (blkQ_n (gcQ_n (gc_to [] (e := [(0, .vw [] (.int .i64 p0)), (1, .vw [] (.rows 3 (List.map e0 p1))), (7, .vw [] (.rows 3 (List.map e0 p1))), (8, .vw [] (.int .i64 ((List.length p1 : Int)))), (9, .vw [] (.int .i64 x84))]) (ts := []) (n := 0) rfl rfl rfl rfl) (gcQ_n (gc_to [] (e := [(0, .vw [] (.int .i64 p0)), (1, .vw [] (.rows 3 (List.map e0 p1))), (7, .vw [] (.rows 3 (List.map e0 p1))), (8, .vw [] (.int .i64 ((List.length p1 : Int)))), (9, .vw [] (.int .i64 x84))]) (ts := []) (n := 0) rfl rfl rfl rfl) (seqQ_n (?_)))))
     replace h := Option.some.inj h
     subst h
     exact wp_reg (nx' := 32) rfl (ev_v rfl rfl (ev_v rfl rfl (ev_nil))) (gcQ_n (gc_to [] (e := [(0, .vw [] (.int .i64 p0)), (1, .vw [] (.rows 3 (List.map e0 p1))), (7, .vw [] (.rows 3 (List.map e0 p1))), (8, .vw [] (.int .i64 ((List.length p1 : Int)))), (9, .vw [] (.int .i64 ((w64 (x84 + (1 : Int))))))]) (ts := []) (n := 0) rfl rfl rfl rfl) (loopQ_n rfl))
   ·obtain ⟨v142, hv142, h⟩ := bs h
    rcases its h with ⟨hc143, h⟩ | ⟨hc143, h⟩
    ·exact wp_reg (nx' := 688) rfl (ev_den (.ptr 48 [] (some 0)) rfl rfl (ev_v rfl (d_ld_o rfl (rget_of rfl (get_nil)) rfl rfl) (ev_call0 [(.vw _ _), (.vw _ _), (.vw _ _)] rfl (call_ok (rs := []) (rd := []) rfl rfl rfl rfl (argL_cons rfl (argL_cons rfl (argL_cons rfl (argL_nil)))) rfl rfl (impl_within_ok hv142) rfl rfl rfl rfl rfl) (ev_v rfl rfl (ev_v rfl rfl (ev_off rfl hc143 (ev_off rfl hc143 (ev_off rfl hc143 (ev_off rfl hc143 (ev_off rfl hc143 (ev_off rfl hc143 (ev_off rfl hc143 (ev_off rfl hc143 (ev_off rfl hc143 (ev_v rfl (d_pick_t rfl hc143 rfl) (ev_v rfl rfl (ev_off rfl rfl (ev_off rfl rfl (ev_off rfl rfl (ev_off rfl rfl (ev_off rfl rfl (ev_v rfl (d_pick_t rfl rfl rfl) (ev_v rfl rfl (ev_off rfl rfl (ev_off rfl rfl (ev_off rfl rfl (ev_un rfl (ev_un rfl (ev_un rfl (ev_un rfl (ev_un rfl (ev_un rfl (ev_un rfl (ev_un rfl (ev_un rfl (ev_off rfl rfl (ev_v rfl (d_pick_t rfl rfl rfl) (ev_nil)))))))))))))))))))))))))))))))))))))) (joinQ_n true h (gc_to [] rfl rfl rfl rfl))
    ·obtain ⟨v145, hv145, h⟩ := bs h
     rcases its h with ⟨hc146, h⟩ | ⟨hc146, h⟩
     ·exact wp_reg (nx' := 688) rfl (ev_den (.ptr 48 [] (some 0)) rfl rfl (ev_v rfl (d_ld_o rfl (rget_of rfl (get_nil)) rfl rfl) (ev_call0 [(.vw _ _), (.vw _ _), (.vw _ _)] rfl (call_ok (rs := []) (rd := []) rfl rfl rfl rfl (argL_cons rfl (argL_cons rfl (argL_cons rfl (argL_nil)))) rfl rfl (impl_within_ok hv142) rfl rfl rfl rfl rfl) (ev_v rfl rfl (ev_v rfl rfl (ev_on rfl hc143 (ev_den (.ptr 48 [] (some 1)) rfl rfl (ev_on rfl hc143 (ev_v rfl (d_ld_o rfl (rget_of rfl (get_nil)) rfl rfl) (ev_on rfl hc143 (ev_den (.ptr 48 [] (some 2)) rfl rfl (ev_on rfl hc143 (ev_v rfl (d_ld_o rfl (rget_of rfl (get_nil)) rfl rfl) (ev_on rfl hc143 (ev_v rfl rfl (ev_on rfl hc143 (ev_v rfl rfl (ev_on rfl hc143 (ev_v rfl rfl (ev_on rfl hc143 (ev_call0 [(.vw _ _), (.vw _ _), (.vw _ _)] rfl (call_ok (rs := []) (rd := []) rfl rfl rfl rfl (argL_cons rfl (argL_cons rfl (argL_cons rfl (argL_nil)))) rfl rfl (impl_allWithin_ok hv145) rfl rfl rfl rfl rfl) (ev_on rfl hc143 (ev_v rfl rfl (ev_v rfl (d_pick_f rfl hc143 rfl) (ev_v rfl rfl (ev_off rfl hc146 (ev_off rfl hc146 (ev_off rfl hc146 (ev_off rfl hc146 (ev_off rfl hc146 (ev_v rfl (d_pick_t rfl hc146 rfl) (ev_v rfl rfl (ev_off rfl rfl (ev_off rfl rfl (ev_off rfl rfl (ev_un rfl (ev_un rfl (ev_un rfl (ev_un rfl (ev_un rfl (ev_un rfl (ev_un rfl (ev_un rfl (ev_un rfl (ev_off rfl rfl (ev_v rfl (d_pick_t rfl rfl rfl) (ev_nil))))))))))))))))))))))))))))))))))))))))))))))) (joinQ_n true h (gc_to [] rfl rfl rfl rfl))
     ·rcases its h with ⟨hc148, h⟩ | ⟨hc148, h⟩
      ·exact wp_reg (nx' := 688) rfl (ev_den (.ptr 48 [] (some 0)) rfl rfl (ev_v rfl (d_ld_o rfl (rget_of rfl (get_nil)) rfl rfl) (ev_call0 [(.vw _ _), (.vw _ _), (.vw _ _)] rfl (call_ok (rs := []) (rd := []) rfl rfl rfl rfl (argL_cons rfl (argL_cons rfl (argL_cons rfl (argL_nil)))) rfl rfl (impl_within_ok hv142) rfl rfl rfl rfl rfl) (ev_v rfl rfl (ev_v rfl rfl (ev_on rfl hc143 (ev_den (.ptr 48 [] (some 1)) rfl rfl (ev_on rfl hc143 (ev_v rfl (d_ld_o rfl (rget_of rfl (get_nil)) rfl rfl) (ev_on rfl hc143 (ev_den (.ptr 48 [] (some 2)) rfl rfl (ev_on rfl hc143 (ev_v rfl (d_ld_o rfl (rget_of rfl (get_nil)) rfl rfl) (ev_on rfl hc143 (ev_v rfl rfl (ev_on rfl hc143 (ev_v rfl rfl (ev_on rfl hc143 (ev_v rfl rfl (ev_on rfl hc143 (ev_call0 [(.vw _ _), (.vw _ _), (.vw _ _)] rfl (call_ok (rs := []) (rd := []) rfl rfl rfl rfl (argL_cons rfl (argL_cons rfl (argL_cons rfl (argL_nil)))) rfl rfl (impl_allWithin_ok hv145) rfl rfl rfl rfl rfl) (ev_on rfl hc143 (ev_v rfl rfl (ev_v rfl (d_pick_f rfl hc143 rfl) (ev_v rfl rfl (ev_on rfl hc146 (ev_den (.ptr 48 [] (some 1)) rfl rfl (ev_on rfl hc146 (ev_v rfl (d_ld_o rfl (rget_of rfl (get_nil)) rfl rfl) (ev_on rfl hc146 (ev_den (.ptr 48 [] (some 2)) rfl rfl (ev_on rfl hc146 (ev_v rfl (d_ld_o rfl (rget_of rfl (get_nil)) rfl rfl) (ev_on rfl hc146 (ev_v rfl rfl (ev_v rfl (d_pick_f rfl hc146 rfl) (ev_v rfl rfl (ev_off rfl hc148 (ev_off rfl hc148 (ev_off rfl hc148 (ev_un rfl (ev_un rfl (ev_un rfl (ev_un rfl (ev_un rfl (ev_un rfl (ev_un rfl (ev_un rfl (ev_un rfl (ev_off rfl hc148 (ev_v rfl (d_pick_t rfl hc148 rfl) (ev_nil)))))))))))))))))))))))))))))))))))))))))))))))))))) (joinQ_n true h (gc_to [] rfl rfl rfl rfl))
      ·rcases its h with ⟨hc150, h⟩ | ⟨hc150, h⟩
       ·obtain ⟨v151, hv151, h⟩ := bs h
        exact wp_reg (nx' := 688) rfl (ev_den (.ptr 48 [] (some 0)) rfl rfl (ev_v rfl (d_ld_o rfl (rget_of rfl (get_nil)) rfl rfl) (ev_call0 [(.vw _ _), (.vw _ _), (.vw _ _)] rfl (call_ok (rs := []) (rd := []) rfl rfl rfl rfl (argL_cons rfl (argL_cons rfl (argL_cons rfl (argL_nil)))) rfl rfl (impl_within_ok hv142) rfl rfl rfl rfl rfl) (ev_v rfl rfl (ev_v rfl rfl (ev_on rfl hc143 (ev_den (.ptr 48 [] (some 1)) rfl rfl (ev_on rfl hc143 (ev_v rfl (d_ld_o rfl (rget_of rfl (get_nil)) rfl rfl) (ev_on rfl hc143 (ev_den (.ptr 48 [] (some 2)) rfl rfl (ev_on rfl hc143 (ev_v rfl (d_ld_o rfl (rget_of rfl (get_nil)) rfl rfl) (ev_on rfl hc143 (ev_v rfl rfl (ev_on rfl hc143 (ev_v rfl rfl (ev_on rfl hc143 (ev_v rfl rfl (ev_on rfl hc143 (ev_call0 [(.vw _ _), (.vw _ _), (.vw _ _)] rfl (call_ok (rs := []) (rd := []) rfl rfl rfl rfl (argL_cons rfl (argL_cons rfl (argL_cons rfl (argL_nil)))) rfl rfl (impl_allWithin_ok hv145) rfl rfl rfl rfl rfl) (ev_on rfl hc143 (ev_v rfl rfl (ev_v rfl (d_pick_f rfl hc143 rfl) (ev_v rfl rfl (ev_on rfl hc146 (ev_den (.ptr 48 [] (some 1)) rfl rfl (ev_on rfl hc146 (ev_v rfl (d_ld_o rfl (rget_of rfl (get_nil)) rfl rfl) (ev_on rfl hc146 (ev_den (.ptr 48 [] (some 2)) rfl rfl (ev_on rfl hc146 (ev_v rfl (d_ld_o rfl (rget_of rfl (get_nil)) rfl rfl) (ev_on rfl hc146 (ev_v rfl rfl (ev_v rfl (d_pick_f rfl hc146 rfl) (ev_v rfl rfl (ev_on rfl hc148 (ev_v rfl rfl (ev_on rfl hc148 (ev_v rfl rfl (ev_on rfl hc148 (ev_v rfl rfl (ev_on rfl hc150 (ev_v rfl rfl (ev_on rfl hc150 (ev_v rfl rfl (ev_on rfl hc150 (ev_v rfl rfl (ev_on rfl hc150 (ev_den (.pv _ _) rfl (d_idx_vr e0 rfl rfl hv151) (ev_on rfl hc150 (ev_den (.pv _ _) rfl rfl (ev_on rfl hc150 (ev_v rfl rfl (ev_on rfl hc150 (ev_den (.ptr 48 [] (some 0)) rfl rfl (ev_on rfl hc150 (ev_v rfl (d_ld_o rfl (rget_of rfl (get_nil)) rfl rfl) (ev_on rfl hc150 (ev_v rfl rfl (ev_on rfl hc148 (ev_v rfl (d_pick_t rfl hc150 rfl) (ev_v rfl (d_pick_f rfl hc148 rfl) (ev_nil))))))))))))))))))))))))))))))))))))))))))))))))))))))))))))))))) (joinQ_n (decide (v151.1 > v131.1)) h (gc_to [] rfl rfl rfl rfl))
       ·exact wp_reg (nx' := 688) rfl (ev_den (.ptr 48 [] (some 0)) rfl rfl (ev_v rfl (d_ld_o rfl (rget_of rfl (get_nil)) rfl rfl) (ev_call0 [(.vw _ _), (.vw _ _), (.vw _ _)] rfl (call_ok (rs := []) (rd := []) rfl rfl rfl rfl (argL_cons rfl (argL_cons rfl (argL_cons rfl (argL_nil)))) rfl rfl (impl_within_ok hv142) rfl rfl rfl rfl rfl) (ev_v rfl rfl (ev_v rfl rfl (ev_on rfl hc143 (ev_den (.ptr 48 [] (some 1)) rfl rfl (ev_on rfl hc143 (ev_v rfl (d_ld_o rfl (rget_of rfl (get_nil)) rfl rfl) (ev_on rfl hc143 (ev_den (.ptr 48 [] (some 2)) rfl rfl (ev_on rfl hc143 (ev_v rfl (d_ld_o rfl (rget_of rfl (get_nil)) rfl rfl) (ev_on rfl hc143 (ev_v rfl rfl (ev_on rfl hc143 (ev_v rfl rfl (ev_on rfl hc143 (ev_v rfl rfl (ev_on rfl hc143 (ev_call0 [(.vw _ _), (.vw _ _), (.vw _ _)] rfl (call_ok (rs := []) (rd := []) rfl rfl rfl rfl (argL_cons rfl (argL_cons rfl (argL_cons rfl (argL_nil)))) rfl rfl (impl_allWithin_ok hv145) rfl rfl rfl rfl rfl) (ev_on rfl hc143 (ev_v rfl rfl (ev_v rfl (d_pick_f rfl hc143 rfl) (ev_v rfl rfl (ev_on rfl hc146 (ev_den (.ptr 48 [] (some 1)) rfl rfl (ev_on rfl hc146 (ev_v rfl (d_ld_o rfl (rget_of rfl (get_nil)) rfl rfl) (ev_on rfl hc146 (ev_den (.ptr 48 [] (some 2)) rfl rfl (ev_on rfl hc146 (ev_v rfl (d_ld_o rfl (rget_of rfl (get_nil)) rfl rfl) (ev_on rfl hc146 (ev_v rfl rfl (ev_v rfl (d_pick_f rfl hc146 rfl) (ev_v rfl rfl (ev_on rfl hc148 (ev_v rfl rfl (ev_on rfl hc148 (ev_v rfl rfl (ev_on rfl hc148 (ev_v rfl rfl (ev_off rfl hc150 (ev_off rfl hc150 (ev_off rfl hc150 (ev_off rfl hc150 (ev_off rfl hc150 (ev_off rfl hc150 (ev_off rfl hc150 (ev_off rfl hc150 (ev_off rfl hc150 (ev_on rfl hc148 (ev_v rfl (d_pick_f rfl hc150 rfl) (ev_v rfl (d_pick_f rfl hc148 rfl) (ev_nil)))))))))))))))))))))))))))))))))))))))))))))))))))))))) (joinQ_n false h (gc_to [] rfl rfl rfl rfl))
  ·refine wp_cf rfl hc110 ?_
   replace h := Option.some.inj h
   subst h
   exact wp_exit (gcQ_e (seqQ_e (gcQ_e (loopQ_e (And.intro rfl (gc_to [] (e := [(1, .vw [] (.rows 3 (List.map e0 p1)))]) (ts := []) (n := 0) rfl rfl rfl rfl))))))
 ·intro e st154 hg154
  rcases w154 with _ | r155
  ·obtain ⟨rfl, hg154⟩ := hg154
   refine blkQ_h (gcQ_n hg154 (gcQ_n (gc_to [] (e := [(1, .vw [] (.rows 3 (List.map e0 p1)))]) (ts := []) (n := 0) rfl rfl rfl rfl) (seqQ_n (?_))))
   refine wp_seq ?_
   refine wp_reg (nx' := 64) rfl (ev_v rfl rfl (ev_v rfl (d_len_vr (e := e0) rfl) (ev_v rfl rfl (ev_v rfl rfl (ev_nil))))) (seqQ_n (?_))
   replace h := Option.some.inj h
   subst h
   exact wp_ret (qf_r ((outs_ok (vs := [(.vw _ _)]) rfl (absW_cons rfl rfl (absW_nil)) rfl rfl)))
  ·obtain ⟨rfl, hg154⟩ := hg154
   replace h := Option.some.inj h
   subst h
   exact blkQ_r (gcQ_r (gcQ_r (seqQ_r (qf_r (hg154)))))
/-- loop.example/g01176/impl.isSlotted -/
noncomputable def impl_isSlotted (p0 : Int × Bool) (p1 : List (Int × Int × Int)) : Option Bool :=
(impl_IsSlotRing p0).bind fun v7 =>
if v7 = true then
(impl_areMessages p0.1 p1).bind fun v9 =>
some v9
else
some false
theorem impl_isSlotted_ok {p0 : Int × Bool} {p1 : List (Int × Int × Int)} {o : Bool} (h : impl_isSlotted p0 p1 = some o) : RN 41 [.agg [.int .i64 p0.1, .bool p0.2], .rows 3 (List.map e0 p1)] [] = some (.bool o, []) := by
 refine fn_run (o := o) (nr := 0) (F := k41) (st := ⟨entry 0 [.agg [.vw [] (.int .i64 p0.1), .vw [] (.bool p0.2)], .vw [] (.rows 3 (List.map e0 p1))], fun n => ([] : List T)[n]?, 0⟩) (fun (o : Bool) => (.bool o, [])) rfl fns_41 rfl rfl rfl ?_
 refine wp_seq ?_
 refine wp_reg (nx' := 32) rfl (ev_wr rfl (w_box (sv := (.agg [(.vw _ _), (.vw _ _)])) rfl rfl (absW_cons rfl rfl (absW_cons rfl rfl (absW_nil)))) (ev_v rfl rfl (ev_nil))) (seqQ_n (?_))
 refine wp_seq ?_
 refine wp_gc ?_
 obtain ⟨v7, hv7, h⟩ := bs h
 rcases its h with ⟨hc8, h⟩ | ⟨hc8, h⟩
 ·obtain ⟨v9, hv9, h⟩ := bs h
  refine wp_reg (nx' := 176) rfl (ev_den (.agg [(.vw _ _), (.vw _ _)]) rfl (d_ld_os rfl (rget_of rfl (get_nil)) rfl (cells_cons rfl (cells_cons rfl (cells_nil)))) (ev_call0 [(.agg [(.vw _ _), (.vw _ _)])] rfl (call_ok (rs := []) (rd := []) rfl rfl rfl rfl (argL_cons (argT_a (argL_cons rfl (argL_cons rfl (argL_nil)))) (argL_nil)) rfl rfl (impl_IsSlotRing_ok hv7) rfl rfl rfl rfl rfl) (ev_v rfl rfl (ev_on rfl hc8 (ev_den (.ptr 0 [] (some 0)) rfl rfl (ev_on rfl hc8 (ev_v rfl (d_ld_o rfl (rget_of rfl (get_nil)) rfl rfl) (ev_on rfl hc8 (ev_v rfl rfl (ev_on rfl hc8 (ev_call0 [(.vw _ _), (.vw _ _)] rfl (call_ok (rs := []) (rd := []) rfl rfl rfl rfl (argL_cons rfl (argL_cons rfl (argL_nil))) rfl rfl (impl_areMessages_ok hv9) rfl rfl rfl rfl rfl) (ev_v rfl (d_pick_t rfl hc8 rfl) (ev_v rfl rfl (ev_nil)))))))))))))) (gcQ_n (gc_to [] (e := [(4, .vw [] (.bool v9))]) (ts := []) (n := 0) rfl rfl rfl rfl) (seqQ_n (?_)))
  replace h := Option.some.inj h
  subst h
  exact wp_ret (qf_r ((outs_ok (vs := [(.vw _ _)]) rfl (absW_cons rfl rfl (absW_nil)) rfl rfl)))
 ·refine wp_reg (nx' := 176) rfl (ev_den (.agg [(.vw _ _), (.vw _ _)]) rfl (d_ld_os rfl (rget_of rfl (get_nil)) rfl (cells_cons rfl (cells_cons rfl (cells_nil)))) (ev_call0 [(.agg [(.vw _ _), (.vw _ _)])] rfl (call_ok (rs := []) (rd := []) rfl rfl rfl rfl (argL_cons (argT_a (argL_cons rfl (argL_cons rfl (argL_nil)))) (argL_nil)) rfl rfl (impl_IsSlotRing_ok hv7) rfl rfl rfl rfl rfl) (ev_v rfl rfl (ev_off rfl hc8 (ev_off rfl hc8 (ev_off rfl hc8 (ev_off rfl hc8 (ev_v rfl (d_pick_f rfl hc8 rfl) (ev_v rfl rfl (ev_nil)))))))))) (gcQ_n (gc_to [] (e := [(4, .vw [] (.bool false))]) (ts := []) (n := 0) rfl rfl rfl rfl) (seqQ_n (?_)))
  replace h := Option.some.inj h
  subst h
  exact wp_ret (qf_r ((outs_ok (vs := [(.vw _ _)]) rfl (absW_cons rfl rfl (absW_nil)) rfl rfl)))
/-- math/bits.Mul64 -/
noncomputable def bits_Mul64 (p0 : Int) (p1 : Int) : Option ((Int × Int)) :=
(some ((IntKind.wrap .u64 ((andK .u64 p0 (4294967295 : Int)) * (andK .u64 p1 (4294967295 : Int)))))).bind fun v5 =>
(some ((IntKind.wrap .u64 ((IntKind.wrap .u64 ((Int.fdiv p0 ((2 : Int) ^ 32)) * (andK .u64 p1 (4294967295 : Int)))) + (Int.fdiv v5 ((2 : Int) ^ 32)))))).bind fun v6 =>
(some ((IntKind.wrap .u64 ((andK .u64 v6 (4294967295 : Int)) + (IntKind.wrap .u64 ((andK .u64 p0 (4294967295 : Int)) * (Int.fdiv p1 ((2 : Int) ^ 32)))))))).bind fun v7 =>
(some ((IntKind.wrap .u64 ((IntKind.wrap .u64 ((Int.fdiv p0 ((2 : Int) ^ 32)) * (Int.fdiv p1 ((2 : Int) ^ 32)))) + (Int.fdiv v6 ((2 : Int) ^ 32)))))).bind fun v8 =>
some ((IntKind.wrap .u64 (v8 + (Int.fdiv v7 ((2 : Int) ^ 32)))), (IntKind.wrap .u64 (p0 * p1)))
theorem bits_Mul64_ok {p0 : Int} {p1 : Int} {o : (Int × Int)} (h : bits_Mul64 p0 p1 = some o) : RN 81 [.int .u64 p0, .int .u64 p1] [] = some (.tup [.int .u64 o.1, .int .u64 o.2], []) := by
 refine fn_run (o := o) (nr := 0) (F := k81) (st := ⟨entry 0 [.vw [] (.int .u64 p0), .vw [] (.int .u64 p1)], fun n => ([] : List T)[n]?, 0⟩) (fun (o : (Int × Int)) => (.tup [.int .u64 o.1, .int .u64 o.2], [])) rfl fns_81 rfl rfl rfl ?_
 refine wp_seq ?_
 refine wp_reg (nx' := 32) rfl (ev_v rfl rfl (ev_v rfl rfl (ev_nil))) (seqQ_n (?_))
 refine wp_seq ?_
 refine wp_reg (nx' := 80) rfl (ev_v rfl rfl (ev_v rfl rfl (ev_v rfl rfl (ev_nil)))) (seqQ_n (?_))
 refine wp_seq ?_
 refine wp_reg (nx' := 128) rfl (ev_v rfl rfl (ev_v rfl (d_shr (u := ()) rfl rfl rfl) (ev_v rfl rfl (ev_nil)))) (seqQ_n (?_))
 refine wp_seq ?_
 refine wp_reg (nx' := 176) rfl (ev_v rfl rfl (ev_v rfl rfl (ev_v rfl rfl (ev_nil)))) (seqQ_n (?_))
 refine wp_seq ?_
 refine wp_reg (nx' := 224) rfl (ev_v rfl rfl (ev_v rfl (d_shr (u := ()) rfl rfl rfl) (ev_v rfl rfl (ev_nil)))) (seqQ_n (?_))
 refine wp_seq ?_
 obtain ⟨v5, hv5, h⟩ := bs h
 refine wp_reg (nx' := 288) rfl (ev_v rfl rfl (ev_v rfl rfl (ev_den (.vw [] (.int .u64 v5)) rfl (d_as_i rfl (Option.some.inj hv5)) (ev_v rfl rfl (ev_nil))))) (seqQ_n (?_))
 refine wp_seq ?_
 obtain ⟨v6, hv6, h⟩ := bs h
 refine wp_reg (nx' := 400) rfl (ev_v rfl rfl (ev_v rfl rfl (ev_v rfl rfl (ev_v rfl rfl (ev_v rfl (d_shr (u := ()) rfl rfl rfl) (ev_den (.vw [] (.int .u64 v6)) rfl (d_as_i rfl (Option.some.inj hv6)) (ev_v rfl rfl (ev_nil)))))))) (seqQ_n (?_))
 refine wp_seq ?_
 refine wp_reg (nx' := 448) rfl (ev_v rfl rfl (ev_v rfl rfl (ev_v rfl rfl (ev_nil)))) (seqQ_n (?_))
 refine wp_seq ?_
 refine wp_reg (nx' := 496) rfl (ev_v rfl rfl (ev_v rfl (d_shr (u := ()) rfl rfl rfl) (ev_v rfl rfl (ev_nil)))) (seqQ_n (?_))
 refine wp_seq ?_
 obtain ⟨v7, hv7, h⟩ := bs h
 refine wp_reg (nx' := 592) rfl (ev_v rfl rfl (ev_v rfl rfl (ev_v rfl rfl (ev_v rfl rfl (ev_den (.vw [] (.int .u64 v7)) rfl (d_as_i rfl (Option.some.inj hv7)) (ev_v rfl rfl (ev_nil))))))) (seqQ_n (?_))
 refine wp_seq ?_
 obtain ⟨v8, hv8, h⟩ := bs h
 refine wp_reg (nx' := 736) rfl (ev_v rfl rfl (ev_v rfl rfl (ev_v rfl rfl (ev_v rfl rfl (ev_den (.vw [] (.int .u64 v8)) rfl (d_as_i rfl (Option.some.inj hv8)) (ev_v rfl rfl (ev_v rfl (d_shr (u := ()) rfl rfl rfl) (ev_v rfl rfl (ev_v rfl rfl (ev_nil)))))))))) (seqQ_n (?_))
 refine wp_seq ?_
 refine wp_reg (nx' := 800) rfl (ev_v rfl rfl (ev_v rfl rfl (ev_v rfl rfl (ev_v rfl rfl (ev_nil))))) (seqQ_n (?_))
 replace h := Option.some.inj h
 subst h
 exact wp_ret (qf_r ((outs_ok (vs := [(.vw _ _), (.vw _ _)]) rfl (absW_cons rfl rfl (absW_cons rfl rfl (absW_nil))) rfl rfl)))
/-- math/bits.Mul -/
noncomputable def bits_Mul (p0 : Int) (p1 : Int) : Option ((Int × Int)) :=
(bits_Mul64 p0 p1).bind fun v2 =>
some v2
theorem bits_Mul_ok {p0 : Int} {p1 : Int} {o : (Int × Int)} (h : bits_Mul p0 p1 = some o) : RN 77 [.int .u64 p0, .int .u64 p1] [] = some (.tup [.int .u64 o.1, .int .u64 o.2], []) := by
 refine fn_run (o := o) (nr := 0) (F := k77) (st := ⟨entry 0 [.vw [] (.int .u64 p0), .vw [] (.int .u64 p1)], fun n => ([] : List T)[n]?, 0⟩) (fun (o : (Int × Int)) => (.tup [.int .u64 o.1, .int .u64 o.2], [])) rfl fns_77 rfl rfl rfl ?_
 refine wp_seq ?_
 refine wp_reg (nx' := 32) rfl (ev_v rfl rfl (ev_v rfl rfl (ev_nil))) (seqQ_n (?_))
 refine wp_seq ?_
 refine wp_gc ?_
 refine wp_cf rfl rfl ?_
 refine wp_skip (gcQ_n (gc_to [] (e := [(0, .vw [] (.int .u64 p0)), (1, .vw [] (.int .u64 p1))]) (ts := []) (n := 0) rfl rfl rfl rfl) (seqQ_n (?_)))
 refine wp_seq ?_
 obtain ⟨v2, hv2, h⟩ := bs h
 refine wp_reg (nx' := 128) rfl (ev_v rfl rfl (ev_v rfl rfl (ev_call0 [(.vw _ _), (.vw _ _)] rfl (call_ok (rs := []) (rd := []) rfl rfl rfl rfl (argL_cons rfl (argL_cons rfl (argL_nil))) rfl rfl (bits_Mul64_ok hv2) rfl rfl rfl (bindR_t (bindL_cons rfl (bindL_cons rfl (bindL_nil)))) rfl) (ev_den (.tup [(.vw _ _), (.vw _ _)]) rfl rfl (ev_v rfl rfl (ev_v rfl rfl (ev_v rfl rfl (ev_v rfl rfl (ev_nil))))))))) (seqQ_n (?_))
 refine wp_seq ?_
 refine wp_reg (nx' := 192) rfl (ev_v rfl rfl (ev_v rfl rfl (ev_v rfl rfl (ev_v rfl rfl (ev_nil))))) (seqQ_n (?_))
 replace h := Option.some.inj h
 subst h
 exact wp_ret (qf_r ((outs_ok (vs := [(.vw _ _), (.vw _ _)]) rfl (absW_cons rfl rfl (absW_cons rfl rfl (absW_nil))) rfl rfl)))
noncomputable def slices_Repeat_s2 : ((List Int) × Int) → Option (((List Int) × Int) ⊕ ((List Int))) := fun (x64, x65) =>
if (decide (x65 < (List.length x64 : Int))) = true then
(sub? x64 x65 ((List.length x64 : Int))).bind fun v84 =>
(sub? x64 ((0 : Int)) x65).bind fun v85 =>
(some ((w64 (x65 + ((min (List.length v85) (Int.toNat ((List.length x64 : Int)) - Int.toNat x65) : Nat) : Int))))).bind fun v86 =>
some (.inl ((spl x64 (Int.toNat x65) (List.take (Int.toNat ((List.length x64 : Int)) - Int.toNat x65) v85)), v86))
else
some (.inr x64)
noncomputable def slices_Repeat_l2 : ((List Int) × Int) → Option ((List Int)) := iter (slices_Repeat_s2)
noncomputable def slices_Repeat_j1 (p0 : List Int) (v23 : (Int × Int)) : Bool → Option ((List Int)) := fun x28 =>
if x28 = true then
none
else
(mk? ((w64 (v23.2))) ((w64 (v23.2)))).bind fun u30 =>
(slices_Repeat_l2 ((spl ((List.replicate (Int.toNat ((w64 (v23.2)))) (0 : Int))) 0 (List.take (List.length ((List.replicate (Int.toNat ((w64 (v23.2)))) (0 : Int)))) p0)), ((min (List.length p0) (List.length ((List.replicate (Int.toNat ((w64 (v23.2)))) (0 : Int)))) : Nat) : Int))).bind fun x72 =>
some x72
/-- slices.Repeat[[]int,int] -/
noncomputable def slices_Repeat (p0 : List Int) (p1 : Int) : Option ((List Int)) :=
if (decide (p1 < (0 : Int))) = true then
none
else
(bits_Mul ((IntKind.wrap .u64 ((List.length p0 : Int)))) ((IntKind.wrap .u64 (p1)))).bind fun v23 =>
if (decide (v23.1 > (0 : Int))) = true then
slices_Repeat_j1 p0 v23 true
else
slices_Repeat_j1 p0 v23 (decide (v23.2 > (9223372036854775807 : Int)))
theorem slices_Repeat_ok {p0 : List Int} {p1 : Int} {o : (List Int)} (h : slices_Repeat p0 p1 = some o) : RN 69 [.ints .i64 p0, .int .i64 p1] [] = some (.ints .i64 o, []) := by
 refine fn_run (o := o) (nr := 0) (F := k69) (st := ⟨entry 0 [.vw [] (.ints .i64 p0), .vw [] (.int .i64 p1)], fun n => ([] : List T)[n]?, 0⟩) (fun (o : (List Int)) => (.ints .i64 o, [])) rfl fns_69 rfl rfl rfl ?_
 refine wp_seq ?_
 refine wp_reg (nx' := 16) rfl (ev_new (.ref 0 [] 1 0 0) (.ints .i64 []) rfl rfl (ev_nil)) (seqQ_n (?_))
 refine wp_seq ?_
 refine wp_gc ?_
 refine wp_seq ?_
 refine wp_reg (nx' := 48) rfl (ev_v rfl rfl (ev_v rfl rfl (ev_nil))) (seqQ_n (?_))
 rcases its h with ⟨hc22, h⟩ | ⟨hc22, h⟩
 ·refine wp_ct rfl hc22 ?_
  cases h
 ·refine wp_cf rfl hc22 ?_
  refine wp_skip (gcQ_n (gc_to [] (e := [(0, .vw [] (.ints .i64 p0)), (1, .vw [] (.int .i64 p1))]) (ts := []) (n := 0) rfl rfl rfl rfl) (seqQ_n (?_)))
  refine wp_seq ?_
  obtain ⟨v23, hv23, h⟩ := bs h
  refine wp_reg (nx' := 176) rfl (ev_v rfl rfl (ev_v rfl rfl (ev_v rfl rfl (ev_v rfl rfl (ev_v rfl rfl (ev_call0 [(.vw _ _), (.vw _ _)] rfl (call_ok (rs := []) (rd := []) rfl rfl rfl rfl (argL_cons rfl (argL_cons rfl (argL_nil))) rfl rfl (bits_Mul_ok hv23) rfl rfl rfl (bindR_t (bindL_cons rfl (bindL_cons rfl (bindL_nil)))) rfl) (ev_den (.tup [(.vw _ _), (.vw _ _)]) rfl rfl (ev_v rfl rfl (ev_v rfl rfl (ev_v rfl rfl (ev_v rfl rfl (ev_nil)))))))))))) (seqQ_n (?_))
  refine wp_seq ?_
  refine wp_gc ?_
  refine wp_seq ?_
  refine wp_join (slices_Repeat_j1 p0 v23) (fun (x28 : Bool) => (⟨al .dead [(0, .vw [] (.ints .i64 p0)), (6, .vw [] (.int .u64 v23.2)), (26, .vw [] (.bool x28))], hl [], 0⟩ : St)) ?_ ?_
  ·rintro x28 o h
   unfold slices_Repeat_j1 at h
   refine seqQ_n (?_)
   rcases its h with ⟨hc29, h⟩ | ⟨hc29, h⟩
   ·refine wp_ct rfl hc29 ?_
    cases h
   ·refine wp_cf rfl hc29 ?_
    refine wp_skip (gcQ_n (gc_to [] (e := [(0, .vw [] (.ints .i64 p0)), (6, .vw [] (.int .u64 v23.2))]) (ts := []) (n := 0) rfl rfl rfl rfl) (seqQ_n (?_)))
    refine wp_seq ?_
    obtain ⟨u30, hu30, h⟩ := bs h
    refine wp_reg (nx' := 64) rfl (ev_v rfl rfl (ev_v rfl rfl (ev_new (.ref 32 [] 1 0 (List.length ((List.replicate (Int.toNat ((w64 (v23.2)))) (0 : Int))))) (.ints .i64 ((List.replicate (Int.toNat ((w64 (v23.2)))) (0 : Int)))) rfl (d_mks_i rfl rfl hu30) (ev_den (.ref 32 _ _ _ _) rfl rfl (ev_nil))))) (seqQ_n (?_))
    refine wp_seq ?_
    refine wp_gc ?_
    refine wp_reg (nx' := 128) rfl (ev_den (.ref 32 _ _ _ _) rfl rfl (ev_v rfl rfl (ev_wr rfl (w_cpy rfl rfl rfl le_whole) (ev_relen (b := (List.length ((spl ((List.replicate (Int.toNat ((w64 (v23.2)))) (0 : Int))) 0 (List.take (List.length ((List.replicate (Int.toNat ((w64 (v23.2)))) (0 : Int)))) p0))))) 7 rfl (spl_len le_whole) (ev_relen (b := (List.length ((spl ((List.replicate (Int.toNat ((w64 (v23.2)))) (0 : Int))) 0 (List.take (List.length ((List.replicate (Int.toNat ((w64 (v23.2)))) (0 : Int)))) p0))))) 30 rfl (spl_len le_whole) (ev_relen (b := (List.length ((spl ((List.replicate (Int.toNat ((w64 (v23.2)))) (0 : Int))) 0 (List.take (List.length ((List.replicate (Int.toNat ((w64 (v23.2)))) (0 : Int)))) p0))))) 31 rfl (spl_len le_whole) (ev_v rfl rfl (ev_nil)))))))) (gcQ_n (gc_to [32] (e := [(7, .ref 0 [] 1 0 (List.length ((spl ((List.replicate (Int.toNat ((w64 (v23.2)))) (0 : Int))) 0 (List.take (List.length ((List.replicate (Int.toNat ((w64 (v23.2)))) (0 : Int)))) p0))))), (8, .vw [] (.int .i64 (((min (List.length p0) (List.length ((List.replicate (Int.toNat ((w64 (v23.2)))) (0 : Int)))) : Nat) : Int))))]) (ts := [some (.ints .i64 ((spl ((List.replicate (Int.toNat ((w64 (v23.2)))) (0 : Int))) 0 (List.take (List.length ((List.replicate (Int.toNat ((w64 (v23.2)))) (0 : Int)))) p0))))]) (n := 1) rfl rfl rfl rfl) (seqQ_n (?_)))
    refine wp_seq ?_
    refine wp_gc ?_
    refine wp_gc ?_
    refine wp_blk ?_
    obtain ⟨x72, hw90, h⟩ := bs h
    refine wp_mono (wp_loop (fun ((x64, x65) : (List Int) × Int) => (⟨al .dead [(7, .ref 0 [] 1 0 (List.length x64)), (8, .vw [] (.int .i64 x65))], hl [some (.ints .i64 x64)], 1⟩ : St)) (fun (x72 : (List Int)) e st => e = .exit 0 ∧ gc 0 [7] st = ⟨al .dead [(7, .ref 0 [] 1 0 (List.length x72))], hl [some (.ints .i64 x72)], 1⟩) hw90 ?_) ?_
    ·rintro ⟨x64, x65⟩ o h
     refine wp_gc ?_
     refine wp_seq ?_
     refine wp_gc ?_
     refine wp_seq ?_
     refine wp_reg (nx' := 65) rfl (ev_v rfl rfl (ev_den (.ref 0 _ _ _ _) rfl rfl (ev_v rfl rfl (ev_v rfl rfl (ev_nil))))) (seqQ_n (?_))
     rcases its h with ⟨hc80, h⟩ | ⟨hc80, h⟩
     ·refine wp_ct rfl hc80 ?_
      refine wp_skip (gcQ_n (gc_to [0] (e := [(7, .ref 0 [] 1 0 (List.length x64)), (8, .vw [] (.int .i64 x65))]) (ts := [some (.ints .i64 x64)]) (n := 1) rfl rfl rfl rfl) (seqQ_n (?_)))
      refine wp_gc ?_
      refine wp_blk ?_
      obtain ⟨v84, hv84, h⟩ := bs h
      obtain ⟨v85, hv85, h⟩ := bs h
      obtain ⟨v86, hv86, h⟩ := bs h
      replace h := Option.some.inj h
      subst h
      exact wp_reg (nx' := 161) rfl (ev_v rfl rfl (ev_den (.ref 0 _ _ _ _) rfl rfl (ev_v rfl rfl (ev_den (.ref 0 [] 1 (Int.toNat x65) (Int.toNat ((List.length x64 : Int)) - Int.toNat x65)) rfl (d_slc_r rfl hv84 (si_some rfl) (fun _ => si_none_len)) (ev_den (.ref 0 _ _ _ _) rfl rfl (ev_v rfl rfl (ev_den (.ref 0 [] 1 (Int.toNat ((0 : Int))) (Int.toNat x65 - Int.toNat ((0 : Int)))) rfl (d_slc_r rfl hv85 (fun _ => rfl) (si_some rfl)) (ev_wr rfl (w_cpy rfl (rs_ref (rget_of rfl (get_nil)) (sub_pi hv85)) rfl (le_part hv84)) (ev_relen (b := (List.length ((spl x64 (Int.toNat x65) (List.take (Int.toNat ((List.length x64 : Int)) - Int.toNat x65) v85))))) 7 rfl (spl_len (le_part hv84)) (ev_relen (b := (List.length ((spl x64 (Int.toNat x65) (List.take (Int.toNat ((List.length x64 : Int)) - Int.toNat x65) v85))))) 39 rfl (spl_len (le_part hv84)) (ev_relen (b := (List.length ((spl x64 (Int.toNat x65) (List.take (Int.toNat ((List.length x64 : Int)) - Int.toNat x65) v85))))) 42 rfl (spl_len (le_part hv84)) (ev_den (.vw [] (.int .i64 v86)) rfl (d_as_i rfl (Option.some.inj hv86)) (ev_v rfl rfl (ev_nil)))))))))))))) (blkQ_n (gcQ_n (gc_to [0] (e := [(7, .ref 0 [] 1 0 (List.length ((spl x64 (Int.toNat x65) (List.take (Int.toNat ((List.length x64 : Int)) - Int.toNat x65) v85))))), (8, .vw [] (.int .i64 v86))]) (ts := [some (.ints .i64 ((spl x64 (Int.toNat x65) (List.take (Int.toNat ((List.length x64 : Int)) - Int.toNat x65) v85))))]) (n := 1) rfl rfl rfl rfl) (gcQ_n (gc_to [0] (e := [(7, .ref 0 [] 1 0 (List.length ((spl x64 (Int.toNat x65) (List.take (Int.toNat ((List.length x64 : Int)) - Int.toNat x65) v85))))), (8, .vw [] (.int .i64 v86))]) (ts := [some (.ints .i64 ((spl x64 (Int.toNat x65) (List.take (Int.toNat ((List.length x64 : Int)) - Int.toNat x65) v85))))]) (n := 1) rfl rfl rfl rfl) (loopQ_n rfl))))
     ·refine wp_cf rfl hc80 ?_
      replace h := Option.some.inj h
      subst h
      exact wp_exit (gcQ_e (seqQ_e (gcQ_e (loopQ_e (And.intro rfl (gc_to [0] (e := [(7, .ref 0 [] 1 0 (List.length x64))]) (ts := [some (.ints .i64 x64)]) (n := 1) rfl rfl rfl rfl))))))
    ·intro e st90 hg90
     obtain ⟨rfl, hg90⟩ := hg90
     refine blkQ_h (gcQ_n hg90 (gcQ_n (gc_to [0] (e := [(7, .ref 0 [] 1 0 (List.length x72))]) (ts := [some (.ints .i64 x72)]) (n := 1) rfl rfl rfl rfl) (seqQ_n (?_))))
     refine wp_seq ?_
     refine wp_reg (nx' := 33) rfl (ev_den (.ref 0 _ _ _ _) rfl rfl (ev_den (.ref 0 _ _ _ _) rfl rfl (ev_nil))) (seqQ_n (?_))
     replace h := Option.some.inj h
     subst h
     exact wp_ret (qf_r ((outs_ok (vs := [(.ref 0 _ _ _ _)]) rfl (absW_cons (retT_ref (abs_ref rfl sub_i)) rfl (absW_nil)) rfl rfl)))
  ·rcases its h with ⟨hc91, h⟩ | ⟨hc91, h⟩
   ·exact wp_reg (nx' := 272) rfl (ev_v rfl rfl (ev_v rfl rfl (ev_v rfl rfl (ev_off rfl hc91 (ev_off rfl hc91 (ev_v rfl (d_pick_t rfl hc91 rfl) (ev_nil))))))) (joinQ_n true h (gc_to [] rfl rfl rfl rfl))
   ·exact wp_reg (nx' := 272) rfl (ev_v rfl rfl (ev_v rfl rfl (ev_v rfl rfl (ev_on rfl hc91 (ev_v rfl rfl (ev_on rfl hc91 (ev_v rfl rfl (ev_v rfl (d_pick_f rfl hc91 rfl) (ev_nil))))))))) (joinQ_n (decide (v23.2 > (9223372036854775807 : Int))) h (gc_to [] rfl rfl rfl rfl))
/-- slices.Clone[[]int,int] -/
noncomputable def slices_Clone (p0 : List Int) : Option ((List Int)) :=
(app? (([] : List Int)) p0).bind fun v2 =>
some v2
theorem slices_Clone_ok {p0 : List Int} {o : (List Int)} (h : slices_Clone p0 = some o) : RN 70 [.ints .i64 p0] [] = some (.ints .i64 o, []) := by
 refine fn_runq (o := o) (nr := 0) (F := k70) (st := ⟨entry 0 [.vw [] (.ints .i64 p0)], fun n => ([] : List T)[n]?, 0⟩) (fun (o : (List Int)) => (.ints .i64 o, [])) rfl fns_70 rfl rfl rfl rfl ?_ ?_
 ·refine wp_seq ?_
  refine wp_reg (nx' := 16) rfl (ev_new (.ref 0 [] 1 0 0) (.ints .i64 []) rfl rfl (ev_nil)) (seqQ_n (?_))
  refine wp_seq ?_
  refine wp_seq ?_
  refine wp_reg (nx' := 48) rfl (ev_v rfl rfl (ev_v rfl rfl (ev_nil))) (seqQ_n (?_))
  refine wp_cf rfl rfl ?_
  refine wp_skip (seqQ_n (?_))
  refine wp_seq ?_
  obtain ⟨v2, hv2, h⟩ := bs h
  refine wp_reg (nx' := 112) rfl (ev_new (.ref 48 [] 1 0 0) (.ints .i64 (([] : List Int))) rfl rfl (ev_v rfl rfl (ev_wr rfl (w_app_i (xv := (.ref 48 _ _ _ _)) 48 rfl rfl (abs_ref rfl (sub_i (xs := ([] : List Int)))) hv2 rfl) (ev_den (.ref 48 _ _ _ _) rfl rfl (ev_nil))))) (seqQ_n (?_))
  replace h := Option.some.inj h
  subst h
  exact wp_ret (qf_r ((outs_ok (vs := [(.ref 48 _ _ _ _)]) rfl (absW_cons (retT_ref (abs_ref rfl sub_i)) rfl (absW_nil)) rfl rfl)))
 ·intro hv
  obtain rfl : p0 = [] := by cases p0 with | nil => rfl | cons _ _ => simp [T.void] at hv
  replace h : (some [] : Option ((List Int))) = some o := by simpa [slices_Clone, app?] using h
  refine wp_seq ?_
  refine wp_reg (nx' := 16) rfl (ev_new (.ref 0 [] 1 0 0) (.ints .i64 []) rfl rfl (ev_nil)) (seqQ_n (?_))
  refine wp_seq ?_
  refine wp_seq ?_
  refine wp_reg (nx' := 48) rfl (ev_v rfl rfl (ev_v rfl rfl (ev_nil))) (seqQ_n (?_))
  refine wp_ct rfl rfl ?_
  refine wp_seq ?_
  refine wp_reg (nx' := 64) rfl (ev_new (.ref 48 [] 1 0 0) (.ints .i64 []) rfl rfl (ev_nil)) (seqQ_n (?_))
  replace h := Option.some.inj h
  subst h
  exact wp_ret (seqQ_r (qf_r ((outs_ok (vs := [(.ref 48 _ _ _ _)]) rfl (absW_cons (retT_ref (abs_ref rfl sub_i)) rfl (absW_nil)) rfl rfl))))
/-- loop.example/g01176/impl.newSlotter -/
noncomputable def impl_newSlotter (p0 : Int × Bool) (p1 : List (Int × Int × Int)) : Option ((Int × Bool × (List (Int × Int × Int)) × Int × (List Int) × (List Int) × (List Int))) :=
(slices_Repeat (([(-1 : Int)] : List Int)) ((List.length p1 : Int))).bind fun v4 =>
(mk? p0.1 p0.1).bind fun u5 =>
(slices_Clone v4).bind fun v6 =>
some (p0.1, p0.2, p1, (0 : Int), (List.replicate (Int.toNat p0.1) (0 : Int)), v4, v6)
theorem impl_newSlotter_ok {p0 : Int × Bool} {p1 : List (Int × Int × Int)} {o : (Int × Bool × (List (Int × Int × Int)) × Int × (List Int) × (List Int) × (List Int))} (h : impl_newSlotter p0 p1 = some o) : RN 43 [.agg [.int .i64 p0.1, .bool p0.2], .rows 3 (List.map e0 p1)] [] = some (.ptr (.agg [.int .i64 o.1, .bool o.2.1, .sh (.rows 3 (List.map e0 o.2.2.1)), .int .i64 o.2.2.2.1, .ints .i64 o.2.2.2.2.1, .ints .i64 o.2.2.2.2.2.1, .ints .i64 o.2.2.2.2.2.2]), []) := by
 refine fn_run (o := o) (nr := 0) (F := k43) (st := ⟨entry 0 [.agg [.vw [] (.int .i64 p0.1), .vw [] (.bool p0.2)], .vw [] (.rows 3 (List.map e0 p1))], fun n => ([] : List T)[n]?, 0⟩) (fun (o : (Int × Bool × (List (Int × Int × Int)) × Int × (List Int) × (List Int) × (List Int))) => (.ptr (.agg [.int .i64 o.1, .bool o.2.1, .sh (.rows 3 (List.map e0 o.2.2.1)), .int .i64 o.2.2.2.1, .ints .i64 o.2.2.2.2.1, .ints .i64 o.2.2.2.2.2.1, .ints .i64 o.2.2.2.2.2.2]), [])) rfl fns_43 rfl rfl rfl ?_
 refine wp_seq ?_
 refine wp_reg (nx' := 32) rfl (ev_wr rfl (w_box (sv := (.agg [(.vw _ _), (.vw _ _)])) rfl rfl (absW_cons rfl rfl (absW_cons rfl rfl (absW_nil)))) (ev_den (.nilS _) rfl rfl (ev_nil))) (seqQ_n (?_))
 refine wp_seq ?_
 obtain ⟨v4, hv4, h⟩ := bs h
 refine wp_reg (nx' := 112) rfl (ev_v rfl rfl (ev_v rfl rfl (ev_v rfl (d_len_vr (e := e0) rfl) (ev_call0 [(.vw _ _), (.vw _ _)] rfl (call_ok (rs := []) (rd := []) rfl rfl rfl rfl (argL_cons rfl (argL_cons rfl (argL_nil))) rfl rfl (slices_Repeat_ok hv4) rfl rfl rfl rfl rfl) (ev_den (.ref 80 _ _ _ _) rfl rfl (ev_nil)))))) (seqQ_n (?_))
 refine wp_seq ?_
 obtain ⟨u5, hu5, h⟩ := bs h
 obtain ⟨v6, hv6, h⟩ := bs h
 refine wp_reg (nx' := 288) rfl (ev_den (.agg [(.vw _ _), (.vw _ _)]) rfl (d_ld_os rfl (rget_of rfl (get_nil)) rfl (cells_cons rfl (cells_cons rfl (cells_nil)))) (ev_v rfl rfl (ev_den (.ptr 0 [] (some 0)) rfl rfl (ev_v rfl (d_ld_o rfl (rget_of rfl (get_nil)) rfl rfl) (ev_new (.ref 176 [] 1 0 (List.length ((List.replicate (Int.toNat p0.1) (0 : Int))))) (.ints .i64 ((List.replicate (Int.toNat p0.1) (0 : Int)))) rfl (d_mks_i rfl rfl hu5) (ev_den (.ref 80 _ _ _ _) rfl rfl (ev_den (.ref 80 _ _ _ _) rfl rfl (ev_call0 [(.ref 80 _ _ _ _)] rfl (call_ok (rs := []) (rd := [80]) rfl rfl rfl rfl (argL_cons (argT_r (rget_of rfl (get_nil)) sub_i) (argL_nil)) rfl rfl (slices_Clone_ok hv6) rfl rfl (by simp [T.open_, T.noSh, noShL, ns_ints, ns_bool, ns_str, ns_e0]) rfl rfl) (ev_den (.agg [(.vw _ _), (.vw _ _), (.vw _ _), (.vw _ _), (.ref 176 _ _ _ _), (.ref 80 _ _ _ _), (.ref 224 _ _ _ _)]) rfl rfl (ev_wr rfl (w_box (sv := (.agg [(.vw _ _), (.vw _ _), (.vw _ _), (.vw _ _), (.ref 176 _ _ _ _), (.ref 80 _ _ _ _), (.ref 224 _ _ _ _)])) rfl rfl (absW_cons rfl rfl (absW_cons rfl rfl (absW_cons rfl rfl (absW_cons rfl rfl (absW_cons (abs_ref rfl sub_i) rfl (absW_cons (abs_ref rfl sub_i) rfl (absW_cons (abs_ref rfl sub_i) rfl (absW_nil))))))))) (ev_den (.ptr 256 [] (some 0)) rfl rfl (ev_nil)))))))))))) (seqQ_n (?_))
 replace h := Option.some.inj h
 subst h
 exact wp_ret (qf_r ((outs_ok (vs := [(.ptr 256 [] (some 0))]) rfl (absW_cons rfl rfl (absW_nil)) rfl rfl)))
end Go.Proofs.Yteeejellpcikkaa.Ev.G5
