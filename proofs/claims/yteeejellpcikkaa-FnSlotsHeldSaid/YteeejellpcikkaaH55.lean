/- What functions of the program come to, as plain functions; no condition. -/
import Derived.Test.YteeejellpcikkaaH54
set_option linter.unusedVariables false
set_option linter.unusedSimpArgs false
set_option maxRecDepth 100000
set_option maxHeartbeats 4000000
set_option linter.unusedVariables false
namespace Go.Proofs.Yteeejellpcikkaa.Ev.H5
open Go
noncomputable def impl_slotted_s1 : (Int × Bool × (List (Int × Int × Int)) × Int × (List Int) × (List Int) × (List Int)) → Option ((Int × Bool × (List (Int × Int × Int)) × Int × (List Int) × (List Int) × (List Int)) ⊕ (Int × Bool × (List (Int × Int × Int)) × Int × (List Int) × (List Int) × (List Int))) := fun (x88, x89, x90, x91, x92, x93, x94) =>
(slices_Contains x94 ((-1 : Int))).bind fun v124 =>
if v124 = true then
(impl_slotter_step ((x88, x89, x90, x91, x92, x93, x94))).bind fun v127 =>
some (.inl (v127.1, v127.2.1, v127.2.2.1, v127.2.2.2.1, v127.2.2.2.2.1, v127.2.2.2.2.2.1, v127.2.2.2.2.2.2))
else
some (.inr (x88, x89, x90, x91, x92, x93, x94))
noncomputable def impl_slotted_l1 : (Int × Bool × (List (Int × Int × Int)) × Int × (List Int) × (List Int) × (List Int)) → Option (Int × Bool × (List (Int × Int × Int)) × Int × (List Int) × (List Int) × (List Int)) := iter (impl_slotted_s1)
/-- loop.example/g01176/impl.slotted -/
noncomputable def impl_slotted (p0 : Int × Bool) (p1 : List (Int × Int × Int)) : Option (((List Int) × (List Int))) :=
(impl_newSlotter p0 p1).bind fun v30 =>
(impl_slotted_l1 (v30.1, v30.2.1, v30.2.2.1, v30.2.2.2.1, v30.2.2.2.2.1, v30.2.2.2.2.2.1, v30.2.2.2.2.2.2)).bind fun (x105, x106, x107, x108, x109, x110, x111) =>
some (x110, x111)
theorem impl_slotted_ok {p0 : Int × Bool} {p1 : List (Int × Int × Int)} {o : ((List Int) × (List Int))} (h : impl_slotted p0 p1 = some o) : RN 48 [.agg [.int .i64 p0.1, .bool p0.2], .rows 3 (List.map e0 p1)] [] = some (.tup [.ints .i64 o.1, .ints .i64 o.2], []) := by
 refine fn_run (o := o) (nr := 0) (F := k48) (st := ⟨entry 0 [.agg [.vw [] (.int .i64 p0.1), .vw [] (.bool p0.2)], .vw [] (.rows 3 (List.map e0 p1))], fun n => ([] : List T)[n]?, 0⟩) (fun (o : ((List Int) × (List Int))) => (.tup [.ints .i64 o.1, .ints .i64 o.2], [])) rfl fns_48 rfl rfl rfl ?_
 refine wp_seq ?_
 refine wp_reg (nx' := 48) rfl (ev_wr rfl (w_box (sv := (.agg [(.vw _ _), (.vw _ _)])) rfl rfl (absW_cons rfl rfl (absW_cons rfl rfl (absW_nil)))) (ev_new (.ref 16 [] 1 0 0) (.ints .i64 []) rfl rfl (ev_new (.ref 32 [] 1 0 0) (.ints .i64 []) rfl rfl (ev_nil)))) (seqQ_n (?_))
 refine wp_seq ?_
 refine wp_gc ?_
 obtain ⟨v30, hv30, h⟩ := bs h
 refine wp_reg (nx' := 112) rfl (ev_den (.agg [(.vw _ _), (.vw _ _)]) rfl (d_ld_os rfl (rget_of rfl (get_nil)) rfl (cells_cons rfl (cells_cons rfl (cells_nil)))) (ev_v rfl rfl (ev_call0 [(.agg [(.vw _ _), (.vw _ _)]), (.vw _ _)] rfl (call_ok (rs := []) (rd := []) rfl rfl rfl rfl (argL_cons (argT_a (argL_cons rfl (argL_cons rfl (argL_nil)))) (argL_cons rfl (argL_nil))) rfl rfl (impl_newSlotter_ok hv30) rfl rfl rfl rfl rfl) (ev_den (.ptr 80 [] (some 0)) rfl rfl (ev_nil))))) (gcQ_n (gc_to [80] (e := [(6, .ptr 0 [] (some 0))]) (ts := [some (.ptr (.agg [.int .i64 v30.1, .bool v30.2.1, .sh (.rows 3 (List.map e0 v30.2.2.1)), .int .i64 v30.2.2.2.1, .ints .i64 v30.2.2.2.2.1, .ints .i64 v30.2.2.2.2.2.1, .ints .i64 v30.2.2.2.2.2.2]))]) (n := 1) rfl rfl rfl rfl) (seqQ_n (?_)))
 refine wp_seq ?_
 refine wp_gc ?_
 refine wp_gc ?_
 refine wp_blk ?_
 obtain ⟨w142, hw142, h⟩ := bs h
 refine wp_mono (wp_loop (fun ((x88, x89, x90, x91, x92, x93, x94) : Int × Bool × (List (Int × Int × Int)) × Int × (List Int) × (List Int) × (List Int)) => (⟨al .dead [(6, .ptr 0 [] (some 0))], hl [some (.ptr (.agg [.int .i64 x88, .bool x89, .sh (.rows 3 (List.map e0 x90)), .int .i64 x91, .ints .i64 x92, .ints .i64 x93, .ints .i64 x94]))], 1⟩ : St)) (fun ((x105, x106, x107, x108, x109, x110, x111) : Int × Bool × (List (Int × Int × Int)) × Int × (List Int) × (List Int) × (List Int)) e st => e = .exit 0 ∧ gc 0 [6] st = ⟨al .dead [(6, .ptr 0 [] (some 0))], hl [some (.ptr (.agg [.int .i64 x105, .bool x106, .sh (.rows 3 (List.map e0 x107)), .int .i64 x108, .ints .i64 x109, .ints .i64 x110, .ints .i64 x111]))], 1⟩) hw142 ?_) ?_
 ·rintro ⟨x88, x89, x90, x91, x92, x93, x94⟩ o h
  refine wp_gc ?_
  refine wp_seq ?_
  refine wp_gc ?_
  refine wp_seq ?_
  obtain ⟨v124, hv124, h⟩ := bs h
  refine wp_reg (nx' := 81) rfl (ev_den (.ptr 0 [] (some 0)) rfl rfl (ev_den (.ptr 0 [] (some 0)) rfl rfl (ev_den (.ptr 0 [] (some 6)) rfl rfl (ev_den (.ref 0 [.f 6] _ _ _) rfl (d_ld_o rfl (rget_of rfl (get_nil)) rfl rfl) (ev_call0 [(.ref 0 [.f 6] _ _ _), (.vw _ _)] rfl (call_ok (rs := []) (rd := [0]) rfl rfl rfl rfl (argL_cons (argT_r (rget_of rfl (get_f rfl (get_nil))) sub_i) (argL_cons rfl (argL_nil))) rfl rfl (slices_Contains_ok hv124) rfl rfl rfl rfl rfl) (ev_nil)))))) (seqQ_n (?_))
  rcases its h with ⟨hc125, h⟩ | ⟨hc125, h⟩
  ·refine wp_ct rfl hc125 ?_
   refine wp_skip (gcQ_n (gc_to [0] (e := [(6, .ptr 0 [] (some 0))]) (ts := [some (.ptr (.agg [.int .i64 x88, .bool x89, .sh (.rows 3 (List.map e0 x90)), .int .i64 x91, .ints .i64 x92, .ints .i64 x93, .ints .i64 x94]))]) (n := 1) rfl rfl rfl rfl) (seqQ_n (?_)))
   refine wp_gc ?_
   refine wp_blk ?_
   obtain ⟨v127, hv127, h⟩ := bs h
   replace h := Option.some.inj h
   subst h
   exact wp_reg (nx' := 33) rfl (ev_den (.ptr 0 [] (some 0)) rfl rfl (ev_call1 [(.ptr 0 [] (some 0))] rfl (call_ok (rs := [0]) (rd := []) rfl rfl rfl rfl (argL_cons rfl (argL_nil)) rfl rfl (impl_slotter_step_ok hv127) rfl rfl rfl (bindR_t (bindL_nil)) rfl) (ev_nil))) (blkQ_n (gcQ_n (gc_to [0] (e := [(6, .ptr 0 [] (some 0))]) (ts := [some (.ptr (.agg [.int .i64 v127.1, .bool v127.2.1, .sh (.rows 3 (List.map e0 v127.2.2.1)), .int .i64 v127.2.2.2.1, .ints .i64 v127.2.2.2.2.1, .ints .i64 v127.2.2.2.2.2.1, .ints .i64 v127.2.2.2.2.2.2]))]) (n := 1) rfl rfl rfl rfl) (gcQ_n (gc_to [0] (e := [(6, .ptr 0 [] (some 0))]) (ts := [some (.ptr (.agg [.int .i64 v127.1, .bool v127.2.1, .sh (.rows 3 (List.map e0 v127.2.2.1)), .int .i64 v127.2.2.2.1, .ints .i64 v127.2.2.2.2.1, .ints .i64 v127.2.2.2.2.2.1, .ints .i64 v127.2.2.2.2.2.2]))]) (n := 1) rfl rfl rfl rfl) (loopQ_n rfl))))
  ·refine wp_cf rfl hc125 ?_
   replace h := Option.some.inj h
   subst h
   exact wp_exit (gcQ_e (seqQ_e (gcQ_e (loopQ_e (And.intro rfl (gc_to [0] (e := [(6, .ptr 0 [] (some 0))]) (ts := [some (.ptr (.agg [.int .i64 x88, .bool x89, .sh (.rows 3 (List.map e0 x90)), .int .i64 x91, .ints .i64 x92, .ints .i64 x93, .ints .i64 x94]))]) (n := 1) rfl rfl rfl rfl))))))
 ·intro e st142 hg142
  obtain ⟨x105, x106, x107, x108, x109, x110, x111⟩ := w142
  obtain ⟨rfl, hg142⟩ := hg142
  refine blkQ_h (gcQ_n hg142 (gcQ_n (gc_to [0] (e := [(6, .ptr 0 [] (some 0))]) (ts := [some (.ptr (.agg [.int .i64 x105, .bool x106, .sh (.rows 3 (List.map e0 x107)), .int .i64 x108, .ints .i64 x109, .ints .i64 x110, .ints .i64 x111]))]) (n := 1) rfl rfl rfl rfl) (seqQ_n (?_))))
  refine wp_seq ?_
  refine wp_reg (nx' := 161) rfl (ev_den (.ptr 0 [] (some 0)) rfl rfl (ev_den (.ptr 0 [] (some 0)) rfl rfl (ev_den (.ptr 0 [] (some 5)) rfl rfl (ev_den (.ref 0 [.f 5] _ _ _) rfl (d_ld_o rfl (rget_of rfl (get_nil)) rfl rfl) (ev_den (.ptr 0 [] (some 0)) rfl rfl (ev_den (.ptr 0 [] (some 0)) rfl rfl (ev_den (.ptr 0 [] (some 6)) rfl rfl (ev_den (.ref 0 [.f 6] _ _ _) rfl (d_ld_o rfl (rget_of rfl (get_nil)) rfl rfl) (ev_den (.ref 0 [.f 5] _ _ _) rfl rfl (ev_den (.ref 0 [.f 6] _ _ _) rfl rfl (ev_nil))))))))))) (seqQ_n (?_))
  replace h := Option.some.inj h
  subst h
  exact wp_ret (qf_r ((outs_ok (vs := [(.ref 0 [.f 5] _ _ _), (.ref 0 [.f 6] _ _ _)]) rfl (absW_cons (retT_ref (abs_refp (r := .ptr (.agg [.int .i64 x105, .bool x106, .sh (.rows 3 (List.map e0 x107)), .int .i64 x108, .ints .i64 x109, .ints .i64 x110, .ints .i64 x111])) rfl (get_f rfl (get_nil)) sub_i (rput_p (put_f rfl (put_nil))))) rfl (absW_cons (retT_ref (abs_refp (r := .ptr (.agg [.int .i64 x105, .bool x106, .sh (.rows 3 (List.map e0 x107)), .int .i64 x108, .ints .i64 x109, .dead, .ints .i64 x111])) rfl (get_f rfl (get_nil)) sub_i (rput_p (put_f rfl (put_nil))))) rfl (absW_nil))) rfl rfl)))
/-- loop.example/g01176/impl.FilledAt -/
noncomputable def impl_FilledAt (p0 : Int × Bool) (p1 : List (Int × Int × Int)) : Option (((List Int) × Bool)) :=
(impl_isSlotted p0 p1).bind fun v6 =>
if (!v6) = true then
some ([], false)
else
(impl_slotted p0 p1).bind fun v8 =>
some (v8.1, true)
theorem impl_FilledAt_ok {p0 : Int × Bool} {p1 : List (Int × Int × Int)} {o : ((List Int) × Bool)} (h : impl_FilledAt p0 p1 = some o) : RN 10 [.agg [.int .i64 p0.1, .bool p0.2], .rows 3 (List.map e0 p1)] [] = some (.tup [.ints .i64 o.1, .bool o.2], []) := by
 refine fn_run (o := o) (nr := 0) (F := k10) (st := ⟨entry 0 [.agg [.vw [] (.int .i64 p0.1), .vw [] (.bool p0.2)], .vw [] (.rows 3 (List.map e0 p1))], fun n => ([] : List T)[n]?, 0⟩) (fun (o : ((List Int) × Bool)) => (.tup [.ints .i64 o.1, .bool o.2], [])) rfl fns_10 rfl rfl rfl ?_
 refine wp_seq ?_
 refine wp_reg (nx' := 48) rfl (ev_wr rfl (w_box (sv := (.agg [(.vw _ _), (.vw _ _)])) rfl rfl (absW_cons rfl rfl (absW_cons rfl rfl (absW_nil)))) (ev_new (.ref 16 [] 1 0 0) (.ints .i64 []) rfl rfl (ev_v rfl rfl (ev_nil)))) (seqQ_n (?_))
 refine wp_seq ?_
 refine wp_gc ?_
 refine wp_seq ?_
 obtain ⟨v6, hv6, h⟩ := bs h
 refine wp_reg (nx' := 112) rfl (ev_den (.agg [(.vw _ _), (.vw _ _)]) rfl (d_ld_os rfl (rget_of rfl (get_nil)) rfl (cells_cons rfl (cells_cons rfl (cells_nil)))) (ev_v rfl rfl (ev_call0 [(.agg [(.vw _ _), (.vw _ _)]), (.vw _ _)] rfl (call_ok (rs := []) (rd := []) rfl rfl rfl rfl (argL_cons (argT_a (argL_cons rfl (argL_cons rfl (argL_nil)))) (argL_cons rfl (argL_nil))) rfl rfl (impl_isSlotted_ok hv6) rfl rfl rfl rfl rfl) (ev_v rfl rfl (ev_nil))))) (seqQ_n (?_))
 rcases its h with ⟨hc7, h⟩ | ⟨hc7, h⟩
 ·refine wp_ct rfl hc7 ?_
  refine wp_seq ?_
  refine wp_reg (nx' := 144) rfl (ev_new (.ref 112 [] 1 0 0) (.ints .i64 []) rfl rfl (ev_v rfl rfl (ev_nil))) (seqQ_n (?_))
  replace h := Option.some.inj h
  subst h
  exact wp_ret (gcQ_r (seqQ_r (qf_r ((outs_ok (vs := [(.ref 112 _ _ _ _), (.vw _ _)]) rfl (absW_cons (retT_ref (abs_ref rfl sub_i)) rfl (absW_cons rfl rfl (absW_nil))) rfl rfl)))))
 ·refine wp_cf rfl hc7 ?_
  refine wp_skip (gcQ_n (gc_to [0] (e := [(1, .vw [] (.rows 3 (List.map e0 p1))), (2, .ptr 0 [] (some 0))]) (ts := [some (.ptr (.agg [.int .i64 p0.1, .bool p0.2]))]) (n := 1) rfl rfl rfl rfl) (seqQ_n (?_)))
  refine wp_seq ?_
  obtain ⟨v8, hv8, h⟩ := bs h
  refine wp_reg (nx' := 129) rfl (ev_den (.agg [(.vw _ _), (.vw _ _)]) rfl (d_ld_os rfl (rget_of rfl (get_nil)) rfl (cells_cons rfl (cells_cons rfl (cells_nil)))) (ev_v rfl rfl (ev_call0 [(.agg [(.vw _ _), (.vw _ _)]), (.vw _ _)] rfl (call_ok (rs := []) (rd := []) rfl rfl rfl rfl (argL_cons (argT_a (argL_cons rfl (argL_cons rfl (argL_nil)))) (argL_cons rfl (argL_nil))) rfl rfl (impl_slotted_ok hv8) rfl rfl rfl (bindR_t (bindL_cons rfl (bindL_cons rfl (bindL_nil)))) rfl) (ev_den (.tup [(.ref 33 _ _ _ _), (.ref 34 _ _ _ _)]) rfl rfl (ev_den (.ref 33 _ _ _ _) rfl rfl (ev_den (.ref 34 _ _ _ _) rfl rfl (ev_den (.ref 33 _ _ _ _) rfl rfl (ev_den (.ref 34 _ _ _ _) rfl rfl (ev_nil))))))))) (seqQ_n (?_))
  refine wp_seq ?_
  refine wp_reg (nx' := 177) rfl (ev_den (.ref 33 _ _ _ _) rfl rfl (ev_den (.ref 33 _ _ _ _) rfl rfl (ev_v rfl rfl (ev_nil)))) (seqQ_n (?_))
  replace h := Option.some.inj h
  subst h
  exact wp_ret (qf_r ((outs_ok (vs := [(.ref 33 _ _ _ _), (.vw _ _)]) rfl (absW_cons (retT_ref (abs_ref rfl sub_i)) rfl (absW_cons rfl rfl (absW_nil))) rfl rfl)))
/-- loop.example/g01176/impl.ReadAt -/
noncomputable def impl_ReadAt (p0 : Int × Bool) (p1 : List (Int × Int × Int)) : Option (((List Int) × Bool)) :=
(impl_isSlotted p0 p1).bind fun v6 =>
if (!v6) = true then
some ([], false)
else
(impl_slotted p0 p1).bind fun v8 =>
some (v8.2, true)
theorem impl_ReadAt_ok {p0 : Int × Bool} {p1 : List (Int × Int × Int)} {o : ((List Int) × Bool)} (h : impl_ReadAt p0 p1 = some o) : RN 11 [.agg [.int .i64 p0.1, .bool p0.2], .rows 3 (List.map e0 p1)] [] = some (.tup [.ints .i64 o.1, .bool o.2], []) := by
 refine fn_run (o := o) (nr := 0) (F := k11) (st := ⟨entry 0 [.agg [.vw [] (.int .i64 p0.1), .vw [] (.bool p0.2)], .vw [] (.rows 3 (List.map e0 p1))], fun n => ([] : List T)[n]?, 0⟩) (fun (o : ((List Int) × Bool)) => (.tup [.ints .i64 o.1, .bool o.2], [])) rfl fns_11 rfl rfl rfl ?_
 refine wp_seq ?_
 refine wp_reg (nx' := 48) rfl (ev_wr rfl (w_box (sv := (.agg [(.vw _ _), (.vw _ _)])) rfl rfl (absW_cons rfl rfl (absW_cons rfl rfl (absW_nil)))) (ev_new (.ref 16 [] 1 0 0) (.ints .i64 []) rfl rfl (ev_v rfl rfl (ev_nil)))) (seqQ_n (?_))
 refine wp_seq ?_
 refine wp_gc ?_
 refine wp_seq ?_
 obtain ⟨v6, hv6, h⟩ := bs h
 refine wp_reg (nx' := 112) rfl (ev_den (.agg [(.vw _ _), (.vw _ _)]) rfl (d_ld_os rfl (rget_of rfl (get_nil)) rfl (cells_cons rfl (cells_cons rfl (cells_nil)))) (ev_v rfl rfl (ev_call0 [(.agg [(.vw _ _), (.vw _ _)]), (.vw _ _)] rfl (call_ok (rs := []) (rd := []) rfl rfl rfl rfl (argL_cons (argT_a (argL_cons rfl (argL_cons rfl (argL_nil)))) (argL_cons rfl (argL_nil))) rfl rfl (impl_isSlotted_ok hv6) rfl rfl rfl rfl rfl) (ev_v rfl rfl (ev_nil))))) (seqQ_n (?_))
 rcases its h with ⟨hc7, h⟩ | ⟨hc7, h⟩
 ·refine wp_ct rfl hc7 ?_
  refine wp_seq ?_
  refine wp_reg (nx' := 144) rfl (ev_new (.ref 112 [] 1 0 0) (.ints .i64 []) rfl rfl (ev_v rfl rfl (ev_nil))) (seqQ_n (?_))
  replace h := Option.some.inj h
  subst h
  exact wp_ret (gcQ_r (seqQ_r (qf_r ((outs_ok (vs := [(.ref 112 _ _ _ _), (.vw _ _)]) rfl (absW_cons (retT_ref (abs_ref rfl sub_i)) rfl (absW_cons rfl rfl (absW_nil))) rfl rfl)))))
 ·refine wp_cf rfl hc7 ?_
  refine wp_skip (gcQ_n (gc_to [0] (e := [(1, .vw [] (.rows 3 (List.map e0 p1))), (2, .ptr 0 [] (some 0))]) (ts := [some (.ptr (.agg [.int .i64 p0.1, .bool p0.2]))]) (n := 1) rfl rfl rfl rfl) (seqQ_n (?_)))
  refine wp_seq ?_
  obtain ⟨v8, hv8, h⟩ := bs h
  refine wp_reg (nx' := 129) rfl (ev_den (.agg [(.vw _ _), (.vw _ _)]) rfl (d_ld_os rfl (rget_of rfl (get_nil)) rfl (cells_cons rfl (cells_cons rfl (cells_nil)))) (ev_v rfl rfl (ev_call0 [(.agg [(.vw _ _), (.vw _ _)]), (.vw _ _)] rfl (call_ok (rs := []) (rd := []) rfl rfl rfl rfl (argL_cons (argT_a (argL_cons rfl (argL_cons rfl (argL_nil)))) (argL_cons rfl (argL_nil))) rfl rfl (impl_slotted_ok hv8) rfl rfl rfl (bindR_t (bindL_cons rfl (bindL_cons rfl (bindL_nil)))) rfl) (ev_den (.tup [(.ref 33 _ _ _ _), (.ref 34 _ _ _ _)]) rfl rfl (ev_den (.ref 33 _ _ _ _) rfl rfl (ev_den (.ref 34 _ _ _ _) rfl rfl (ev_den (.ref 33 _ _ _ _) rfl rfl (ev_den (.ref 34 _ _ _ _) rfl rfl (ev_nil))))))))) (seqQ_n (?_))
  refine wp_seq ?_
  refine wp_reg (nx' := 177) rfl (ev_den (.ref 34 _ _ _ _) rfl rfl (ev_den (.ref 34 _ _ _ _) rfl rfl (ev_v rfl rfl (ev_nil)))) (seqQ_n (?_))
  replace h := Option.some.inj h
  subst h
  exact wp_ret (qf_r ((outs_ok (vs := [(.ref 34 _ _ _ _), (.vw _ _)]) rfl (absW_cons (retT_ref (abs_ref rfl sub_i)) rfl (absW_cons rfl rfl (absW_nil))) rfl rfl)))
/-- loop.example/g01176/spec.DrawQueueAt -/
noncomputable def spec_DrawQueueAt (p0 : List Int) : Option (((Int × Bool) × (List (Int × Int × Int)) × Int × Int)) :=
(spec_l1Cur_slotted ((p0, (0 : Int), (0 : Int)))).bind fun v5 =>
(spec_l1Cur_pick ((6 : Int)) v5.2).bind fun v6 =>
(spec_l1Cur_pick ((9 : Int)) v6.2).bind fun v7 =>
(spec_l1Cur_slotTick v7.2).bind fun v8 =>
some (v5.1.1, v5.1.2, (w64 (v6.1 - (w64 (Int.tdiv v7.1 (8 : Int))))), v8.1)
theorem spec_DrawQueueAt_ok {p0 : List Int} {o : ((Int × Bool) × (List (Int × Int × Int)) × Int × Int)} (h : spec_DrawQueueAt p0 = some o) : RN 12 [.ints .u8 p0] [] = some (.tup [.agg [.int .i64 o.1.1, .bool o.1.2], .rows 3 (List.map e0 o.2.1), .int .i64 o.2.2.1, .int .i64 o.2.2.2], []) := by
 refine fn_run (o := o) (nr := 0) (F := k12) (st := ⟨entry 0 [.vw [] (.ints .u8 p0)], fun n => ([] : List T)[n]?, 0⟩) (fun (o : ((Int × Bool) × (List (Int × Int × Int)) × Int × Int)) => (.tup [.agg [.int .i64 o.1.1, .bool o.1.2], .rows 3 (List.map e0 o.2.1), .int .i64 o.2.2.1, .int .i64 o.2.2.2], [])) rfl fns_12 rfl rfl rfl ?_
 refine wp_seq ?_
 refine wp_reg (nx' := 64) rfl (ev_new (.ptr 0 [] (some 0)) (.ptr (.agg [.int .i64 ((0 : Int)), .bool false])) rfl rfl (ev_new (.ref 16 [] 3 0 0) (.rows 3 []) rfl rfl (ev_v rfl rfl (ev_v rfl rfl (ev_nil))))) (seqQ_n (?_))
 refine wp_seq ?_
 refine wp_reg (nx' := 128) rfl (ev_v rfl rfl (ev_den (.agg [(.vw _ _), (.vw _ _), (.vw _ _)]) rfl rfl (ev_wr rfl (w_box (sv := (.agg [(.vw _ _), (.vw _ _), (.vw _ _)])) rfl rfl (absW_cons rfl rfl (absW_cons rfl rfl (absW_cons rfl rfl (absW_nil))))) (ev_den (.ptr 96 [] (some 0)) rfl rfl (ev_nil))))) (seqQ_n (?_))
 refine wp_seq ?_
 obtain ⟨v5, hv5, h⟩ := bs h
 refine wp_reg (nx' := 256) rfl (ev_den (.ptr 96 [] (some 0)) rfl rfl (ev_call1 [(.ptr 96 [] (some 0))] rfl (call_ok (rs := [96]) (rd := []) rfl rfl rfl rfl (argL_cons rfl (argL_nil)) rfl rfl (spec_l1Cur_slotted_ok hv5) rfl rfl rfl (bindR_t (bindL_cons (bindR_a (bindL_cons rfl (bindL_cons rfl (bindL_nil)))) (bindL_cons bindR_r (bindL_nil)))) rfl) (ev_den (.tup [(.agg [(.vw _ _), (.vw _ _)]), (.ref 144 _ _ _ _)]) rfl rfl (ev_den (.agg [(.vw _ _), (.vw _ _)]) rfl rfl (ev_den (.ref 144 _ _ _ _) rfl rfl (ev_new (.ptr 208 [] (some 0)) (.ptr (.agg [.int .i64 ((0 : Int)), .bool false])) rfl rfl (ev_wr0 rfl (w_st_a rfl rfl rfl (stL_cons (st1_of rfl rfl rfl (get_f rfl (get_nil)) rfl (rput_p (put_f rfl (put_nil)))) rfl (stL_cons (st1_of rfl rfl rfl (get_f rfl (get_nil)) rfl (rput_p (put_f rfl (put_nil)))) rfl (stL_nil)))) (ev_den (.ref 144 _ _ _ _) rfl rfl (ev_nil))))))))) (seqQ_n (?_))
 refine wp_seq ?_
 obtain ⟨v6, hv6, h⟩ := bs h
 obtain ⟨v7, hv7, h⟩ := bs h
 obtain ⟨v8, hv8, h⟩ := bs h
 refine wp_regA rfl (ar_cons (nx' := 480) rfl (rl_cons rfl (ev_den (.agg [(.vw _ _), (.vw _ _)]) rfl (d_ld_os rfl (rget_of rfl (get_nil)) rfl (cells_cons rfl (cells_cons rfl (cells_nil)))) (ev_nil)) (rl_cons rfl (ev_den (.ref 144 _ _ _ _) rfl rfl (ev_nil)) (rl_cons rfl (ev_den (.ptr 96 [] (some 0)) rfl rfl (ev_nil)) (rl_cons rfl (ev_call1 [(.ptr 96 [] (some 0)), (.vw _ _)] rfl (call_ok (rs := [96]) (rd := []) rfl rfl rfl rfl (argL_cons rfl (argL_cons rfl (argL_nil))) rfl rfl (spec_l1Cur_pick_ok hv6) rfl rfl rfl rfl rfl) (ev_nil)) (rl_cons rfl (ev_den (.ptr 96 [] (some 0)) rfl rfl (ev_nil)) (rl_cons rfl (ev_call1 [(.ptr 96 [] (some 0)), (.vw _ _)] rfl (call_ok (rs := [96]) (rd := []) rfl rfl rfl rfl (argL_cons rfl (argL_cons rfl (argL_nil))) rfl rfl (spec_l1Cur_pick_ok hv7) rfl rfl rfl rfl rfl) (ev_nil)) (rl_cons rfl (ev_v rfl (d_quo (u := ()) rfl rfl rfl) (ev_nil)) (rl_cons rfl (ev_v rfl rfl (ev_nil)) (rl_cons rfl (ev_den (.ptr 96 [] (some 0)) rfl rfl (ev_nil)) (rl_cons rfl (ev_call1 [(.ptr 96 [] (some 0))] rfl (call_ok (rs := [96]) (rd := []) rfl rfl rfl rfl (argL_cons rfl (argL_nil)) rfl rfl (spec_l1Cur_slotTick_ok hv8) rfl rfl rfl rfl rfl) (ev_nil)) (rl_cons rfl (ev_wr0 rfl (w_st_a rfl rfl rfl (stL_cons (st1_of rfl rfl rfl (get_f rfl (get_nil)) rfl (rput_p (put_f rfl (put_nil)))) rfl (stL_cons (st1_of rfl rfl rfl (get_f rfl (get_nil)) rfl (rput_p (put_f rfl (put_nil)))) rfl (stL_nil)))) (ev_nil)) (rl_cons rfl (ev_den (.ref 144 _ _ _ _) rfl rfl (ev_nil)) (rl_cons rfl (ev_v rfl rfl (ev_nil)) (rl_cons rfl (ev_v rfl rfl (ev_nil)) (rl_nil))))))))))))))) (gc_to [0, 144] (e := [(2, .ptr 0 [] (some 0)), (3, .ref 1 [] 3 0 (List.length v5.1.2)), (4, .vw [] (.int .i64 ((w64 (v6.1 - (w64 (Int.tdiv v7.1 (8 : Int)))))))), (5, .vw [] (.int .i64 v8.1))]) (ts := [some (.ptr (.agg [.int .i64 v5.1.1.1, .bool v5.1.1.2])), some (.rows 3 (List.map e0 v5.1.2))]) (n := 2) rfl rfl rfl rfl) (ar_cons (nx' := 480) rfl (rl_cons rfl (ev_den (.ref 144 _ _ _ _) rfl rfl (ev_nil)) (rl_cons rfl (ev_den (.ptr 96 [] (some 0)) rfl rfl (ev_nil)) (rl_cons rfl (ev_call1 [(.ptr 96 [] (some 0)), (.vw _ _)] rfl (call_ok (rs := [96]) (rd := []) rfl rfl rfl rfl (argL_cons rfl (argL_cons rfl (argL_nil))) rfl rfl (spec_l1Cur_pick_ok hv6) rfl rfl rfl rfl rfl) (ev_nil)) (rl_cons rfl (ev_den (.agg [(.vw _ _), (.vw _ _)]) rfl (d_ld_os rfl (rget_of rfl (get_nil)) rfl (cells_cons rfl (cells_cons rfl (cells_nil)))) (ev_nil)) (rl_cons rfl (ev_den (.ptr 96 [] (some 0)) rfl rfl (ev_nil)) (rl_cons rfl (ev_call1 [(.ptr 96 [] (some 0)), (.vw _ _)] rfl (call_ok (rs := [96]) (rd := []) rfl rfl rfl rfl (argL_cons rfl (argL_cons rfl (argL_nil))) rfl rfl (spec_l1Cur_pick_ok hv7) rfl rfl rfl rfl rfl) (ev_nil)) (rl_cons rfl (ev_v rfl (d_quo (u := ()) rfl rfl rfl) (ev_nil)) (rl_cons rfl (ev_v rfl rfl (ev_nil)) (rl_cons rfl (ev_den (.ptr 96 [] (some 0)) rfl rfl (ev_nil)) (rl_cons rfl (ev_call1 [(.ptr 96 [] (some 0))] rfl (call_ok (rs := [96]) (rd := []) rfl rfl rfl rfl (argL_cons rfl (argL_nil)) rfl rfl (spec_l1Cur_slotTick_ok hv8) rfl rfl rfl rfl rfl) (ev_nil)) (rl_cons rfl (ev_wr0 rfl (w_st_a rfl rfl rfl (stL_cons (st1_of rfl rfl rfl (get_f rfl (get_nil)) rfl (rput_p (put_f rfl (put_nil)))) rfl (stL_cons (st1_of rfl rfl rfl (get_f rfl (get_nil)) rfl (rput_p (put_f rfl (put_nil)))) rfl (stL_nil)))) (ev_nil)) (rl_cons rfl (ev_den (.ref 144 _ _ _ _) rfl rfl (ev_nil)) (rl_cons rfl (ev_v rfl rfl (ev_nil)) (rl_cons rfl (ev_v rfl rfl (ev_nil)) (rl_nil))))))))))))))) (gc_to [0, 144] (e := [(2, .ptr 0 [] (some 0)), (3, .ref 1 [] 3 0 (List.length v5.1.2)), (4, .vw [] (.int .i64 ((w64 (v6.1 - (w64 (Int.tdiv v7.1 (8 : Int)))))))), (5, .vw [] (.int .i64 v8.1))]) (ts := [some (.ptr (.agg [.int .i64 v5.1.1.1, .bool v5.1.1.2])), some (.rows 3 (List.map e0 v5.1.2))]) (n := 2) rfl rfl rfl rfl) (ar_cons (nx' := 480) rfl (rl_cons rfl (ev_den (.ref 144 _ _ _ _) rfl rfl (ev_nil)) (rl_cons rfl (ev_den (.ptr 96 [] (some 0)) rfl rfl (ev_nil)) (rl_cons rfl (ev_call1 [(.ptr 96 [] (some 0)), (.vw _ _)] rfl (call_ok (rs := [96]) (rd := []) rfl rfl rfl rfl (argL_cons rfl (argL_cons rfl (argL_nil))) rfl rfl (spec_l1Cur_pick_ok hv6) rfl rfl rfl rfl rfl) (ev_nil)) (rl_cons rfl (ev_den (.ptr 96 [] (some 0)) rfl rfl (ev_nil)) (rl_cons rfl (ev_call1 [(.ptr 96 [] (some 0)), (.vw _ _)] rfl (call_ok (rs := [96]) (rd := []) rfl rfl rfl rfl (argL_cons rfl (argL_cons rfl (argL_nil))) rfl rfl (spec_l1Cur_pick_ok hv7) rfl rfl rfl rfl rfl) (ev_nil)) (rl_cons rfl (ev_den (.agg [(.vw _ _), (.vw _ _)]) rfl (d_ld_os rfl (rget_of rfl (get_nil)) rfl (cells_cons rfl (cells_cons rfl (cells_nil)))) (ev_nil)) (rl_cons rfl (ev_v rfl (d_quo (u := ()) rfl rfl rfl) (ev_nil)) (rl_cons rfl (ev_v rfl rfl (ev_nil)) (rl_cons rfl (ev_den (.ptr 96 [] (some 0)) rfl rfl (ev_nil)) (rl_cons rfl (ev_call1 [(.ptr 96 [] (some 0))] rfl (call_ok (rs := [96]) (rd := []) rfl rfl rfl rfl (argL_cons rfl (argL_nil)) rfl rfl (spec_l1Cur_slotTick_ok hv8) rfl rfl rfl rfl rfl) (ev_nil)) (rl_cons rfl (ev_wr0 rfl (w_st_a rfl rfl rfl (stL_cons (st1_of rfl rfl rfl (get_f rfl (get_nil)) rfl (rput_p (put_f rfl (put_nil)))) rfl (stL_cons (st1_of rfl rfl rfl (get_f rfl (get_nil)) rfl (rput_p (put_f rfl (put_nil)))) rfl (stL_nil)))) (ev_nil)) (rl_cons rfl (ev_den (.ref 144 _ _ _ _) rfl rfl (ev_nil)) (rl_cons rfl (ev_v rfl rfl (ev_nil)) (rl_cons rfl (ev_v rfl rfl (ev_nil)) (rl_nil))))))))))))))) (gc_to [0, 144] (e := [(2, .ptr 0 [] (some 0)), (3, .ref 1 [] 3 0 (List.length v5.1.2)), (4, .vw [] (.int .i64 ((w64 (v6.1 - (w64 (Int.tdiv v7.1 (8 : Int)))))))), (5, .vw [] (.int .i64 v8.1))]) (ts := [some (.ptr (.agg [.int .i64 v5.1.1.1, .bool v5.1.1.2])), some (.rows 3 (List.map e0 v5.1.2))]) (n := 2) rfl rfl rfl rfl) (ar_cons (nx' := 480) rfl (rl_cons rfl (ev_den (.ref 144 _ _ _ _) rfl rfl (ev_nil)) (rl_cons rfl (ev_den (.ptr 96 [] (some 0)) rfl rfl (ev_nil)) (rl_cons rfl (ev_call1 [(.ptr 96 [] (some 0)), (.vw _ _)] rfl (call_ok (rs := [96]) (rd := []) rfl rfl rfl rfl (argL_cons rfl (argL_cons rfl (argL_nil))) rfl rfl (spec_l1Cur_pick_ok hv6) rfl rfl rfl rfl rfl) (ev_nil)) (rl_cons rfl (ev_den (.ptr 96 [] (some 0)) rfl rfl (ev_nil)) (rl_cons rfl (ev_call1 [(.ptr 96 [] (some 0)), (.vw _ _)] rfl (call_ok (rs := [96]) (rd := []) rfl rfl rfl rfl (argL_cons rfl (argL_cons rfl (argL_nil))) rfl rfl (spec_l1Cur_pick_ok hv7) rfl rfl rfl rfl rfl) (ev_nil)) (rl_cons rfl (ev_v rfl (d_quo (u := ()) rfl rfl rfl) (ev_nil)) (rl_cons rfl (ev_v rfl rfl (ev_nil)) (rl_cons rfl (ev_den (.ptr 96 [] (some 0)) rfl rfl (ev_nil)) (rl_cons rfl (ev_call1 [(.ptr 96 [] (some 0))] rfl (call_ok (rs := [96]) (rd := []) rfl rfl rfl rfl (argL_cons rfl (argL_nil)) rfl rfl (spec_l1Cur_slotTick_ok hv8) rfl rfl rfl rfl rfl) (ev_nil)) (rl_cons rfl (ev_den (.agg [(.vw _ _), (.vw _ _)]) rfl (d_ld_os rfl (rget_of rfl (get_nil)) rfl (cells_cons rfl (cells_cons rfl (cells_nil)))) (ev_nil)) (rl_cons rfl (ev_wr0 rfl (w_st_a rfl rfl rfl (stL_cons (st1_of rfl rfl rfl (get_f rfl (get_nil)) rfl (rput_p (put_f rfl (put_nil)))) rfl (stL_cons (st1_of rfl rfl rfl (get_f rfl (get_nil)) rfl (rput_p (put_f rfl (put_nil)))) rfl (stL_nil)))) (ev_nil)) (rl_cons rfl (ev_den (.ref 144 _ _ _ _) rfl rfl (ev_nil)) (rl_cons rfl (ev_v rfl rfl (ev_nil)) (rl_cons rfl (ev_v rfl rfl (ev_nil)) (rl_nil))))))))))))))) (gc_to [0, 144] (e := [(2, .ptr 0 [] (some 0)), (3, .ref 1 [] 3 0 (List.length v5.1.2)), (4, .vw [] (.int .i64 ((w64 (v6.1 - (w64 (Int.tdiv v7.1 (8 : Int)))))))), (5, .vw [] (.int .i64 v8.1))]) (ts := [some (.ptr (.agg [.int .i64 v5.1.1.1, .bool v5.1.1.2])), some (.rows 3 (List.map e0 v5.1.2))]) (n := 2) rfl rfl rfl rfl) (ar_nil))))) (seqQ_n (?_))
 replace h := Option.some.inj h
 subst h
 exact wp_ret (qf_r ((outs_ok (vs := [(.agg [(.vw _ _), (.vw _ _)]), (.ref 1 _ _ _ _), (.vw _ _), (.vw _ _)]) rfl (absW_cons (retT_agg (absW_cons rfl rfl (absW_cons rfl rfl (absW_nil)))) rfl (absW_cons (retT_ref (abs_ref rfl sub_r)) rfl (absW_cons rfl rfl (absW_cons rfl rfl (absW_nil))))) rfl rfl)))
noncomputable def impl_QueueAt_j3 (x100 : Int) : ((List Int)) → Option (((List Int) × Int) ⊕ ((List Int))) := fun x133 =>
some (.inl (x133, (w64 (x100 + (1 : Int)))))
noncomputable def impl_QueueAt_j4 (x99 : List Int) (x100 : Int) : Bool → Option (((List Int) × Int) ⊕ ((List Int))) := fun x147 =>
if x147 = true then
(app? x99 (([x100] : List Int))).bind fun v149 =>
impl_QueueAt_j3 x100 v149
else
impl_QueueAt_j3 x100 x99
noncomputable def impl_QueueAt_s2 (p1 : List (Int × Int × Int)) (p2 : Int) (p3 : Int) (v31 : ((List Int) × Bool)) : ((List Int) × Int) → Option (((List Int) × Int) ⊕ ((List Int))) := fun (x99, x100) =>
if (decide (x100 < (List.length p1 : Int))) = true then
(at? p1 x100).bind fun v143 =>
if (v143.2.1 == p2) = true then
if (decide (v143.1 ≤ p3)) = true then
(at? v31.1 x100).bind fun v154 =>
impl_QueueAt_j4 x99 x100 (decide (v154 > p3))
else
impl_QueueAt_j4 x99 x100 false
else
impl_QueueAt_j4 x99 x100 false
else
some (.inr x99)
noncomputable def impl_QueueAt_l2 (p1 : List (Int × Int × Int)) (p2 : Int) (p3 : Int) (v31 : ((List Int) × Bool)) : ((List Int) × Int) → Option ((List Int)) := iter (impl_QueueAt_s2 p1 p2 p3 v31)
noncomputable def impl_QueueAt_j1 (p1 : List (Int × Int × Int)) (p2 : Int) (p3 : Int) (v31 : ((List Int) × Bool)) : Bool → Option (((List Int) × Bool)) := fun x42 =>
if x42 = true then
some ([], false)
else
(impl_QueueAt_l2 p1 p2 p3 v31 (([] : List Int), (0 : Int))).bind fun x112 =>
some (x112, true)
/-- loop.example/g01176/impl.QueueAt -/
noncomputable def impl_QueueAt (p0 : Int × Bool) (p1 : List (Int × Int × Int)) (p2 : Int) (p3 : Int) : Option (((List Int) × Bool)) :=
(impl_FilledAt p0 p1).bind fun v31 =>
if (!v31.2) = true then
impl_QueueAt_j1 p1 p2 p3 v31 true
else
(impl_within p2 ((0 : Int)) ((w64 (p0.1 - (1 : Int))))).bind fun v162 =>
if (!v162) = true then
impl_QueueAt_j1 p1 p2 p3 v31 true
else
(impl_isSlotTick p3).bind fun v165 =>
impl_QueueAt_j1 p1 p2 p3 v31 (!v165)
theorem impl_QueueAt_ok {p0 : Int × Bool} {p1 : List (Int × Int × Int)} {p2 : Int} {p3 : Int} {o : ((List Int) × Bool)} (h : impl_QueueAt p0 p1 p2 p3 = some o) : RN 13 [.agg [.int .i64 p0.1, .bool p0.2], .rows 3 (List.map e0 p1), .int .i64 p2, .int .i64 p3] [] = some (.tup [.ints .i64 o.1, .bool o.2], []) := by
 refine fn_run (o := o) (nr := 0) (F := k13) (st := ⟨entry 0 [.agg [.vw [] (.int .i64 p0.1), .vw [] (.bool p0.2)], .vw [] (.rows 3 (List.map e0 p1)), .vw [] (.int .i64 p2), .vw [] (.int .i64 p3)], fun n => ([] : List T)[n]?, 0⟩) (fun (o : ((List Int) × Bool)) => (.tup [.ints .i64 o.1, .bool o.2], [])) rfl fns_13 rfl rfl rfl ?_
 refine wp_seq ?_
 refine wp_reg (nx' := 48) rfl (ev_wr rfl (w_box (sv := (.agg [(.vw _ _), (.vw _ _)])) rfl rfl (absW_cons rfl rfl (absW_cons rfl rfl (absW_nil)))) (ev_new (.ref 16 [] 1 0 0) (.ints .i64 []) rfl rfl (ev_v rfl rfl (ev_nil)))) (seqQ_n (?_))
 refine wp_seq ?_
 obtain ⟨v31, hv31, h⟩ := bs h
 refine wp_reg (nx' := 176) rfl (ev_den (.agg [(.vw _ _), (.vw _ _)]) rfl (d_ld_os rfl (rget_of rfl (get_nil)) rfl (cells_cons rfl (cells_cons rfl (cells_nil)))) (ev_v rfl rfl (ev_call0 [(.agg [(.vw _ _), (.vw _ _)]), (.vw _ _)] rfl (call_ok (rs := []) (rd := []) rfl rfl rfl rfl (argL_cons (argT_a (argL_cons rfl (argL_cons rfl (argL_nil)))) (argL_cons rfl (argL_nil))) rfl rfl (impl_FilledAt_ok hv31) rfl rfl rfl (bindR_t (bindL_cons rfl (bindL_cons rfl (bindL_nil)))) rfl) (ev_den (.tup [(.ref 80 _ _ _ _), (.vw _ _)]) rfl rfl (ev_den (.ref 80 _ _ _ _) rfl rfl (ev_v rfl rfl (ev_den (.ref 80 _ _ _ _) rfl rfl (ev_v rfl rfl (ev_nil))))))))) (seqQ_n (?_))
 refine wp_seq ?_
 refine wp_gc ?_
 refine wp_seq ?_
 refine wp_join (impl_QueueAt_j1 p1 p2 p3 v31) (fun (x42 : Bool) => (⟨al .dead [(1, .vw [] (.rows 3 (List.map e0 p1))), (2, .vw [] (.int .i64 p2)), (3, .vw [] (.int .i64 p3)), (10, .ref 0 [] 1 0 (List.length v31.1)), (35, .vw [] (.bool x42))], hl [some (.ints .i64 v31.1)], 1⟩ : St)) ?_ ?_
 ·rintro x42 o h
  unfold impl_QueueAt_j1 at h
  refine seqQ_n (?_)
  rcases its h with ⟨hc43, h⟩ | ⟨hc43, h⟩
  ·refine wp_ct rfl hc43 ?_
   refine wp_seq ?_
   refine wp_reg (nx' := 33) rfl (ev_new (.ref 1 [] 1 0 0) (.ints .i64 []) rfl rfl (ev_v rfl rfl (ev_nil))) (seqQ_n (?_))
   replace h := Option.some.inj h
   subst h
   exact wp_ret (gcQ_r (seqQ_r (qf_r ((outs_ok (vs := [(.ref 1 _ _ _ _), (.vw _ _)]) rfl (absW_cons (retT_ref (abs_ref rfl sub_i)) rfl (absW_cons rfl rfl (absW_nil))) rfl rfl)))))
  ·refine wp_cf rfl hc43 ?_
   refine wp_skip (gcQ_n (gc_to [0] (e := [(1, .vw [] (.rows 3 (List.map e0 p1))), (2, .vw [] (.int .i64 p2)), (3, .vw [] (.int .i64 p3)), (10, .ref 0 [] 1 0 (List.length v31.1))]) (ts := [some (.ints .i64 v31.1)]) (n := 1) rfl rfl rfl rfl) (seqQ_n (?_)))
   refine wp_seq ?_
   refine wp_reg (nx' := 33) rfl (ev_new (.ref 1 [] 1 0 0) (.ints .i64 (([] : List Int))) rfl rfl (ev_den (.ref 1 _ _ _ _) rfl rfl (ev_nil))) (seqQ_n (?_))
   refine wp_seq ?_
   refine wp_gc ?_
   refine wp_seq ?_
   refine wp_gc ?_
   refine wp_reg (nx' := 81) rfl (ev_v rfl rfl (ev_v rfl (d_len_vr (e := e0) rfl) (ev_v rfl rfl (ev_nil)))) (gcQ_n (gc_to [0, 1] (e := [(2, .vw [] (.int .i64 p2)), (3, .vw [] (.int .i64 p3)), (10, .ref 0 [] 1 0 (List.length v31.1)), (12, .ref 1 [] 1 0 (List.length (([] : List Int)))), (37, .vw [] (.rows 3 (List.map e0 p1))), (38, .vw [] (.int .i64 ((List.length p1 : Int)))), (39, .vw [] (.int .i64 ((0 : Int))))]) (ts := [some (.ints .i64 v31.1), some (.ints .i64 (([] : List Int)))]) (n := 2) rfl rfl rfl rfl) (seqQ_n (?_)))
   refine wp_gc ?_
   refine wp_blk ?_
   obtain ⟨x112, hw159, h⟩ := bs h
   refine wp_mono (wp_loop (fun ((x99, x100) : (List Int) × Int) => (⟨al .dead [(2, .vw [] (.int .i64 p2)), (3, .vw [] (.int .i64 p3)), (10, .ref 0 [] 1 0 (List.length v31.1)), (12, .ref 1 [] 1 0 (List.length x99)), (37, .vw [] (.rows 3 (List.map e0 p1))), (38, .vw [] (.int .i64 ((List.length p1 : Int)))), (39, .vw [] (.int .i64 x100))], hl [some (.ints .i64 v31.1), some (.ints .i64 x99)], 2⟩ : St)) (fun (x112 : (List Int)) e st => e = .exit 0 ∧ gc 0 [12] st = ⟨al .dead [(12, .ref 0 [] 1 0 (List.length x112))], hl [some (.ints .i64 x112)], 1⟩) hw159 ?_) ?_
   ·rintro ⟨x99, x100⟩ o h
    refine wp_gc ?_
    refine wp_seq ?_
    refine wp_reg (nx' := 18) rfl (ev_v rfl rfl (ev_nil)) (seqQ_n (?_))
    refine wp_seq ?_
    refine wp_gc ?_
    rcases its h with ⟨hc125, h⟩ | ⟨hc125, h⟩
    ·refine wp_ct rfl hc125 ?_
     refine wp_skip (gcQ_n (gc_to [0, 1] (e := [(2, .vw [] (.int .i64 p2)), (3, .vw [] (.int .i64 p3)), (10, .ref 0 [] 1 0 (List.length v31.1)), (12, .ref 1 [] 1 0 (List.length x99)), (37, .vw [] (.rows 3 (List.map e0 p1))), (38, .vw [] (.int .i64 ((List.length p1 : Int)))), (39, .vw [] (.int .i64 x100))]) (ts := [some (.ints .i64 v31.1), some (.ints .i64 x99)]) (n := 2) rfl rfl rfl rfl) (seqQ_n (?_)))
     refine wp_seq ?_
     refine wp_join (impl_QueueAt_j3 x100) (fun (x133 : (List Int)) => (⟨al .dead [(2, .vw [] (.int .i64 p2)), (3, .vw [] (.int .i64 p3)), (10, .ref 0 [] 1 0 (List.length v31.1)), (12, .ref 1 [] 1 0 (List.length x133)), (37, .vw [] (.rows 3 (List.map e0 p1))), (38, .vw [] (.int .i64 ((List.length p1 : Int)))), (39, .vw [] (.int .i64 x100))], hl [some (.ints .i64 v31.1), some (.ints .i64 x133)], 2⟩ : St)) ?_ ?_
     ·rintro x133 o h
      unfold impl_QueueAt_j3 at h
      refine seqQ_n (?_)
      replace h := Option.some.inj h
      subst h
      exact wp_reg (nx' := 34) rfl (ev_v rfl rfl (ev_v rfl rfl (ev_nil))) (gcQ_n (gc_to [0, 1] (e := [(2, .vw [] (.int .i64 p2)), (3, .vw [] (.int .i64 p3)), (10, .ref 0 [] 1 0 (List.length v31.1)), (12, .ref 1 [] 1 0 (List.length x133)), (37, .vw [] (.rows 3 (List.map e0 p1))), (38, .vw [] (.int .i64 ((List.length p1 : Int)))), (39, .vw [] (.int .i64 ((w64 (x100 + (1 : Int))))))]) (ts := [some (.ints .i64 v31.1), some (.ints .i64 x133)]) (n := 2) rfl rfl rfl rfl) (loopQ_n rfl))
     ·refine wp_gc ?_
      refine wp_blk ?_
      refine wp_seq ?_
      obtain ⟨v143, hv143, h⟩ := bs h
      refine wp_reg (nx' := 98) rfl (ev_v rfl rfl (ev_den (.pv _ _) rfl (d_idx_vr e0 rfl rfl hv143) (ev_den (.agg [(.vw _ _), (.vw _ _), (.vw _ _)]) rfl rfl (ev_new (.ptr 50 [] (some 0)) (.ptr (.agg [.int .i64 ((0 : Int)), .int .i64 ((0 : Int)), .int .i64 ((0 : Int))])) rfl rfl (ev_v rfl rfl (ev_wr0 rfl (w_st_a rfl rfl rfl (stL_cons (st1_of rfl rfl rfl (get_f rfl (get_nil)) rfl (rput_p (put_f rfl (put_nil)))) rfl (stL_cons (st1_of rfl rfl rfl (get_f rfl (get_nil)) rfl (rput_p (put_f rfl (put_nil)))) rfl (stL_cons (st1_of rfl rfl rfl (get_f rfl (get_nil)) rfl (rput_p (put_f rfl (put_nil)))) rfl (stL_nil))))) (ev_nil))))))) (seqQ_n (?_))
      refine wp_seq ?_
      refine wp_join (impl_QueueAt_j4 x99 x100) (fun (x147 : Bool) => (⟨al .dead [(2, .vw [] (.int .i64 p2)), (3, .vw [] (.int .i64 p3)), (10, .ref 0 [] 1 0 (List.length v31.1)), (12, .ref 1 [] 1 0 (List.length x99)), (13, .vw [] (.int .i64 x100)), (37, .vw [] (.rows 3 (List.map e0 p1))), (38, .vw [] (.int .i64 ((List.length p1 : Int)))), (39, .vw [] (.int .i64 x100)), (61, .vw [] (.bool x147))], hl [some (.ints .i64 v31.1), some (.ints .i64 x99)], 2⟩ : St)) ?_ ?_
      ·rintro x147 o h
       unfold impl_QueueAt_j4 at h
       refine seqQ_n (?_)
       rcases its h with ⟨hc148, h⟩ | ⟨hc148, h⟩
       ·refine wp_ct rfl hc148 ?_
        obtain ⟨v149, hv149, h⟩ := bs h
        exact wp_reg (nx' := 82) rfl (ev_den (.ref 1 _ _ _ _) rfl rfl (ev_v rfl rfl (ev_v rfl rfl (ev_wr rfl (w_app_i (xv := (.ref 1 _ _ _ _)) 1 rfl rfl (abs_ref rfl sub_i) hv149 rfl) (ev_den (.ref 1 _ _ _ _) rfl rfl (ev_nil)))))) (blkQ_n (gcQ_n (gc_to [0, 1] (e := [(2, .vw [] (.int .i64 p2)), (3, .vw [] (.int .i64 p3)), (10, .ref 0 [] 1 0 (List.length v31.1)), (12, .ref 1 [] 1 0 (List.length v149)), (37, .vw [] (.rows 3 (List.map e0 p1))), (38, .vw [] (.int .i64 ((List.length p1 : Int)))), (39, .vw [] (.int .i64 x100))]) (ts := [some (.ints .i64 v31.1), some (.ints .i64 v149)]) (n := 2) rfl rfl rfl rfl) (joinQ_n v149 h (gc_to [0, 1] rfl rfl rfl rfl))))
       ·refine wp_cf rfl hc148 ?_
        exact wp_skip (blkQ_n (gcQ_n (gc_to [0, 1] (e := [(2, .vw [] (.int .i64 p2)), (3, .vw [] (.int .i64 p3)), (10, .ref 0 [] 1 0 (List.length v31.1)), (12, .ref 1 [] 1 0 (List.length x99)), (37, .vw [] (.rows 3 (List.map e0 p1))), (38, .vw [] (.int .i64 ((List.length p1 : Int)))), (39, .vw [] (.int .i64 x100))]) (ts := [some (.ints .i64 v31.1), some (.ints .i64 x99)]) (n := 2) rfl rfl rfl rfl) (joinQ_n x99 h (gc_to [0, 1] rfl rfl rfl rfl))))
      ·rcases its h with ⟨hc152, h⟩ | ⟨hc152, h⟩
       ·rcases its h with ⟨hc153, h⟩ | ⟨hc153, h⟩
        ·obtain ⟨v154, hv154, h⟩ := bs h
         exact wp_reg (nx' := 386) rfl (ev_den (.ptr 50 [] (some 1)) rfl rfl (ev_v rfl (d_ld_o rfl (rget_of rfl (get_nil)) rfl rfl) (ev_v rfl rfl (ev_v rfl rfl (ev_v rfl rfl (ev_on rfl hc152 (ev_den (.ptr 50 [] (some 0)) rfl rfl (ev_on rfl hc152 (ev_v rfl (d_ld_o rfl (rget_of rfl (get_nil)) rfl rfl) (ev_on rfl hc152 (ev_v rfl rfl (ev_on rfl hc152 (ev_v rfl rfl (ev_v rfl (d_pick_t rfl hc152 rfl) (ev_v rfl rfl (ev_on rfl hc153 (ev_den (.ref 0 _ _ _ _) rfl rfl (ev_on rfl hc153 (ev_v rfl rfl (ev_on rfl hc153 (ev_den (.ptr 0 [.e (Int.toNat x100)] none) rfl (d_idx_r (p := []) rfl rfl hv154) (ev_on rfl hc153 (ev_v rfl (d_ld_p rfl (rget_of rfl (get_i hv154)) rfl) (ev_on rfl hc153 (ev_v rfl rfl (ev_on rfl hc153 (ev_v rfl rfl (ev_v rfl (d_pick_t rfl hc153 rfl) (ev_nil))))))))))))))))))))))))))))) (joinQ_n (decide (v154 > p3)) h (gc_to [0, 1] rfl rfl rfl rfl))
        ·exact wp_reg (nx' := 386) rfl (ev_den (.ptr 50 [] (some 1)) rfl rfl (ev_v rfl (d_ld_o rfl (rget_of rfl (get_nil)) rfl rfl) (ev_v rfl rfl (ev_v rfl rfl (ev_v rfl rfl (ev_on rfl hc152 (ev_den (.ptr 50 [] (some 0)) rfl rfl (ev_on rfl hc152 (ev_v rfl (d_ld_o rfl (rget_of rfl (get_nil)) rfl rfl) (ev_on rfl hc152 (ev_v rfl rfl (ev_on rfl hc152 (ev_v rfl rfl (ev_v rfl (d_pick_t rfl hc152 rfl) (ev_v rfl rfl (ev_off rfl hc153 (ev_off rfl hc153 (ev_off rfl hc153 (ev_off rfl hc153 (ev_off rfl hc153 (ev_off rfl hc153 (ev_v rfl (d_pick_f rfl hc153 rfl) (ev_nil))))))))))))))))))))))) (joinQ_n false h (gc_to [0, 1] rfl rfl rfl rfl))
       ·exact wp_reg (nx' := 386) rfl (ev_den (.ptr 50 [] (some 1)) rfl rfl (ev_v rfl (d_ld_o rfl (rget_of rfl (get_nil)) rfl rfl) (ev_v rfl rfl (ev_v rfl rfl (ev_v rfl rfl (ev_off rfl hc152 (ev_off rfl hc152 (ev_off rfl hc152 (ev_off rfl hc152 (ev_v rfl (d_pick_f rfl hc152 rfl) (ev_v rfl rfl (ev_off rfl rfl (ev_off rfl rfl (ev_off rfl rfl (ev_off rfl rfl (ev_off rfl rfl (ev_off rfl rfl (ev_v rfl (d_pick_f rfl rfl rfl) (ev_nil))))))))))))))))))) (joinQ_n false h (gc_to [0, 1] rfl rfl rfl rfl))
    ·refine wp_cf rfl hc125 ?_
     replace h := Option.some.inj h
     subst h
     exact wp_exit (gcQ_e (seqQ_e (gcQ_e (loopQ_e (And.intro rfl (gc_to [1] (e := [(12, .ref 0 [] 1 0 (List.length x99))]) (ts := [some (.ints .i64 x99)]) (n := 1) rfl rfl rfl rfl))))))
   ·intro e st159 hg159
    obtain ⟨rfl, hg159⟩ := hg159
    refine blkQ_h (gcQ_n hg159 (gcQ_n (gc_to [0] (e := [(12, .ref 0 [] 1 0 (List.length x112))]) (ts := [some (.ints .i64 x112)]) (n := 1) rfl rfl rfl rfl) (seqQ_n (?_))))
    refine wp_seq ?_
    refine wp_reg (nx' := 49) rfl (ev_den (.ref 0 _ _ _ _) rfl rfl (ev_den (.ref 0 _ _ _ _) rfl rfl (ev_v rfl rfl (ev_nil)))) (seqQ_n (?_))
    replace h := Option.some.inj h
    subst h
    exact wp_ret (qf_r ((outs_ok (vs := [(.ref 0 _ _ _ _), (.vw _ _)]) rfl (absW_cons (retT_ref (abs_ref rfl sub_i)) rfl (absW_cons rfl rfl (absW_nil))) rfl rfl)))
 ·rcases its h with ⟨hc160, h⟩ | ⟨hc160, h⟩
  ·exact wp_reg (nx' := 416) rfl (ev_v rfl rfl (ev_v rfl rfl (ev_v rfl rfl (ev_off rfl hc160 (ev_off rfl hc160 (ev_off rfl hc160 (ev_off rfl hc160 (ev_off rfl hc160 (ev_off rfl hc160 (ev_v rfl (d_pick_t rfl hc160 rfl) (ev_v rfl rfl (ev_off rfl rfl (ev_off rfl rfl (ev_off rfl rfl (ev_v rfl (d_pick_t rfl rfl rfl) (ev_nil)))))))))))))))) (joinQ_n true h (gc_to [80] rfl rfl rfl rfl))
  ·obtain ⟨v162, hv162, h⟩ := bs h
   rcases its h with ⟨hc163, h⟩ | ⟨hc163, h⟩
   ·exact wp_reg (nx' := 416) rfl (ev_v rfl rfl (ev_v rfl rfl (ev_v rfl rfl (ev_on rfl hc160 (ev_v rfl rfl (ev_on rfl hc160 (ev_den (.ptr 0 [] (some 0)) rfl rfl (ev_on rfl hc160 (ev_v rfl (d_ld_o rfl (rget_of rfl (get_nil)) rfl rfl) (ev_on rfl hc160 (ev_v rfl rfl (ev_on rfl hc160 (ev_call0 [(.vw _ _), (.vw _ _), (.vw _ _)] rfl (call_ok (rs := []) (rd := []) rfl rfl rfl rfl (argL_cons rfl (argL_cons rfl (argL_cons rfl (argL_nil)))) rfl rfl (impl_within_ok hv162) rfl rfl rfl rfl rfl) (ev_on rfl hc160 (ev_v rfl rfl (ev_v rfl (d_pick_f rfl hc160 rfl) (ev_v rfl rfl (ev_off rfl hc163 (ev_off rfl hc163 (ev_off rfl hc163 (ev_v rfl (d_pick_t rfl hc163 rfl) (ev_nil)))))))))))))))))))))) (joinQ_n true h (gc_to [80] rfl rfl rfl rfl))
   ·obtain ⟨v165, hv165, h⟩ := bs h
    exact wp_reg (nx' := 416) rfl (ev_v rfl rfl (ev_v rfl rfl (ev_v rfl rfl (ev_on rfl hc160 (ev_v rfl rfl (ev_on rfl hc160 (ev_den (.ptr 0 [] (some 0)) rfl rfl (ev_on rfl hc160 (ev_v rfl (d_ld_o rfl (rget_of rfl (get_nil)) rfl rfl) (ev_on rfl hc160 (ev_v rfl rfl (ev_on rfl hc160 (ev_call0 [(.vw _ _), (.vw _ _), (.vw _ _)] rfl (call_ok (rs := []) (rd := []) rfl rfl rfl rfl (argL_cons rfl (argL_cons rfl (argL_cons rfl (argL_nil)))) rfl rfl (impl_within_ok hv162) rfl rfl rfl rfl rfl) (ev_on rfl hc160 (ev_v rfl rfl (ev_v rfl (d_pick_f rfl hc160 rfl) (ev_v rfl rfl (ev_on rfl hc163 (ev_v rfl rfl (ev_on rfl hc163 (ev_call0 [(.vw _ _)] rfl (call_ok (rs := []) (rd := []) rfl rfl rfl rfl (argL_cons rfl (argL_nil)) rfl rfl (impl_isSlotTick_ok hv165) rfl rfl rfl rfl rfl) (ev_on rfl hc163 (ev_v rfl rfl (ev_v rfl (d_pick_f rfl hc163 rfl) (ev_nil))))))))))))))))))))))))) (joinQ_n (!v165) h (gc_to [80] rfl rfl rfl rfl))
noncomputable def spec_QueueAt_j3 (x103 : Int) : ((List Int)) → Option (((List Int) × Int) ⊕ ((List Int))) := fun x136 =>
some (.inl (x136, (w64 (x103 + (1 : Int)))))
noncomputable def spec_QueueAt_j4 (x102 : List Int) (x103 : Int) : Bool → Option (((List Int) × Int) ⊕ ((List Int))) := fun x150 =>
if x150 = true then
(app? x102 (([x103] : List Int))).bind fun v152 =>
spec_QueueAt_j3 x103 v152
else
spec_QueueAt_j3 x103 x102
noncomputable def spec_QueueAt_s2 (p1 : List (Int × Int × Int)) (p2 : Int) (p3 : Int) (v46 : (Int × Bool × (List (Int × Int × Int)) × (List Int) × (List Int) × (List Int))) : ((List Int) × Int) → Option (((List Int) × Int) ⊕ ((List Int))) := fun (x102, x103) =>
if (decide (x103 < (List.length p1 : Int))) = true then
(at? p1 x103).bind fun v146 =>
if (v146.2.1 == p2) = true then
if (decide (v146.1 ≤ p3)) = true then
(at? v46.2.2.2.2.1 x103).bind fun v157 =>
spec_QueueAt_j4 x102 x103 (decide (v157 < (0 : Int)))
else
spec_QueueAt_j4 x102 x103 false
else
spec_QueueAt_j4 x102 x103 false
else
some (.inr x102)
noncomputable def spec_QueueAt_l2 (p1 : List (Int × Int × Int)) (p2 : Int) (p3 : Int) (v46 : (Int × Bool × (List (Int × Int × Int)) × (List Int) × (List Int) × (List Int))) : ((List Int) × Int) → Option ((List Int)) := iter (spec_QueueAt_s2 p1 p2 p3 v46)
noncomputable def spec_QueueAt_j1 (p0 : Int × Bool) (p1 : List (Int × Int × Int)) (p2 : Int) (p3 : Int) : Bool → Option (((List Int) × Bool)) := fun x44 =>
if x44 = true then
some ([], false)
else
(spec_slEnd p0 p1 ((w64 (p3 + (1 : Int))))).bind fun v46 =>
(spec_QueueAt_l2 p1 p2 p3 v46 ([], (0 : Int))).bind fun x115 =>
some (x115, true)
/-- loop.example/g01176/spec.QueueAt -/
noncomputable def spec_QueueAt (p0 : Int × Bool) (p1 : List (Int × Int × Int)) (p2 : Int) (p3 : Int) : Option (((List Int) × Bool)) :=
(spec_slAll p0 p1).bind fun v163 =>
if (!v163) = true then
spec_QueueAt_j1 p0 p1 p2 p3 true
else
(spec_l1In p2 ((0 : Int)) ((w64 (p0.1 - (1 : Int))))).bind fun v166 =>
if (!v166) = true then
spec_QueueAt_j1 p0 p1 p2 p3 true
else
(spec_l1In p3 ((0 : Int)) ((400 : Int))).bind fun v169 =>
spec_QueueAt_j1 p0 p1 p2 p3 (!v169)
theorem spec_QueueAt_ok {p0 : Int × Bool} {p1 : List (Int × Int × Int)} {p2 : Int} {p3 : Int} {o : ((List Int) × Bool)} (h : spec_QueueAt p0 p1 p2 p3 = some o) : RN 14 [.agg [.int .i64 p0.1, .bool p0.2], .rows 3 (List.map e0 p1), .int .i64 p2, .int .i64 p3] [] = some (.tup [.ints .i64 o.1, .bool o.2], []) := by
 refine fn_run (o := o) (nr := 0) (F := k14) (st := ⟨entry 0 [.agg [.vw [] (.int .i64 p0.1), .vw [] (.bool p0.2)], .vw [] (.rows 3 (List.map e0 p1)), .vw [] (.int .i64 p2), .vw [] (.int .i64 p3)], fun n => ([] : List T)[n]?, 0⟩) (fun (o : ((List Int) × Bool)) => (.tup [.ints .i64 o.1, .bool o.2], [])) rfl fns_14 rfl rfl rfl ?_
 refine wp_seq ?_
 refine wp_reg (nx' := 48) rfl (ev_wr rfl (w_box (sv := (.agg [(.vw _ _), (.vw _ _)])) rfl rfl (absW_cons rfl rfl (absW_cons rfl rfl (absW_nil)))) (ev_new (.ref 16 [] 1 0 0) (.ints .i64 []) rfl rfl (ev_v rfl rfl (ev_nil)))) (seqQ_n (?_))
 refine wp_seq ?_
 refine wp_gc ?_
 refine wp_seq ?_
 refine wp_join (spec_QueueAt_j1 p0 p1 p2 p3) (fun (x44 : Bool) => (⟨al .dead [(1, .vw [] (.rows 3 (List.map e0 p1))), (2, .vw [] (.int .i64 p2)), (3, .vw [] (.int .i64 p3)), (4, .ptr 0 [] (some 0)), (30, .vw [] (.bool x44))], hl [some (.ptr (.agg [.int .i64 p0.1, .bool p0.2]))], 1⟩ : St)) ?_ ?_
 ·rintro x44 o h
  unfold spec_QueueAt_j1 at h
  refine seqQ_n (?_)
  rcases its h with ⟨hc45, h⟩ | ⟨hc45, h⟩
  ·refine wp_ct rfl hc45 ?_
   refine wp_seq ?_
   refine wp_reg (nx' := 33) rfl (ev_new (.ref 1 [] 1 0 0) (.ints .i64 []) rfl rfl (ev_v rfl rfl (ev_nil))) (seqQ_n (?_))
   replace h := Option.some.inj h
   subst h
   exact wp_ret (gcQ_r (seqQ_r (qf_r ((outs_ok (vs := [(.ref 1 _ _ _ _), (.vw _ _)]) rfl (absW_cons (retT_ref (abs_ref rfl sub_i)) rfl (absW_cons rfl rfl (absW_nil))) rfl rfl)))))
  ·refine wp_cf rfl hc45 ?_
   refine wp_skip (gcQ_n (gc_to [0] (e := [(1, .vw [] (.rows 3 (List.map e0 p1))), (2, .vw [] (.int .i64 p2)), (3, .vw [] (.int .i64 p3)), (4, .ptr 0 [] (some 0))]) (ts := [some (.ptr (.agg [.int .i64 p0.1, .bool p0.2]))]) (n := 1) rfl rfl rfl rfl) (seqQ_n (?_)))
   refine wp_seq ?_
   obtain ⟨v46, hv46, h⟩ := bs h
   refine wp_reg (nx' := 97) rfl (ev_den (.agg [(.vw _ _), (.vw _ _)]) rfl (d_ld_os rfl (rget_of rfl (get_nil)) rfl (cells_cons rfl (cells_cons rfl (cells_nil)))) (ev_v rfl rfl (ev_v rfl rfl (ev_v rfl rfl (ev_call0 [(.agg [(.vw _ _), (.vw _ _)]), (.vw _ _), (.vw _ _)] rfl (call_ok (rs := []) (rd := []) rfl rfl rfl rfl (argL_cons (argT_a (argL_cons rfl (argL_cons rfl (argL_nil)))) (argL_cons rfl (argL_cons rfl (argL_nil)))) rfl rfl (spec_slEnd_ok hv46) rfl rfl rfl rfl rfl) (ev_den (.ptr 65 [] (some 0)) rfl rfl (ev_nil))))))) (seqQ_n (?_))
   refine wp_seq ?_
   refine wp_reg (nx' := 113) rfl (ev_new (.ref 97 [] 1 0 0) (.ints .i64 []) rfl rfl (ev_nil)) (seqQ_n (?_))
   refine wp_seq ?_
   refine wp_gc ?_
   refine wp_seq ?_
   refine wp_gc ?_
   refine wp_reg (nx' := 161) rfl (ev_v rfl rfl (ev_v rfl (d_len_vr (e := e0) rfl) (ev_v rfl rfl (ev_nil)))) (gcQ_n (gc_to [65, 97] (e := [(2, .vw [] (.int .i64 p2)), (3, .vw [] (.int .i64 p3)), (10, .ptr 0 [] (some 0)), (11, .ref 1 [] 1 0 0), (36, .vw [] (.rows 3 (List.map e0 p1))), (37, .vw [] (.int .i64 ((List.length p1 : Int)))), (38, .vw [] (.int .i64 ((0 : Int))))]) (ts := [some (.ptr (.agg [.int .i64 v46.1, .bool v46.2.1, .sh (.rows 3 (List.map e0 v46.2.2.1)), .ints .i64 v46.2.2.2.1, .ints .i64 v46.2.2.2.2.1, .ints .i64 v46.2.2.2.2.2])), some (.ints .i64 ([]))]) (n := 2) rfl rfl rfl rfl) (seqQ_n (?_)))
   refine wp_gc ?_
   refine wp_blk ?_
   obtain ⟨x115, hw162, h⟩ := bs h
   refine wp_mono (wp_loop (fun ((x102, x103) : (List Int) × Int) => (⟨al .dead [(2, .vw [] (.int .i64 p2)), (3, .vw [] (.int .i64 p3)), (10, .ptr 0 [] (some 0)), (11, .ref 1 [] 1 0 (List.length x102)), (36, .vw [] (.rows 3 (List.map e0 p1))), (37, .vw [] (.int .i64 ((List.length p1 : Int)))), (38, .vw [] (.int .i64 x103))], hl [some (.ptr (.agg [.int .i64 v46.1, .bool v46.2.1, .sh (.rows 3 (List.map e0 v46.2.2.1)), .ints .i64 v46.2.2.2.1, .ints .i64 v46.2.2.2.2.1, .ints .i64 v46.2.2.2.2.2])), some (.ints .i64 x102)], 2⟩ : St)) (fun (x115 : (List Int)) e st => e = .exit 0 ∧ gc 0 [11] st = ⟨al .dead [(11, .ref 0 [] 1 0 (List.length x115))], hl [some (.ints .i64 x115)], 1⟩) hw162 ?_) ?_
   ·rintro ⟨x102, x103⟩ o h
    refine wp_gc ?_
    refine wp_seq ?_
    refine wp_reg (nx' := 18) rfl (ev_v rfl rfl (ev_nil)) (seqQ_n (?_))
    refine wp_seq ?_
    refine wp_gc ?_
    rcases its h with ⟨hc128, h⟩ | ⟨hc128, h⟩
    ·refine wp_ct rfl hc128 ?_
     refine wp_skip (gcQ_n (gc_to [0, 1] (e := [(2, .vw [] (.int .i64 p2)), (3, .vw [] (.int .i64 p3)), (10, .ptr 0 [] (some 0)), (11, .ref 1 [] 1 0 (List.length x102)), (36, .vw [] (.rows 3 (List.map e0 p1))), (37, .vw [] (.int .i64 ((List.length p1 : Int)))), (38, .vw [] (.int .i64 x103))]) (ts := [some (.ptr (.agg [.int .i64 v46.1, .bool v46.2.1, .sh (.rows 3 (List.map e0 v46.2.2.1)), .ints .i64 v46.2.2.2.1, .ints .i64 v46.2.2.2.2.1, .ints .i64 v46.2.2.2.2.2])), some (.ints .i64 x102)]) (n := 2) rfl rfl rfl rfl) (seqQ_n (?_)))
     refine wp_seq ?_
     refine wp_join (spec_QueueAt_j3 x103) (fun (x136 : (List Int)) => (⟨al .dead [(2, .vw [] (.int .i64 p2)), (3, .vw [] (.int .i64 p3)), (10, .ptr 0 [] (some 0)), (11, .ref 1 [] 1 0 (List.length x136)), (36, .vw [] (.rows 3 (List.map e0 p1))), (37, .vw [] (.int .i64 ((List.length p1 : Int)))), (38, .vw [] (.int .i64 x103))], hl [some (.ptr (.agg [.int .i64 v46.1, .bool v46.2.1, .sh (.rows 3 (List.map e0 v46.2.2.1)), .ints .i64 v46.2.2.2.1, .ints .i64 v46.2.2.2.2.1, .ints .i64 v46.2.2.2.2.2])), some (.ints .i64 x136)], 2⟩ : St)) ?_ ?_
     ·rintro x136 o h
      unfold spec_QueueAt_j3 at h
      refine seqQ_n (?_)
      replace h := Option.some.inj h
      subst h
      exact wp_reg (nx' := 34) rfl (ev_v rfl rfl (ev_v rfl rfl (ev_nil))) (gcQ_n (gc_to [0, 1] (e := [(2, .vw [] (.int .i64 p2)), (3, .vw [] (.int .i64 p3)), (10, .ptr 0 [] (some 0)), (11, .ref 1 [] 1 0 (List.length x136)), (36, .vw [] (.rows 3 (List.map e0 p1))), (37, .vw [] (.int .i64 ((List.length p1 : Int)))), (38, .vw [] (.int .i64 ((w64 (x103 + (1 : Int))))))]) (ts := [some (.ptr (.agg [.int .i64 v46.1, .bool v46.2.1, .sh (.rows 3 (List.map e0 v46.2.2.1)), .ints .i64 v46.2.2.2.1, .ints .i64 v46.2.2.2.2.1, .ints .i64 v46.2.2.2.2.2])), some (.ints .i64 x136)]) (n := 2) rfl rfl rfl rfl) (loopQ_n rfl))
     ·refine wp_gc ?_
      refine wp_blk ?_
      refine wp_seq ?_
      obtain ⟨v146, hv146, h⟩ := bs h
      refine wp_reg (nx' := 98) rfl (ev_v rfl rfl (ev_den (.pv _ _) rfl (d_idx_vr e0 rfl rfl hv146) (ev_den (.agg [(.vw _ _), (.vw _ _), (.vw _ _)]) rfl rfl (ev_new (.ptr 50 [] (some 0)) (.ptr (.agg [.int .i64 ((0 : Int)), .int .i64 ((0 : Int)), .int .i64 ((0 : Int))])) rfl rfl (ev_v rfl rfl (ev_wr0 rfl (w_st_a rfl rfl rfl (stL_cons (st1_of rfl rfl rfl (get_f rfl (get_nil)) rfl (rput_p (put_f rfl (put_nil)))) rfl (stL_cons (st1_of rfl rfl rfl (get_f rfl (get_nil)) rfl (rput_p (put_f rfl (put_nil)))) rfl (stL_cons (st1_of rfl rfl rfl (get_f rfl (get_nil)) rfl (rput_p (put_f rfl (put_nil)))) rfl (stL_nil))))) (ev_nil))))))) (seqQ_n (?_))
      refine wp_seq ?_
      refine wp_join (spec_QueueAt_j4 x102 x103) (fun (x150 : Bool) => (⟨al .dead [(2, .vw [] (.int .i64 p2)), (3, .vw [] (.int .i64 p3)), (10, .ptr 0 [] (some 0)), (11, .ref 1 [] 1 0 (List.length x102)), (12, .vw [] (.int .i64 x103)), (36, .vw [] (.rows 3 (List.map e0 p1))), (37, .vw [] (.int .i64 ((List.length p1 : Int)))), (38, .vw [] (.int .i64 x103)), (62, .vw [] (.bool x150))], hl [some (.ptr (.agg [.int .i64 v46.1, .bool v46.2.1, .sh (.rows 3 (List.map e0 v46.2.2.1)), .ints .i64 v46.2.2.2.1, .ints .i64 v46.2.2.2.2.1, .ints .i64 v46.2.2.2.2.2])), some (.ints .i64 x102)], 2⟩ : St)) ?_ ?_
      ·rintro x150 o h
       unfold spec_QueueAt_j4 at h
       refine seqQ_n (?_)
       rcases its h with ⟨hc151, h⟩ | ⟨hc151, h⟩
       ·refine wp_ct rfl hc151 ?_
        obtain ⟨v152, hv152, h⟩ := bs h
        exact wp_reg (nx' := 82) rfl (ev_den (.ref 1 _ _ _ _) rfl rfl (ev_v rfl rfl (ev_v rfl rfl (ev_wr rfl (w_app_i (xv := (.ref 1 _ _ _ _)) 1 rfl rfl (abs_ref rfl sub_i) hv152 rfl) (ev_den (.ref 1 _ _ _ _) rfl rfl (ev_nil)))))) (blkQ_n (gcQ_n (gc_to [0, 1] (e := [(2, .vw [] (.int .i64 p2)), (3, .vw [] (.int .i64 p3)), (10, .ptr 0 [] (some 0)), (11, .ref 1 [] 1 0 (List.length v152)), (36, .vw [] (.rows 3 (List.map e0 p1))), (37, .vw [] (.int .i64 ((List.length p1 : Int)))), (38, .vw [] (.int .i64 x103))]) (ts := [some (.ptr (.agg [.int .i64 v46.1, .bool v46.2.1, .sh (.rows 3 (List.map e0 v46.2.2.1)), .ints .i64 v46.2.2.2.1, .ints .i64 v46.2.2.2.2.1, .ints .i64 v46.2.2.2.2.2])), some (.ints .i64 v152)]) (n := 2) rfl rfl rfl rfl) (joinQ_n v152 h (gc_to [0, 1] rfl rfl rfl rfl))))
       ·refine wp_cf rfl hc151 ?_
        exact wp_skip (blkQ_n (gcQ_n (gc_to [0, 1] (e := [(2, .vw [] (.int .i64 p2)), (3, .vw [] (.int .i64 p3)), (10, .ptr 0 [] (some 0)), (11, .ref 1 [] 1 0 (List.length x102)), (36, .vw [] (.rows 3 (List.map e0 p1))), (37, .vw [] (.int .i64 ((List.length p1 : Int)))), (38, .vw [] (.int .i64 x103))]) (ts := [some (.ptr (.agg [.int .i64 v46.1, .bool v46.2.1, .sh (.rows 3 (List.map e0 v46.2.2.1)), .ints .i64 v46.2.2.2.1, .ints .i64 v46.2.2.2.2.1, .ints .i64 v46.2.2.2.2.2])), some (.ints .i64 x102)]) (n := 2) rfl rfl rfl rfl) (joinQ_n x102 h (gc_to [0, 1] rfl rfl rfl rfl))))
      ·rcases its h with ⟨hc155, h⟩ | ⟨hc155, h⟩
       ·rcases its h with ⟨hc156, h⟩ | ⟨hc156, h⟩
        ·obtain ⟨v157, hv157, h⟩ := bs h
         exact wp_reg (nx' := 418) rfl (ev_den (.ptr 50 [] (some 1)) rfl rfl (ev_v rfl (d_ld_o rfl (rget_of rfl (get_nil)) rfl rfl) (ev_v rfl rfl (ev_v rfl rfl (ev_v rfl rfl (ev_on rfl hc155 (ev_den (.ptr 50 [] (some 0)) rfl rfl (ev_on rfl hc155 (ev_v rfl (d_ld_o rfl (rget_of rfl (get_nil)) rfl rfl) (ev_on rfl hc155 (ev_v rfl rfl (ev_on rfl hc155 (ev_v rfl rfl (ev_v rfl (d_pick_t rfl hc155 rfl) (ev_v rfl rfl (ev_on rfl hc156 (ev_den (.ptr 0 [] (some 0)) rfl rfl (ev_on rfl hc156 (ev_den (.ptr 0 [] (some 0)) rfl rfl (ev_on rfl hc156 (ev_den (.ptr 0 [] (some 4)) rfl rfl (ev_on rfl hc156 (ev_den (.ref 0 [.f 4] _ _ _) rfl (d_ld_o rfl (rget_of rfl (get_nil)) rfl rfl) (ev_on rfl hc156 (ev_v rfl rfl (ev_on rfl hc156 (ev_den (.ptr 0 [.f 4, .e (Int.toNat x103)] none) rfl (d_idx_r (p := [.f 4]) rfl rfl hv157) (ev_on rfl hc156 (ev_v rfl (d_ld_p rfl (rget_of rfl (get_f rfl (get_i hv157))) rfl) (ev_on rfl hc156 (ev_v rfl rfl (ev_v rfl (d_pick_t rfl hc156 rfl) (ev_nil))))))))))))))))))))))))))))))))) (joinQ_n (decide (v157 < (0 : Int))) h (gc_to [0, 1] rfl rfl rfl rfl))
        ·exact wp_reg (nx' := 418) rfl (ev_den (.ptr 50 [] (some 1)) rfl rfl (ev_v rfl (d_ld_o rfl (rget_of rfl (get_nil)) rfl rfl) (ev_v rfl rfl (ev_v rfl rfl (ev_v rfl rfl (ev_on rfl hc155 (ev_den (.ptr 50 [] (some 0)) rfl rfl (ev_on rfl hc155 (ev_v rfl (d_ld_o rfl (rget_of rfl (get_nil)) rfl rfl) (ev_on rfl hc155 (ev_v rfl rfl (ev_on rfl hc155 (ev_v rfl rfl (ev_v rfl (d_pick_t rfl hc155 rfl) (ev_v rfl rfl (ev_off rfl hc156 (ev_off rfl hc156 (ev_off rfl hc156 (ev_off rfl hc156 (ev_off rfl hc156 (ev_off rfl hc156 (ev_off rfl hc156 (ev_off rfl hc156 (ev_v rfl (d_pick_f rfl hc156 rfl) (ev_nil))))))))))))))))))))))))) (joinQ_n false h (gc_to [0, 1] rfl rfl rfl rfl))
       ·exact wp_reg (nx' := 418) rfl (ev_den (.ptr 50 [] (some 1)) rfl rfl (ev_v rfl (d_ld_o rfl (rget_of rfl (get_nil)) rfl rfl) (ev_v rfl rfl (ev_v rfl rfl (ev_v rfl rfl (ev_off rfl hc155 (ev_off rfl hc155 (ev_off rfl hc155 (ev_off rfl hc155 (ev_v rfl (d_pick_f rfl hc155 rfl) (ev_v rfl rfl (ev_off rfl rfl (ev_off rfl rfl (ev_off rfl rfl (ev_off rfl rfl (ev_off rfl rfl (ev_off rfl rfl (ev_off rfl rfl (ev_off rfl rfl (ev_v rfl (d_pick_f rfl rfl rfl) (ev_nil))))))))))))))))))))) (joinQ_n false h (gc_to [0, 1] rfl rfl rfl rfl))
    ·refine wp_cf rfl hc128 ?_
     replace h := Option.some.inj h
     subst h
     exact wp_exit (gcQ_e (seqQ_e (gcQ_e (loopQ_e (And.intro rfl (gc_to [1] (e := [(11, .ref 0 [] 1 0 (List.length x102))]) (ts := [some (.ints .i64 x102)]) (n := 1) rfl rfl rfl rfl))))))
   ·intro e st162 hg162
    obtain ⟨rfl, hg162⟩ := hg162
    refine blkQ_h (gcQ_n hg162 (gcQ_n (gc_to [0] (e := [(11, .ref 0 [] 1 0 (List.length x115))]) (ts := [some (.ints .i64 x115)]) (n := 1) rfl rfl rfl rfl) (seqQ_n (?_))))
    refine wp_seq ?_
    refine wp_reg (nx' := 49) rfl (ev_den (.ref 0 _ _ _ _) rfl rfl (ev_den (.ref 0 _ _ _ _) rfl rfl (ev_v rfl rfl (ev_nil)))) (seqQ_n (?_))
    replace h := Option.some.inj h
    subst h
    exact wp_ret (qf_r ((outs_ok (vs := [(.ref 0 _ _ _ _), (.vw _ _)]) rfl (absW_cons (retT_ref (abs_ref rfl sub_i)) rfl (absW_cons rfl rfl (absW_nil))) rfl rfl)))
 ·obtain ⟨v163, hv163, h⟩ := bs h
  rcases its h with ⟨hc164, h⟩ | ⟨hc164, h⟩
  ·exact wp_reg (nx' := 320) rfl (ev_den (.agg [(.vw _ _), (.vw _ _)]) rfl (d_ld_os rfl (rget_of rfl (get_nil)) rfl (cells_cons rfl (cells_cons rfl (cells_nil)))) (ev_v rfl rfl (ev_call0 [(.agg [(.vw _ _), (.vw _ _)]), (.vw _ _)] rfl (call_ok (rs := []) (rd := []) rfl rfl rfl rfl (argL_cons (argT_a (argL_cons rfl (argL_cons rfl (argL_nil)))) (argL_cons rfl (argL_nil))) rfl rfl (spec_slAll_ok hv163) rfl rfl rfl rfl rfl) (ev_v rfl rfl (ev_v rfl rfl (ev_off rfl hc164 (ev_off rfl hc164 (ev_off rfl hc164 (ev_off rfl hc164 (ev_off rfl hc164 (ev_off rfl hc164 (ev_v rfl (d_pick_t rfl hc164 rfl) (ev_v rfl rfl (ev_off rfl rfl (ev_off rfl rfl (ev_off rfl rfl (ev_v rfl (d_pick_t rfl rfl rfl) (ev_nil)))))))))))))))))) (joinQ_n true h (gc_to [0] rfl rfl rfl rfl))
  ·obtain ⟨v166, hv166, h⟩ := bs h
   rcases its h with ⟨hc167, h⟩ | ⟨hc167, h⟩
   ·exact wp_reg (nx' := 320) rfl (ev_den (.agg [(.vw _ _), (.vw _ _)]) rfl (d_ld_os rfl (rget_of rfl (get_nil)) rfl (cells_cons rfl (cells_cons rfl (cells_nil)))) (ev_v rfl rfl (ev_call0 [(.agg [(.vw _ _), (.vw _ _)]), (.vw _ _)] rfl (call_ok (rs := []) (rd := []) rfl rfl rfl rfl (argL_cons (argT_a (argL_cons rfl (argL_cons rfl (argL_nil)))) (argL_cons rfl (argL_nil))) rfl rfl (spec_slAll_ok hv163) rfl rfl rfl rfl rfl) (ev_v rfl rfl (ev_v rfl rfl (ev_on rfl hc164 (ev_v rfl rfl (ev_on rfl hc164 (ev_den (.ptr 0 [] (some 0)) rfl rfl (ev_on rfl hc164 (ev_v rfl (d_ld_o rfl (rget_of rfl (get_nil)) rfl rfl) (ev_on rfl hc164 (ev_v rfl rfl (ev_on rfl hc164 (ev_call0 [(.vw _ _), (.vw _ _), (.vw _ _)] rfl (call_ok (rs := []) (rd := []) rfl rfl rfl rfl (argL_cons rfl (argL_cons rfl (argL_cons rfl (argL_nil)))) rfl rfl (spec_l1In_ok hv166) rfl rfl rfl rfl rfl) (ev_on rfl hc164 (ev_v rfl rfl (ev_v rfl (d_pick_f rfl hc164 rfl) (ev_v rfl rfl (ev_off rfl hc167 (ev_off rfl hc167 (ev_off rfl hc167 (ev_v rfl (d_pick_t rfl hc167 rfl) (ev_nil)))))))))))))))))))))))) (joinQ_n true h (gc_to [0] rfl rfl rfl rfl))
   ·obtain ⟨v169, hv169, h⟩ := bs h
    exact wp_reg (nx' := 320) rfl (ev_den (.agg [(.vw _ _), (.vw _ _)]) rfl (d_ld_os rfl (rget_of rfl (get_nil)) rfl (cells_cons rfl (cells_cons rfl (cells_nil)))) (ev_v rfl rfl (ev_call0 [(.agg [(.vw _ _), (.vw _ _)]), (.vw _ _)] rfl (call_ok (rs := []) (rd := []) rfl rfl rfl rfl (argL_cons (argT_a (argL_cons rfl (argL_cons rfl (argL_nil)))) (argL_cons rfl (argL_nil))) rfl rfl (spec_slAll_ok hv163) rfl rfl rfl rfl rfl) (ev_v rfl rfl (ev_v rfl rfl (ev_on rfl hc164 (ev_v rfl rfl (ev_on rfl hc164 (ev_den (.ptr 0 [] (some 0)) rfl rfl (ev_on rfl hc164 (ev_v rfl (d_ld_o rfl (rget_of rfl (get_nil)) rfl rfl) (ev_on rfl hc164 (ev_v rfl rfl (ev_on rfl hc164 (ev_call0 [(.vw _ _), (.vw _ _), (.vw _ _)] rfl (call_ok (rs := []) (rd := []) rfl rfl rfl rfl (argL_cons rfl (argL_cons rfl (argL_cons rfl (argL_nil)))) rfl rfl (spec_l1In_ok hv166) rfl rfl rfl rfl rfl) (ev_on rfl hc164 (ev_v rfl rfl (ev_v rfl (d_pick_f rfl hc164 rfl) (ev_v rfl rfl (ev_on rfl hc167 (ev_v rfl rfl (ev_on rfl hc167 (ev_call0 [(.vw _ _), (.vw _ _), (.vw _ _)] rfl (call_ok (rs := []) (rd := []) rfl rfl rfl rfl (argL_cons rfl (argL_cons rfl (argL_cons rfl (argL_nil)))) rfl rfl (spec_l1In_ok hv169) rfl rfl rfl rfl rfl) (ev_on rfl hc167 (ev_v rfl rfl (ev_v rfl (d_pick_f rfl hc167 rfl) (ev_nil))))))))))))))))))))))))))) (joinQ_n (!v169) h (gc_to [0] rfl rfl rfl rfl))
end Go.Proofs.Yteeejellpcikkaa.Ev.H5
