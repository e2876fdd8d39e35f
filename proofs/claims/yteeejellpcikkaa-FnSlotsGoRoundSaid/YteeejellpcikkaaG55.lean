/- What functions of the program come to, as plain functions; no condition. -/
import Derived.Test.YteeejellpcikkaaG54
set_option linter.unusedVariables false
set_option linter.unusedSimpArgs false
set_option maxRecDepth 100000
set_option maxHeartbeats 4000000
set_option linter.unusedVariables false
namespace Go.Proofs.Yteeejellpcikkaa.Ev.G5
open Go
/-- loop.example/g01176/spec.l1Most -/
noncomputable def spec_l1Most (p0 : Int) (p1 : Int) : Option Int :=
if (decide (p0 > p1)) = true then
some p0
else
some p1
theorem spec_l1Most_ok {p0 : Int} {p1 : Int} {o : Int} (h : spec_l1Most p0 p1 = some o) : RN 59 [.int .i64 p0, .int .i64 p1] [] = some (.int .i64 o, []) := by
 refine fn_run (o := o) (nr := 0) (F := k59) (st := ⟨entry 0 [.vw [] (.int .i64 p0), .vw [] (.int .i64 p1)], fun n => ([] : List T)[n]?, 0⟩) (fun (o : Int) => (.int .i64 o, [])) rfl fns_59 rfl rfl rfl ?_
 refine wp_seq ?_
 refine wp_reg (nx' := 16) rfl (ev_v rfl rfl (ev_nil)) (seqQ_n (?_))
 refine wp_seq ?_
 refine wp_gc ?_
 refine wp_seq ?_
 refine wp_reg (nx' := 64) rfl (ev_v rfl rfl (ev_v rfl rfl (ev_v rfl rfl (ev_nil)))) (seqQ_n (?_))
 rcases its h with ⟨hc3, h⟩ | ⟨hc3, h⟩
 ·refine wp_ct rfl hc3 ?_
  refine wp_seq ?_
  refine wp_reg (nx' := 96) rfl (ev_v rfl rfl (ev_v rfl rfl (ev_nil))) (seqQ_n (?_))
  replace h := Option.some.inj h
  subst h
  exact wp_ret (gcQ_r (seqQ_r (qf_r ((outs_ok (vs := [(.vw _ _)]) rfl (absW_cons rfl rfl (absW_nil)) rfl rfl)))))
 ·refine wp_cf rfl hc3 ?_
  refine wp_skip (gcQ_n (gc_to [] (e := [(1, .vw [] (.int .i64 p1))]) (ts := []) (n := 0) rfl rfl rfl rfl) (seqQ_n (?_)))
  refine wp_seq ?_
  refine wp_reg (nx' := 32) rfl (ev_v rfl rfl (ev_v rfl rfl (ev_nil))) (seqQ_n (?_))
  replace h := Option.some.inj h
  subst h
  exact wp_ret (qf_r ((outs_ok (vs := [(.vw _ _)]) rfl (absW_cons rfl rfl (absW_nil)) rfl rfl)))
noncomputable def spec_LastRead_s1 (v32 : (Int × Bool × (List (Int × Int × Int)) × (List Int) × (List Int) × (List Int))) : (Int × Int) → Option ((Int × Int) ⊕ Int) := fun (x47, x48) =>
if (decide (x48 < (List.length v32.2.2.2.2.2 : Int))) = true then
(at? v32.2.2.2.2.2 x48).bind fun v66 =>
(spec_l1Most x47 v66).bind fun v67 =>
some (.inl (v67, (w64 (x48 + (1 : Int)))))
else
some (.inr x47)
noncomputable def spec_LastRead_l1 (v32 : (Int × Bool × (List (Int × Int × Int)) × (List Int) × (List Int) × (List Int))) : (Int × Int) → Option Int := iter (spec_LastRead_s1 v32)
/-- loop.example/g01176/spec.LastRead -/
noncomputable def spec_LastRead (p0 : Int × Bool) (p1 : List (Int × Int × Int)) : Option ((Int × Bool)) :=
(spec_slAll p0 p1).bind fun v17 =>
if (!v17) = true then
some ((0 : Int), false)
else
(spec_slWhole p0 p1).bind fun v32 =>
(spec_LastRead_l1 v32 ((0 : Int), (0 : Int))).bind fun x54 =>
some (x54, true)
theorem spec_LastRead_ok {p0 : Int × Bool} {p1 : List (Int × Int × Int)} {o : (Int × Bool)} (h : spec_LastRead p0 p1 = some o) : RN 26 [.agg [.int .i64 p0.1, .bool p0.2], .rows 3 (List.map e0 p1)] [] = some (.tup [.int .i64 o.1, .bool o.2], []) := by
 refine fn_run (o := o) (nr := 0) (F := k26) (st := ⟨entry 0 [.agg [.vw [] (.int .i64 p0.1), .vw [] (.bool p0.2)], .vw [] (.rows 3 (List.map e0 p1))], fun n => ([] : List T)[n]?, 0⟩) (fun (o : (Int × Bool)) => (.tup [.int .i64 o.1, .bool o.2], [])) rfl fns_26 rfl rfl rfl ?_
 refine wp_seq ?_
 refine wp_reg (nx' := 48) rfl (ev_wr rfl (w_box (sv := (.agg [(.vw _ _), (.vw _ _)])) rfl rfl (absW_cons rfl rfl (absW_cons rfl rfl (absW_nil)))) (ev_v rfl rfl (ev_v rfl rfl (ev_nil)))) (seqQ_n (?_))
 refine wp_seq ?_
 refine wp_gc ?_
 refine wp_seq ?_
 obtain ⟨v17, hv17, h⟩ := bs h
 refine wp_reg (nx' := 112) rfl (ev_den (.agg [(.vw _ _), (.vw _ _)]) rfl (d_ld_os rfl (rget_of rfl (get_nil)) rfl (cells_cons rfl (cells_cons rfl (cells_nil)))) (ev_v rfl rfl (ev_call0 [(.agg [(.vw _ _), (.vw _ _)]), (.vw _ _)] rfl (call_ok (rs := []) (rd := []) rfl rfl rfl rfl (argL_cons (argT_a (argL_cons rfl (argL_cons rfl (argL_nil)))) (argL_cons rfl (argL_nil))) rfl rfl (spec_slAll_ok hv17) rfl rfl rfl rfl rfl) (ev_v rfl rfl (ev_nil))))) (seqQ_n (?_))
 rcases its h with ⟨hc18, h⟩ | ⟨hc18, h⟩
 ·refine wp_ct rfl hc18 ?_
  refine wp_seq ?_
  refine wp_reg (nx' := 144) rfl (ev_v rfl rfl (ev_v rfl rfl (ev_nil))) (seqQ_n (?_))
  replace h := Option.some.inj h
  subst h
  exact wp_ret (gcQ_r (seqQ_r (qf_r ((outs_ok (vs := [(.vw _ _), (.vw _ _)]) rfl (absW_cons rfl rfl (absW_cons rfl rfl (absW_nil))) rfl rfl)))))
 ·refine wp_cf rfl hc18 ?_
  refine wp_skip (gcQ_n (gc_to [0] (e := [(1, .vw [] (.rows 3 (List.map e0 p1))), (2, .ptr 0 [] (some 0))]) (ts := [some (.ptr (.agg [.int .i64 p0.1, .bool p0.2]))]) (n := 1) rfl rfl rfl rfl) (seqQ_n (?_)))
  refine wp_seq ?_
  refine wp_reg (nx' := 17) rfl (ev_v rfl rfl (ev_nil)) (seqQ_n (?_))
  refine wp_seq ?_
  refine wp_gc ?_
  refine wp_seq ?_
  refine wp_gc ?_
  obtain ⟨v32, hv32, h⟩ := bs h
  refine wp_reg (nx' := 145) rfl (ev_den (.agg [(.vw _ _), (.vw _ _)]) rfl (d_ld_os rfl (rget_of rfl (get_nil)) rfl (cells_cons rfl (cells_cons rfl (cells_nil)))) (ev_v rfl rfl (ev_call0 [(.agg [(.vw _ _), (.vw _ _)]), (.vw _ _)] rfl (call_ok (rs := []) (rd := []) rfl rfl rfl rfl (argL_cons (argT_a (argL_cons rfl (argL_cons rfl (argL_nil)))) (argL_cons rfl (argL_nil))) rfl rfl (spec_slWhole_ok hv32) rfl rfl rfl rfl rfl) (ev_den (.ptr 49 [] (some 0)) rfl rfl (ev_den (.ptr 49 [] (some 5)) rfl rfl (ev_den (.ref 49 [.f 5] _ _ _) rfl (d_ld_o rfl (rget_of rfl (get_nil)) rfl rfl) (ev_v rfl rfl (ev_v rfl rfl (ev_nil))))))))) (gcQ_n (gc_to [49] (e := [(6, .vw [] (.int .i64 ((0 : Int)))), (18, .ref 0 [.f 5] 1 0 (List.length v32.2.2.2.2.2)), (19, .vw [] (.int .i64 ((List.length v32.2.2.2.2.2 : Int)))), (20, .vw [] (.int .i64 ((0 : Int))))]) (ts := [some (.ptr (.agg [.int .i64 v32.1, .bool v32.2.1, .sh (.rows 3 (List.map e0 v32.2.2.1)), .ints .i64 v32.2.2.2.1, .ints .i64 v32.2.2.2.2.1, .ints .i64 v32.2.2.2.2.2]))]) (n := 1) rfl rfl rfl rfl) (seqQ_n (?_)))
  refine wp_gc ?_
  refine wp_blk ?_
  obtain ⟨x54, hw71, h⟩ := bs h
  refine wp_mono (wp_loop (fun ((x47, x48) : Int × Int) => (⟨al .dead [(6, .vw [] (.int .i64 x47)), (18, .ref 0 [.f 5] 1 0 (List.length v32.2.2.2.2.2)), (19, .vw [] (.int .i64 ((List.length v32.2.2.2.2.2 : Int)))), (20, .vw [] (.int .i64 x48))], hl [some (.ptr (.agg [.int .i64 v32.1, .bool v32.2.1, .sh (.rows 3 (List.map e0 v32.2.2.1)), .ints .i64 v32.2.2.2.1, .ints .i64 v32.2.2.2.2.1, .ints .i64 v32.2.2.2.2.2]))], 1⟩ : St)) (fun (x54 : Int) e st => e = .exit 0 ∧ gc 0 [6] st = ⟨al .dead [(6, .vw [] (.int .i64 x54))], hl [], 0⟩) hw71 ?_) ?_
  ·rintro ⟨x47, x48⟩ o h
   refine wp_gc ?_
   refine wp_seq ?_
   refine wp_reg (nx' := 17) rfl (ev_v rfl rfl (ev_nil)) (seqQ_n (?_))
   refine wp_seq ?_
   refine wp_gc ?_
   rcases its h with ⟨hc61, h⟩ | ⟨hc61, h⟩
   ·refine wp_ct rfl hc61 ?_
    refine wp_skip (gcQ_n (gc_to [0] (e := [(6, .vw [] (.int .i64 x47)), (18, .ref 0 [.f 5] 1 0 (List.length v32.2.2.2.2.2)), (19, .vw [] (.int .i64 ((List.length v32.2.2.2.2.2 : Int)))), (20, .vw [] (.int .i64 x48))]) (ts := [some (.ptr (.agg [.int .i64 v32.1, .bool v32.2.1, .sh (.rows 3 (List.map e0 v32.2.2.1)), .ints .i64 v32.2.2.2.1, .ints .i64 v32.2.2.2.2.1, .ints .i64 v32.2.2.2.2.2]))]) (n := 1) rfl rfl rfl rfl) (seqQ_n (?_)))
    refine wp_seq ?_
    refine wp_gc ?_
    refine wp_gc ?_
    refine wp_blk ?_
    refine wp_seq ?_
    obtain ⟨v66, hv66, h⟩ := bs h
    refine wp_reg (nx' := 49) rfl (ev_den (.ptr 0 [.f 5, .e (Int.toNat x48)] none) rfl (d_idx_r (p := [.f 5]) rfl rfl hv66) (ev_v rfl (d_ld_p rfl (rget_of rfl (get_f rfl (get_i hv66))) rfl) (ev_v rfl rfl (ev_nil)))) (seqQ_n (?_))
    obtain ⟨v67, hv67, h⟩ := bs h
    refine wp_reg (nx' := 113) rfl (ev_v rfl rfl (ev_v rfl rfl (ev_call0 [(.vw _ _), (.vw _ _)] rfl (call_ok (rs := []) (rd := []) rfl rfl rfl rfl (argL_cons rfl (argL_cons rfl (argL_nil))) rfl rfl (spec_l1Most_ok hv67) rfl rfl rfl rfl rfl) (ev_v rfl rfl (ev_nil))))) (blkQ_n (gcQ_n (gc_to [0] (e := [(6, .vw [] (.int .i64 v67)), (18, .ref 0 [.f 5] 1 0 (List.length v32.2.2.2.2.2)), (19, .vw [] (.int .i64 ((List.length v32.2.2.2.2.2 : Int)))), (20, .vw [] (.int .i64 x48))]) (ts := [some (.ptr (.agg [.int .i64 v32.1, .bool v32.2.1, .sh (.rows 3 (List.map e0 v32.2.2.1)), .ints .i64 v32.2.2.2.1, .ints .i64 v32.2.2.2.2.1, .ints .i64 v32.2.2.2.2.2]))]) (n := 1) rfl rfl rfl rfl) (gcQ_n (gc_to [0] (e := [(6, .vw [] (.int .i64 v67)), (18, .ref 0 [.f 5] 1 0 (List.length v32.2.2.2.2.2)), (19, .vw [] (.int .i64 ((List.length v32.2.2.2.2.2 : Int)))), (20, .vw [] (.int .i64 x48))]) (ts := [some (.ptr (.agg [.int .i64 v32.1, .bool v32.2.1, .sh (.rows 3 (List.map e0 v32.2.2.1)), .ints .i64 v32.2.2.2.1, .ints .i64 v32.2.2.2.2.1, .ints .i64 v32.2.2.2.2.2]))]) (n := 1) rfl rfl rfl rfl) (seqQ_n (?_)))))
    replace h := Option.some.inj h
    subst h
    exact wp_reg (nx' := 33) rfl (ev_v rfl rfl (ev_v rfl rfl (ev_nil))) (gcQ_n (gc_to [0] (e := [(6, .vw [] (.int .i64 v67)), (18, .ref 0 [.f 5] 1 0 (List.length v32.2.2.2.2.2)), (19, .vw [] (.int .i64 ((List.length v32.2.2.2.2.2 : Int)))), (20, .vw [] (.int .i64 ((w64 (x48 + (1 : Int))))))]) (ts := [some (.ptr (.agg [.int .i64 v32.1, .bool v32.2.1, .sh (.rows 3 (List.map e0 v32.2.2.1)), .ints .i64 v32.2.2.2.1, .ints .i64 v32.2.2.2.2.1, .ints .i64 v32.2.2.2.2.2]))]) (n := 1) rfl rfl rfl rfl) (loopQ_n rfl))
   ·refine wp_cf rfl hc61 ?_
    replace h := Option.some.inj h
    subst h
    exact wp_exit (gcQ_e (seqQ_e (gcQ_e (loopQ_e (And.intro rfl (gc_to [] (e := [(6, .vw [] (.int .i64 x47))]) (ts := []) (n := 0) rfl rfl rfl rfl))))))
  ·intro e st71 hg71
   obtain ⟨rfl, hg71⟩ := hg71
   refine blkQ_h (gcQ_n hg71 (gcQ_n (gc_to [] (e := [(6, .vw [] (.int .i64 x54))]) (ts := []) (n := 0) rfl rfl rfl rfl) (seqQ_n (?_))))
   refine wp_seq ?_
   refine wp_reg (nx' := 48) rfl (ev_v rfl rfl (ev_v rfl rfl (ev_v rfl rfl (ev_nil)))) (seqQ_n (?_))
   replace h := Option.some.inj h
   subst h
   exact wp_ret (qf_r ((outs_ok (vs := [(.vw _ _), (.vw _ _)]) rfl (absW_cons rfl rfl (absW_cons rfl rfl (absW_nil))) rfl rfl)))
noncomputable def impl_SlotBound_s1 (p1 : List (Int × Int × Int)) : (Int × Int) → Option ((Int × Int) ⊕ Int) := fun (x36, x37) =>
if (decide (x37 < (List.length p1 : Int))) = true then
(at? p1 x37).bind fun v51 =>
some (.inl ((if v51.1 > x36 then v51.1 else x36), (w64 (x37 + (1 : Int)))))
else
some (.inr x36)
noncomputable def impl_SlotBound_l1 (p1 : List (Int × Int × Int)) : (Int × Int) → Option Int := iter (impl_SlotBound_s1 p1)
/-- loop.example/g01176/impl.SlotBound -/
noncomputable def impl_SlotBound (p0 : Int × Bool) (p1 : List (Int × Int × Int)) : Option ((Int × Bool)) :=
(impl_isSlotted p0 p1).bind fun v14 =>
if (!v14) = true then
some ((0 : Int), false)
else
(impl_SlotBound_l1 p1 ((0 : Int), (0 : Int))).bind fun x42 =>
some ((w64 (x42 + (w64 ((w64 ((2 : Int) * p0.1)) * (List.length p1 : Int))))), true)
theorem impl_SlotBound_ok {p0 : Int × Bool} {p1 : List (Int × Int × Int)} {o : (Int × Bool)} (h : impl_SlotBound p0 p1 = some o) : RN 27 [.agg [.int .i64 p0.1, .bool p0.2], .rows 3 (List.map e0 p1)] [] = some (.tup [.int .i64 o.1, .bool o.2], []) := by
 refine fn_run (o := o) (nr := 0) (F := k27) (st := ⟨entry 0 [.agg [.vw [] (.int .i64 p0.1), .vw [] (.bool p0.2)], .vw [] (.rows 3 (List.map e0 p1))], fun n => ([] : List T)[n]?, 0⟩) (fun (o : (Int × Bool)) => (.tup [.int .i64 o.1, .bool o.2], [])) rfl fns_27 rfl rfl rfl ?_
 refine wp_seq ?_
 refine wp_reg (nx' := 48) rfl (ev_wr rfl (w_box (sv := (.agg [(.vw _ _), (.vw _ _)])) rfl rfl (absW_cons rfl rfl (absW_cons rfl rfl (absW_nil)))) (ev_v rfl rfl (ev_v rfl rfl (ev_nil)))) (seqQ_n (?_))
 refine wp_seq ?_
 refine wp_gc ?_
 refine wp_seq ?_
 obtain ⟨v14, hv14, h⟩ := bs h
 refine wp_reg (nx' := 112) rfl (ev_den (.agg [(.vw _ _), (.vw _ _)]) rfl (d_ld_os rfl (rget_of rfl (get_nil)) rfl (cells_cons rfl (cells_cons rfl (cells_nil)))) (ev_v rfl rfl (ev_call0 [(.agg [(.vw _ _), (.vw _ _)]), (.vw _ _)] rfl (call_ok (rs := []) (rd := []) rfl rfl rfl rfl (argL_cons (argT_a (argL_cons rfl (argL_cons rfl (argL_nil)))) (argL_cons rfl (argL_nil))) rfl rfl (impl_isSlotted_ok hv14) rfl rfl rfl rfl rfl) (ev_v rfl rfl (ev_nil))))) (seqQ_n (?_))
 rcases its h with ⟨hc15, h⟩ | ⟨hc15, h⟩
 ·refine wp_ct rfl hc15 ?_
  refine wp_seq ?_
  refine wp_reg (nx' := 144) rfl (ev_v rfl rfl (ev_v rfl rfl (ev_nil))) (seqQ_n (?_))
  replace h := Option.some.inj h
  subst h
  exact wp_ret (gcQ_r (seqQ_r (qf_r ((outs_ok (vs := [(.vw _ _), (.vw _ _)]) rfl (absW_cons rfl rfl (absW_cons rfl rfl (absW_nil))) rfl rfl)))))
 ·refine wp_cf rfl hc15 ?_
  refine wp_skip (gcQ_n (gc_to [0] (e := [(1, .vw [] (.rows 3 (List.map e0 p1))), (2, .ptr 0 [] (some 0))]) (ts := [some (.ptr (.agg [.int .i64 p0.1, .bool p0.2]))]) (n := 1) rfl rfl rfl rfl) (seqQ_n (?_)))
  refine wp_seq ?_
  refine wp_reg (nx' := 17) rfl (ev_v rfl rfl (ev_nil)) (seqQ_n (?_))
  refine wp_seq ?_
  refine wp_gc ?_
  refine wp_seq ?_
  refine wp_gc ?_
  refine wp_reg (nx' := 65) rfl (ev_v rfl rfl (ev_v rfl (d_len_vr (e := e0) rfl) (ev_v rfl rfl (ev_nil)))) (gcQ_n (gc_to [0] (e := [(1, .vw [] (.rows 3 (List.map e0 p1))), (2, .ptr 0 [] (some 0)), (6, .vw [] (.int .i64 ((0 : Int)))), (13, .vw [] (.rows 3 (List.map e0 p1))), (14, .vw [] (.int .i64 ((List.length p1 : Int)))), (15, .vw [] (.int .i64 ((0 : Int))))]) (ts := [some (.ptr (.agg [.int .i64 p0.1, .bool p0.2]))]) (n := 1) rfl rfl rfl rfl) (seqQ_n (?_)))
  refine wp_gc ?_
  refine wp_blk ?_
  obtain ⟨x42, hw55, h⟩ := bs h
  refine wp_mono (wp_loop (fun ((x36, x37) : Int × Int) => (⟨al .dead [(1, .vw [] (.rows 3 (List.map e0 p1))), (2, .ptr 0 [] (some 0)), (6, .vw [] (.int .i64 x36)), (13, .vw [] (.rows 3 (List.map e0 p1))), (14, .vw [] (.int .i64 ((List.length p1 : Int)))), (15, .vw [] (.int .i64 x37))], hl [some (.ptr (.agg [.int .i64 p0.1, .bool p0.2]))], 1⟩ : St)) (fun (x42 : Int) e st => e = .exit 0 ∧ gc 0 [1, 2, 6] st = ⟨al .dead [(1, .vw [] (.rows 3 (List.map e0 p1))), (2, .ptr 0 [] (some 0)), (6, .vw [] (.int .i64 x42))], hl [some (.ptr (.agg [.int .i64 p0.1, .bool p0.2]))], 1⟩) hw55 ?_) ?_
  ·rintro ⟨x36, x37⟩ o h
   refine wp_gc ?_
   refine wp_seq ?_
   refine wp_reg (nx' := 17) rfl (ev_v rfl rfl (ev_nil)) (seqQ_n (?_))
   refine wp_seq ?_
   refine wp_gc ?_
   rcases its h with ⟨hc48, h⟩ | ⟨hc48, h⟩
   ·refine wp_ct rfl hc48 ?_
    refine wp_skip (gcQ_n (gc_to [0] (e := [(1, .vw [] (.rows 3 (List.map e0 p1))), (2, .ptr 0 [] (some 0)), (6, .vw [] (.int .i64 x36)), (13, .vw [] (.rows 3 (List.map e0 p1))), (14, .vw [] (.int .i64 ((List.length p1 : Int)))), (15, .vw [] (.int .i64 x37))]) (ts := [some (.ptr (.agg [.int .i64 p0.1, .bool p0.2]))]) (n := 1) rfl rfl rfl rfl) (seqQ_n (?_)))
    refine wp_seq ?_
    refine wp_gc ?_
    refine wp_gc ?_
    refine wp_blk ?_
    refine wp_seq ?_
    obtain ⟨v51, hv51, h⟩ := bs h
    refine wp_reg (nx' := 65) rfl (ev_den (.pv _ _) rfl (d_idx_vr e0 rfl rfl hv51) (ev_den (.agg [(.vw _ _), (.vw _ _), (.vw _ _)]) rfl rfl (ev_new (.ptr 33 [] (some 0)) (.ptr (.agg [.int .i64 ((0 : Int)), .int .i64 ((0 : Int)), .int .i64 ((0 : Int))])) rfl rfl (ev_wr0 rfl (w_st_a rfl rfl rfl (stL_cons (st1_of rfl rfl rfl (get_f rfl (get_nil)) rfl (rput_p (put_f rfl (put_nil)))) rfl (stL_cons (st1_of rfl rfl rfl (get_f rfl (get_nil)) rfl (rput_p (put_f rfl (put_nil)))) rfl (stL_cons (st1_of rfl rfl rfl (get_f rfl (get_nil)) rfl (rput_p (put_f rfl (put_nil)))) rfl (stL_nil))))) (ev_nil))))) (seqQ_n (?_))
    refine wp_reg (nx' := 145) rfl (ev_v rfl rfl (ev_den (.ptr 33 [] (some 0)) rfl rfl (ev_v rfl (d_ld_o rfl (rget_of rfl (get_nil)) rfl rfl) (ev_v rfl rfl (ev_v rfl rfl (ev_nil)))))) (blkQ_n (gcQ_n (gc_to [0] (e := [(1, .vw [] (.rows 3 (List.map e0 p1))), (2, .ptr 0 [] (some 0)), (6, .vw [] (.int .i64 ((if v51.1 > x36 then v51.1 else x36)))), (13, .vw [] (.rows 3 (List.map e0 p1))), (14, .vw [] (.int .i64 ((List.length p1 : Int)))), (15, .vw [] (.int .i64 x37))]) (ts := [some (.ptr (.agg [.int .i64 p0.1, .bool p0.2]))]) (n := 1) rfl rfl rfl rfl) (gcQ_n (gc_to [0] (e := [(1, .vw [] (.rows 3 (List.map e0 p1))), (2, .ptr 0 [] (some 0)), (6, .vw [] (.int .i64 ((if v51.1 > x36 then v51.1 else x36)))), (13, .vw [] (.rows 3 (List.map e0 p1))), (14, .vw [] (.int .i64 ((List.length p1 : Int)))), (15, .vw [] (.int .i64 x37))]) (ts := [some (.ptr (.agg [.int .i64 p0.1, .bool p0.2]))]) (n := 1) rfl rfl rfl rfl) (seqQ_n (?_)))))
    replace h := Option.some.inj h
    subst h
    exact wp_reg (nx' := 33) rfl (ev_v rfl rfl (ev_v rfl rfl (ev_nil))) (gcQ_n (gc_to [0] (e := [(1, .vw [] (.rows 3 (List.map e0 p1))), (2, .ptr 0 [] (some 0)), (6, .vw [] (.int .i64 ((if v51.1 > x36 then v51.1 else x36)))), (13, .vw [] (.rows 3 (List.map e0 p1))), (14, .vw [] (.int .i64 ((List.length p1 : Int)))), (15, .vw [] (.int .i64 ((w64 (x37 + (1 : Int))))))]) (ts := [some (.ptr (.agg [.int .i64 p0.1, .bool p0.2]))]) (n := 1) rfl rfl rfl rfl) (loopQ_n rfl))
   ·refine wp_cf rfl hc48 ?_
    replace h := Option.some.inj h
    subst h
    exact wp_exit (gcQ_e (seqQ_e (gcQ_e (loopQ_e (And.intro rfl (gc_to [0] (e := [(1, .vw [] (.rows 3 (List.map e0 p1))), (2, .ptr 0 [] (some 0)), (6, .vw [] (.int .i64 x36))]) (ts := [some (.ptr (.agg [.int .i64 p0.1, .bool p0.2]))]) (n := 1) rfl rfl rfl rfl))))))
  ·intro e st55 hg55
   obtain ⟨rfl, hg55⟩ := hg55
   refine blkQ_h (gcQ_n hg55 (gcQ_n (gc_to [0] (e := [(1, .vw [] (.rows 3 (List.map e0 p1))), (2, .ptr 0 [] (some 0)), (6, .vw [] (.int .i64 x42))]) (ts := [some (.ptr (.agg [.int .i64 p0.1, .bool p0.2]))]) (n := 1) rfl rfl rfl rfl) (seqQ_n (?_))))
   refine wp_seq ?_
   refine wp_reg (nx' := 161) rfl (ev_v rfl rfl (ev_den (.ptr 0 [] (some 0)) rfl rfl (ev_v rfl (d_ld_o rfl (rget_of rfl (get_nil)) rfl rfl) (ev_v rfl rfl (ev_v rfl rfl (ev_v rfl (d_len_vr (e := e0) rfl) (ev_v rfl rfl (ev_v rfl rfl (ev_v rfl rfl (ev_v rfl rfl (ev_nil))))))))))) (seqQ_n (?_))
   replace h := Option.some.inj h
   subst h
   exact wp_ret (qf_r ((outs_ok (vs := [(.vw _ _), (.vw _ _)]) rfl (absW_cons rfl rfl (absW_cons rfl rfl (absW_nil))) rfl rfl)))
/-- loop.example/g01176/spec.SlotBound -/
noncomputable def spec_SlotBound (p0 : Int × Bool) (p1 : List (Int × Int × Int)) : Option ((Int × Bool)) :=
(spec_slAll p0 p1).bind fun v7 =>
if (!v7) = true then
some ((0 : Int), false)
else
if ((List.length p1 : Int) == (0 : Int)) = true then
some ((0 : Int), true)
else
(at? p1 ((w64 ((List.length p1 : Int) - (1 : Int))))).bind fun v11 =>
some ((w64 (v11.1 + (w64 ((w64 ((2 : Int) * p0.1)) * (List.length p1 : Int))))), true)
theorem spec_SlotBound_ok {p0 : Int × Bool} {p1 : List (Int × Int × Int)} {o : (Int × Bool)} (h : spec_SlotBound p0 p1 = some o) : RN 28 [.agg [.int .i64 p0.1, .bool p0.2], .rows 3 (List.map e0 p1)] [] = some (.tup [.int .i64 o.1, .bool o.2], []) := by
 refine fn_run (o := o) (nr := 0) (F := k28) (st := ⟨entry 0 [.agg [.vw [] (.int .i64 p0.1), .vw [] (.bool p0.2)], .vw [] (.rows 3 (List.map e0 p1))], fun n => ([] : List T)[n]?, 0⟩) (fun (o : (Int × Bool)) => (.tup [.int .i64 o.1, .bool o.2], [])) rfl fns_28 rfl rfl rfl ?_
 refine wp_seq ?_
 refine wp_reg (nx' := 48) rfl (ev_wr rfl (w_box (sv := (.agg [(.vw _ _), (.vw _ _)])) rfl rfl (absW_cons rfl rfl (absW_cons rfl rfl (absW_nil)))) (ev_v rfl rfl (ev_v rfl rfl (ev_nil)))) (seqQ_n (?_))
 refine wp_seq ?_
 refine wp_gc ?_
 refine wp_seq ?_
 obtain ⟨v7, hv7, h⟩ := bs h
 refine wp_reg (nx' := 112) rfl (ev_den (.agg [(.vw _ _), (.vw _ _)]) rfl (d_ld_os rfl (rget_of rfl (get_nil)) rfl (cells_cons rfl (cells_cons rfl (cells_nil)))) (ev_v rfl rfl (ev_call0 [(.agg [(.vw _ _), (.vw _ _)]), (.vw _ _)] rfl (call_ok (rs := []) (rd := []) rfl rfl rfl rfl (argL_cons (argT_a (argL_cons rfl (argL_cons rfl (argL_nil)))) (argL_cons rfl (argL_nil))) rfl rfl (spec_slAll_ok hv7) rfl rfl rfl rfl rfl) (ev_v rfl rfl (ev_nil))))) (seqQ_n (?_))
 rcases its h with ⟨hc8, h⟩ | ⟨hc8, h⟩
 ·refine wp_ct rfl hc8 ?_
  refine wp_seq ?_
  refine wp_reg (nx' := 144) rfl (ev_v rfl rfl (ev_v rfl rfl (ev_nil))) (seqQ_n (?_))
  replace h := Option.some.inj h
  subst h
  exact wp_ret (gcQ_r (seqQ_r (qf_r ((outs_ok (vs := [(.vw _ _), (.vw _ _)]) rfl (absW_cons rfl rfl (absW_cons rfl rfl (absW_nil))) rfl rfl)))))
 ·refine wp_cf rfl hc8 ?_
  refine wp_skip (gcQ_n (gc_to [0] (e := [(1, .vw [] (.rows 3 (List.map e0 p1))), (2, .ptr 0 [] (some 0))]) (ts := [some (.ptr (.agg [.int .i64 p0.1, .bool p0.2]))]) (n := 1) rfl rfl rfl rfl) (seqQ_n (?_)))
  refine wp_seq ?_
  refine wp_gc ?_
  refine wp_seq ?_
  refine wp_reg (nx' := 49) rfl (ev_v rfl rfl (ev_v rfl (d_len_vr (e := e0) rfl) (ev_v rfl rfl (ev_nil)))) (seqQ_n (?_))
  rcases its h with ⟨hc10, h⟩ | ⟨hc10, h⟩
  ·refine wp_ct rfl hc10 ?_
   refine wp_seq ?_
   refine wp_reg (nx' := 81) rfl (ev_v rfl rfl (ev_v rfl rfl (ev_nil))) (seqQ_n (?_))
   replace h := Option.some.inj h
   subst h
   exact wp_ret (gcQ_r (seqQ_r (qf_r ((outs_ok (vs := [(.vw _ _), (.vw _ _)]) rfl (absW_cons rfl rfl (absW_cons rfl rfl (absW_nil))) rfl rfl)))))
  ·refine wp_cf rfl hc10 ?_
   refine wp_skip (gcQ_n (gc_to [0] (e := [(1, .vw [] (.rows 3 (List.map e0 p1))), (2, .ptr 0 [] (some 0))]) (ts := [some (.ptr (.agg [.int .i64 p0.1, .bool p0.2]))]) (n := 1) rfl rfl rfl rfl) (seqQ_n (?_)))
   refine wp_seq ?_
   obtain ⟨v11, hv11, h⟩ := bs h
   refine wp_reg (nx' := 257) rfl (ev_v rfl rfl (ev_v rfl rfl (ev_v rfl (d_len_vr (e := e0) rfl) (ev_v rfl rfl (ev_den (.pv _ _) rfl (d_idx_vr e0 rfl rfl hv11) (ev_den (.pv _ _) rfl rfl (ev_v rfl rfl (ev_den (.ptr 0 [] (some 0)) rfl rfl (ev_v rfl (d_ld_o rfl (rget_of rfl (get_nil)) rfl rfl) (ev_v rfl rfl (ev_v rfl rfl (ev_v rfl (d_len_vr (e := e0) rfl) (ev_v rfl rfl (ev_v rfl rfl (ev_v rfl rfl (ev_v rfl rfl (ev_nil))))))))))))))))) (seqQ_n (?_))
   replace h := Option.some.inj h
   subst h
   exact wp_ret (qf_r ((outs_ok (vs := [(.vw _ _), (.vw _ _)]) rfl (absW_cons rfl rfl (absW_cons rfl rfl (absW_nil))) rfl rfl)))
noncomputable def impl_LoadOfLinks_s2 (p0 : Int × Bool) (v174 : Int × Int × Int) : ((List Int) × Int) → Option (((List Int) × Int) ⊕ ((List Int))) := fun (x189, x190) =>
if (x190 != v174.2.2) = true then
(at? x189 x190).bind fun v206 =>
(nz? p0.1).bind fun u207 =>
some (.inl ((List.set x189 (Int.toNat x190) ((w64 (v206 + (1 : Int))))), (Int.tmod (w64 (x190 + (1 : Int))) p0.1)))
else
some (.inr x189)
noncomputable def impl_LoadOfLinks_l2 (p0 : Int × Bool) (v174 : Int × Int × Int) : ((List Int) × Int) → Option ((List Int)) := iter (impl_LoadOfLinks_s2 p0 v174)
noncomputable def impl_LoadOfLinks_s1 (p0 : Int × Bool) (p1 : List (Int × Int × Int)) : ((List Int) × Int) → Option (((List Int) × Int) ⊕ ((List Int))) := fun (x115, x116) =>
if (decide (x116 < (List.length p1 : Int))) = true then
(at? p1 x116).bind fun v174 =>
(impl_LoadOfLinks_l2 p0 v174 (x115, v174.2.1)).bind fun x196 =>
some (.inl (x196, (w64 (x116 + (1 : Int)))))
else
some (.inr x115)
noncomputable def impl_LoadOfLinks_l1 (p0 : Int × Bool) (p1 : List (Int × Int × Int)) : ((List Int) × Int) → Option ((List Int)) := iter (impl_LoadOfLinks_s1 p0 p1)
/-- loop.example/g01176/impl.LoadOfLinks -/
noncomputable def impl_LoadOfLinks (p0 : Int × Bool) (p1 : List (Int × Int × Int)) : Option (((List Int) × Bool)) :=
(impl_isSlotted p0 p1).bind fun v37 =>
if (!v37) = true then
some ([], false)
else
(mk? p0.1 p0.1).bind fun u39 =>
(impl_LoadOfLinks_l1 p0 p1 ((List.replicate (Int.toNat p0.1) (0 : Int)), (0 : Int))).bind fun x132 =>
some (x132, true)
theorem impl_LoadOfLinks_ok {p0 : Int × Bool} {p1 : List (Int × Int × Int)} {o : ((List Int) × Bool)} (h : impl_LoadOfLinks p0 p1 = some o) : RN 29 [.agg [.int .i64 p0.1, .bool p0.2], .rows 3 (List.map e0 p1)] [] = some (.tup [.ints .i64 o.1, .bool o.2], []) := by
 refine fn_run (o := o) (nr := 0) (F := k29) (st := ⟨entry 0 [.agg [.vw [] (.int .i64 p0.1), .vw [] (.bool p0.2)], .vw [] (.rows 3 (List.map e0 p1))], fun n => ([] : List T)[n]?, 0⟩) (fun (o : ((List Int) × Bool)) => (.tup [.ints .i64 o.1, .bool o.2], [])) rfl fns_29 rfl rfl rfl ?_
 refine wp_seq ?_
 refine wp_reg (nx' := 48) rfl (ev_wr rfl (w_box (sv := (.agg [(.vw _ _), (.vw _ _)])) rfl rfl (absW_cons rfl rfl (absW_cons rfl rfl (absW_nil)))) (ev_new (.ref 16 [] 1 0 0) (.ints .i64 []) rfl rfl (ev_v rfl rfl (ev_nil)))) (seqQ_n (?_))
 refine wp_seq ?_
 refine wp_gc ?_
 refine wp_seq ?_
 obtain ⟨v37, hv37, h⟩ := bs h
 refine wp_reg (nx' := 112) rfl (ev_den (.agg [(.vw _ _), (.vw _ _)]) rfl (d_ld_os rfl (rget_of rfl (get_nil)) rfl (cells_cons rfl (cells_cons rfl (cells_nil)))) (ev_v rfl rfl (ev_call0 [(.agg [(.vw _ _), (.vw _ _)]), (.vw _ _)] rfl (call_ok (rs := []) (rd := []) rfl rfl rfl rfl (argL_cons (argT_a (argL_cons rfl (argL_cons rfl (argL_nil)))) (argL_cons rfl (argL_nil))) rfl rfl (impl_isSlotted_ok hv37) rfl rfl rfl rfl rfl) (ev_v rfl rfl (ev_nil))))) (seqQ_n (?_))
 rcases its h with ⟨hc38, h⟩ | ⟨hc38, h⟩
 ·refine wp_ct rfl hc38 ?_
  refine wp_seq ?_
  refine wp_reg (nx' := 144) rfl (ev_new (.ref 112 [] 1 0 0) (.ints .i64 []) rfl rfl (ev_v rfl rfl (ev_nil))) (seqQ_n (?_))
  replace h := Option.some.inj h
  subst h
  exact wp_ret (gcQ_r (seqQ_r (qf_r ((outs_ok (vs := [(.ref 112 _ _ _ _), (.vw _ _)]) rfl (absW_cons (retT_ref (abs_ref rfl sub_i)) rfl (absW_cons rfl rfl (absW_nil))) rfl rfl)))))
 ·refine wp_cf rfl hc38 ?_
  refine wp_skip (gcQ_n (gc_to [0] (e := [(1, .vw [] (.rows 3 (List.map e0 p1))), (2, .ptr 0 [] (some 0))]) (ts := [some (.ptr (.agg [.int .i64 p0.1, .bool p0.2]))]) (n := 1) rfl rfl rfl rfl) (seqQ_n (?_)))
  refine wp_seq ?_
  obtain ⟨u39, hu39, h⟩ := bs h
  refine wp_reg (nx' := 65) rfl (ev_den (.ptr 0 [] (some 0)) rfl rfl (ev_v rfl (d_ld_o rfl (rget_of rfl (get_nil)) rfl rfl) (ev_new (.ref 33 [] 1 0 (List.length ((List.replicate (Int.toNat p0.1) (0 : Int))))) (.ints .i64 ((List.replicate (Int.toNat p0.1) (0 : Int)))) rfl (d_mks_i rfl rfl hu39) (ev_den (.ref 33 _ _ _ _) rfl rfl (ev_nil))))) (seqQ_n (?_))
  refine wp_seq ?_
  refine wp_gc ?_
  refine wp_seq ?_
  refine wp_gc ?_
  refine wp_reg (nx' := 113) rfl (ev_v rfl rfl (ev_v rfl (d_len_vr (e := e0) rfl) (ev_v rfl rfl (ev_nil)))) (gcQ_n (gc_to [0, 33] (e := [(2, .ptr 0 [] (some 0)), (6, .ref 1 [] 1 0 (List.length ((List.replicate (Int.toNat p0.1) (0 : Int))))), (17, .vw [] (.rows 3 (List.map e0 p1))), (18, .vw [] (.int .i64 ((List.length p1 : Int)))), (19, .vw [] (.int .i64 ((0 : Int))))]) (ts := [some (.ptr (.agg [.int .i64 p0.1, .bool p0.2])), some (.ints .i64 ((List.replicate (Int.toNat p0.1) (0 : Int))))]) (n := 2) rfl rfl rfl rfl) (seqQ_n (?_)))
  refine wp_gc ?_
  refine wp_blk ?_
  obtain ⟨x132, hw215, h⟩ := bs h
  refine wp_mono (wp_loop (fun ((x115, x116) : (List Int) × Int) => (⟨al .dead [(2, .ptr 0 [] (some 0)), (6, .ref 1 [] 1 0 (List.length x115)), (17, .vw [] (.rows 3 (List.map e0 p1))), (18, .vw [] (.int .i64 ((List.length p1 : Int)))), (19, .vw [] (.int .i64 x116))], hl [some (.ptr (.agg [.int .i64 p0.1, .bool p0.2])), some (.ints .i64 x115)], 2⟩ : St)) (fun (x132 : (List Int)) e st => e = .exit 0 ∧ gc 0 [6] st = ⟨al .dead [(6, .ref 0 [] 1 0 (List.length x132))], hl [some (.ints .i64 x132)], 1⟩) hw215 ?_) ?_
  ·rintro ⟨x115, x116⟩ o h
   refine wp_gc ?_
   refine wp_seq ?_
   refine wp_reg (nx' := 18) rfl (ev_v rfl rfl (ev_nil)) (seqQ_n (?_))
   refine wp_seq ?_
   refine wp_gc ?_
   rcases its h with ⟨hc149, h⟩ | ⟨hc149, h⟩
   ·refine wp_ct rfl hc149 ?_
    refine wp_skip (gcQ_n (gc_to [0, 1] (e := [(2, .ptr 0 [] (some 0)), (6, .ref 1 [] 1 0 (List.length x115)), (17, .vw [] (.rows 3 (List.map e0 p1))), (18, .vw [] (.int .i64 ((List.length p1 : Int)))), (19, .vw [] (.int .i64 x116))]) (ts := [some (.ptr (.agg [.int .i64 p0.1, .bool p0.2])), some (.ints .i64 x115)]) (n := 2) rfl rfl rfl rfl) (seqQ_n (?_)))
    refine wp_seq ?_
    refine wp_gc ?_
    refine wp_gc ?_
    refine wp_blk ?_
    refine wp_seq ?_
    obtain ⟨v174, hv174, h⟩ := bs h
    refine wp_reg (nx' := 66) rfl (ev_den (.pv _ _) rfl (d_idx_vr e0 rfl rfl hv174) (ev_den (.agg [(.vw _ _), (.vw _ _), (.vw _ _)]) rfl rfl (ev_new (.ptr 34 [] (some 0)) (.ptr (.agg [.int .i64 ((0 : Int)), .int .i64 ((0 : Int)), .int .i64 ((0 : Int))])) rfl rfl (ev_wr0 rfl (w_st_a rfl rfl rfl (stL_cons (st1_of rfl rfl rfl (get_f rfl (get_nil)) rfl (rput_p (put_f rfl (put_nil)))) rfl (stL_cons (st1_of rfl rfl rfl (get_f rfl (get_nil)) rfl (rput_p (put_f rfl (put_nil)))) rfl (stL_cons (st1_of rfl rfl rfl (get_f rfl (get_nil)) rfl (rput_p (put_f rfl (put_nil)))) rfl (stL_nil))))) (ev_nil))))) (seqQ_n (?_))
    refine wp_seq ?_
    refine wp_gc ?_
    refine wp_reg (nx' := 114) rfl (ev_den (.ptr 34 [] (some 1)) rfl rfl (ev_v rfl (d_ld_o rfl (rget_of rfl (get_nil)) rfl rfl) (ev_v rfl rfl (ev_nil)))) (gcQ_n (gc_to [0, 1, 34] (e := [(2, .ptr 0 [] (some 0)), (6, .ref 1 [] 1 0 (List.length x115)), (8, .ptr 2 [] (some 0)), (9, .vw [] (.int .i64 v174.2.1)), (17, .vw [] (.rows 3 (List.map e0 p1))), (18, .vw [] (.int .i64 ((List.length p1 : Int)))), (19, .vw [] (.int .i64 x116))]) (ts := [some (.ptr (.agg [.int .i64 p0.1, .bool p0.2])), some (.ints .i64 x115), some (.ptr (.agg [.int .i64 v174.1, .int .i64 v174.2.1, .int .i64 v174.2.2]))]) (n := 3) rfl rfl rfl rfl) (seqQ_n (?_)))
    refine wp_gc ?_
    refine wp_blk ?_
    obtain ⟨x196, hw211, h⟩ := bs h
    refine wp_mono (wp_loop (fun ((x189, x190) : (List Int) × Int) => (⟨al .dead [(2, .ptr 0 [] (some 0)), (6, .ref 1 [] 1 0 (List.length x189)), (8, .ptr 2 [] (some 0)), (9, .vw [] (.int .i64 x190)), (17, .vw [] (.rows 3 (List.map e0 p1))), (18, .vw [] (.int .i64 ((List.length p1 : Int)))), (19, .vw [] (.int .i64 x116))], hl [some (.ptr (.agg [.int .i64 p0.1, .bool p0.2])), some (.ints .i64 x189), some (.ptr (.agg [.int .i64 v174.1, .int .i64 v174.2.1, .int .i64 v174.2.2]))], 3⟩ : St)) (fun (x196 : (List Int)) e st => e = .exit 2 ∧ gc 0 [2, 6, 17, 18, 19] st = ⟨al .dead [(2, .ptr 0 [] (some 0)), (6, .ref 1 [] 1 0 (List.length x196)), (17, .vw [] (.rows 3 (List.map e0 p1))), (18, .vw [] (.int .i64 ((List.length p1 : Int)))), (19, .vw [] (.int .i64 x116))], hl [some (.ptr (.agg [.int .i64 p0.1, .bool p0.2])), some (.ints .i64 x196)], 2⟩) hw211 ?_) ?_
    ·rintro ⟨x189, x190⟩ o h
     refine wp_gc ?_
     refine wp_seq ?_
     refine wp_gc ?_
     refine wp_seq ?_
     refine wp_reg (nx' := 67) rfl (ev_v rfl rfl (ev_den (.ptr 2 [] (some 2)) rfl rfl (ev_v rfl (d_ld_o rfl (rget_of rfl (get_nil)) rfl rfl) (ev_v rfl rfl (ev_nil))))) (seqQ_n (?_))
     rcases its h with ⟨hc203, h⟩ | ⟨hc203, h⟩
     ·refine wp_ct rfl hc203 ?_
      refine wp_skip (gcQ_n (gc_to [0, 1, 2] (e := [(2, .ptr 0 [] (some 0)), (6, .ref 1 [] 1 0 (List.length x189)), (8, .ptr 2 [] (some 0)), (9, .vw [] (.int .i64 x190)), (17, .vw [] (.rows 3 (List.map e0 p1))), (18, .vw [] (.int .i64 ((List.length p1 : Int)))), (19, .vw [] (.int .i64 x116))]) (ts := [some (.ptr (.agg [.int .i64 p0.1, .bool p0.2])), some (.ints .i64 x189), some (.ptr (.agg [.int .i64 v174.1, .int .i64 v174.2.1, .int .i64 v174.2.2]))]) (n := 3) rfl rfl rfl rfl) (seqQ_n (?_)))
      refine wp_seq ?_
      refine wp_gc ?_
      refine wp_gc ?_
      refine wp_blk ?_
      obtain ⟨v206, hv206, h⟩ := bs h
      refine wp_reg (nx' := 115) rfl (ev_den (.ref 1 _ _ _ _) rfl rfl (ev_v rfl rfl (ev_den (.ptr 1 [.e (Int.toNat x190)] none) rfl (d_idx_r (p := []) rfl rfl hv206) (ev_v rfl (d_ld_p rfl (rget_of rfl (get_i hv206)) rfl) (ev_v rfl rfl (ev_den (.ptr 1 [.e (Int.toNat x190)] none) rfl (d_idx_r (p := []) rfl rfl hv206) (ev_wr0 rfl (w_st_p rfl (st1_of rfl rfl rfl (get_i hv206) rfl (rput_i (put_i hv206)))) (ev_relen (b := (List.length ((List.set x189 (Int.toNat x190) ((w64 (v206 + (1 : Int)))))))) 6 rfl List.length_set.symm (ev_nil))))))))) (blkQ_n (gcQ_n (gc_to [0, 1, 2] (e := [(2, .ptr 0 [] (some 0)), (6, .ref 1 [] 1 0 (List.length ((List.set x189 (Int.toNat x190) ((w64 (v206 + (1 : Int)))))))), (8, .ptr 2 [] (some 0)), (9, .vw [] (.int .i64 x190)), (17, .vw [] (.rows 3 (List.map e0 p1))), (18, .vw [] (.int .i64 ((List.length p1 : Int)))), (19, .vw [] (.int .i64 x116))]) (ts := [some (.ptr (.agg [.int .i64 p0.1, .bool p0.2])), some (.ints .i64 ((List.set x189 (Int.toNat x190) ((w64 (v206 + (1 : Int))))))), some (.ptr (.agg [.int .i64 v174.1, .int .i64 v174.2.1, .int .i64 v174.2.2]))]) (n := 3) rfl rfl rfl rfl) (gcQ_n (gc_to [0, 1, 2] (e := [(2, .ptr 0 [] (some 0)), (6, .ref 1 [] 1 0 (List.length ((List.set x189 (Int.toNat x190) ((w64 (v206 + (1 : Int)))))))), (8, .ptr 2 [] (some 0)), (9, .vw [] (.int .i64 x190)), (17, .vw [] (.rows 3 (List.map e0 p1))), (18, .vw [] (.int .i64 ((List.length p1 : Int)))), (19, .vw [] (.int .i64 x116))]) (ts := [some (.ptr (.agg [.int .i64 p0.1, .bool p0.2])), some (.ints .i64 ((List.set x189 (Int.toNat x190) ((w64 (v206 + (1 : Int))))))), some (.ptr (.agg [.int .i64 v174.1, .int .i64 v174.2.1, .int .i64 v174.2.2]))]) (n := 3) rfl rfl rfl rfl) (seqQ_n (?_)))))
      obtain ⟨u207, hu207, h⟩ := bs h
      replace h := Option.some.inj h
      subst h
      exact wp_reg (nx' := 99) rfl (ev_v rfl rfl (ev_v rfl rfl (ev_den (.ptr 0 [] (some 0)) rfl rfl (ev_v rfl (d_ld_o rfl (rget_of rfl (get_nil)) rfl rfl) (ev_v rfl (d_rem rfl rfl hu207) (ev_v rfl rfl (ev_nil))))))) (gcQ_n (gc_to [0, 1, 2] (e := [(2, .ptr 0 [] (some 0)), (6, .ref 1 [] 1 0 (List.length ((List.set x189 (Int.toNat x190) ((w64 (v206 + (1 : Int)))))))), (8, .ptr 2 [] (some 0)), (9, .vw [] (.int .i64 ((Int.tmod (w64 (x190 + (1 : Int))) p0.1)))), (17, .vw [] (.rows 3 (List.map e0 p1))), (18, .vw [] (.int .i64 ((List.length p1 : Int)))), (19, .vw [] (.int .i64 x116))]) (ts := [some (.ptr (.agg [.int .i64 p0.1, .bool p0.2])), some (.ints .i64 ((List.set x189 (Int.toNat x190) ((w64 (v206 + (1 : Int))))))), some (.ptr (.agg [.int .i64 v174.1, .int .i64 v174.2.1, .int .i64 v174.2.2]))]) (n := 3) rfl rfl rfl rfl) (loopQ_n rfl))
     ·refine wp_cf rfl hc203 ?_
      replace h := Option.some.inj h
      subst h
      exact wp_exit (gcQ_e (seqQ_e (gcQ_e (loopQ_e (And.intro rfl (gc_to [0, 1] (e := [(2, .ptr 0 [] (some 0)), (6, .ref 1 [] 1 0 (List.length x189)), (17, .vw [] (.rows 3 (List.map e0 p1))), (18, .vw [] (.int .i64 ((List.length p1 : Int)))), (19, .vw [] (.int .i64 x116))]) (ts := [some (.ptr (.agg [.int .i64 p0.1, .bool p0.2])), some (.ints .i64 x189)]) (n := 2) rfl rfl rfl rfl))))))
    ·intro e st211 hg211
     obtain ⟨rfl, hg211⟩ := hg211
     refine blkQ_h (gcQ_n hg211 (blkQ_n (gcQ_n (gc_to [0, 1] (e := [(2, .ptr 0 [] (some 0)), (6, .ref 1 [] 1 0 (List.length x196)), (17, .vw [] (.rows 3 (List.map e0 p1))), (18, .vw [] (.int .i64 ((List.length p1 : Int)))), (19, .vw [] (.int .i64 x116))]) (ts := [some (.ptr (.agg [.int .i64 p0.1, .bool p0.2])), some (.ints .i64 x196)]) (n := 2) rfl rfl rfl rfl) (gcQ_n (gc_to [0, 1] (e := [(2, .ptr 0 [] (some 0)), (6, .ref 1 [] 1 0 (List.length x196)), (17, .vw [] (.rows 3 (List.map e0 p1))), (18, .vw [] (.int .i64 ((List.length p1 : Int)))), (19, .vw [] (.int .i64 x116))]) (ts := [some (.ptr (.agg [.int .i64 p0.1, .bool p0.2])), some (.ints .i64 x196)]) (n := 2) rfl rfl rfl rfl) (seqQ_n (?_))))))
     replace h := Option.some.inj h
     subst h
     exact wp_reg (nx' := 34) rfl (ev_v rfl rfl (ev_v rfl rfl (ev_nil))) (gcQ_n (gc_to [0, 1] (e := [(2, .ptr 0 [] (some 0)), (6, .ref 1 [] 1 0 (List.length x196)), (17, .vw [] (.rows 3 (List.map e0 p1))), (18, .vw [] (.int .i64 ((List.length p1 : Int)))), (19, .vw [] (.int .i64 ((w64 (x116 + (1 : Int))))))]) (ts := [some (.ptr (.agg [.int .i64 p0.1, .bool p0.2])), some (.ints .i64 x196)]) (n := 2) rfl rfl rfl rfl) (loopQ_n rfl))
   ·refine wp_cf rfl hc149 ?_
    replace h := Option.some.inj h
    subst h
    exact wp_exit (gcQ_e (seqQ_e (gcQ_e (loopQ_e (And.intro rfl (gc_to [1] (e := [(6, .ref 0 [] 1 0 (List.length x115))]) (ts := [some (.ints .i64 x115)]) (n := 1) rfl rfl rfl rfl))))))
  ·intro e st215 hg215
   obtain ⟨rfl, hg215⟩ := hg215
   refine blkQ_h (gcQ_n hg215 (gcQ_n (gc_to [0] (e := [(6, .ref 0 [] 1 0 (List.length x132))]) (ts := [some (.ints .i64 x132)]) (n := 1) rfl rfl rfl rfl) (seqQ_n (?_))))
   refine wp_seq ?_
   refine wp_reg (nx' := 49) rfl (ev_den (.ref 0 _ _ _ _) rfl rfl (ev_den (.ref 0 _ _ _ _) rfl rfl (ev_v rfl rfl (ev_nil)))) (seqQ_n (?_))
   replace h := Option.some.inj h
   subst h
   exact wp_ret (qf_r ((outs_ok (vs := [(.ref 0 _ _ _ _), (.vw _ _)]) rfl (absW_cons (retT_ref (abs_ref rfl sub_i)) rfl (absW_cons rfl rfl (absW_nil))) rfl rfl)))
noncomputable def spec_LoadOfLinks_s2 (p0 : Int × Bool) (v174 : Int × Int × Int) : ((List Int) × Int) → Option (((List Int) × Int) ⊕ ((List Int))) := fun (x189, x190) =>
if (x190 != v174.2.2) = true then
(at? x189 x190).bind fun v206 =>
(nz? p0.1).bind fun u207 =>
some (.inl ((List.set x189 (Int.toNat x190) ((w64 (v206 + (1 : Int))))), (Int.tmod (w64 (x190 + (1 : Int))) p0.1)))
else
some (.inr x189)
noncomputable def spec_LoadOfLinks_l2 (p0 : Int × Bool) (v174 : Int × Int × Int) : ((List Int) × Int) → Option ((List Int)) := iter (spec_LoadOfLinks_s2 p0 v174)
noncomputable def spec_LoadOfLinks_s1 (p0 : Int × Bool) (p1 : List (Int × Int × Int)) : ((List Int) × Int) → Option (((List Int) × Int) ⊕ ((List Int))) := fun (x115, x116) =>
if (decide (x116 < (List.length p1 : Int))) = true then
(at? p1 x116).bind fun v174 =>
(spec_LoadOfLinks_l2 p0 v174 (x115, v174.2.1)).bind fun x196 =>
some (.inl (x196, (w64 (x116 + (1 : Int)))))
else
some (.inr x115)
noncomputable def spec_LoadOfLinks_l1 (p0 : Int × Bool) (p1 : List (Int × Int × Int)) : ((List Int) × Int) → Option ((List Int)) := iter (spec_LoadOfLinks_s1 p0 p1)
/-- loop.example/g01176/spec.LoadOfLinks -/
noncomputable def spec_LoadOfLinks (p0 : Int × Bool) (p1 : List (Int × Int × Int)) : Option (((List Int) × Bool)) :=
(spec_slAll p0 p1).bind fun v37 =>
if (!v37) = true then
some ([], false)
else
(mk? p0.1 p0.1).bind fun u39 =>
(spec_LoadOfLinks_l1 p0 p1 ((List.replicate (Int.toNat p0.1) (0 : Int)), (0 : Int))).bind fun x132 =>
some (x132, true)
theorem spec_LoadOfLinks_ok {p0 : Int × Bool} {p1 : List (Int × Int × Int)} {o : ((List Int) × Bool)} (h : spec_LoadOfLinks p0 p1 = some o) : RN 30 [.agg [.int .i64 p0.1, .bool p0.2], .rows 3 (List.map e0 p1)] [] = some (.tup [.ints .i64 o.1, .bool o.2], []) := by
 refine fn_run (o := o) (nr := 0) (F := k30) (st := ⟨entry 0 [.agg [.vw [] (.int .i64 p0.1), .vw [] (.bool p0.2)], .vw [] (.rows 3 (List.map e0 p1))], fun n => ([] : List T)[n]?, 0⟩) (fun (o : ((List Int) × Bool)) => (.tup [.ints .i64 o.1, .bool o.2], [])) rfl fns_30 rfl rfl rfl ?_
 refine wp_seq ?_
 refine wp_reg (nx' := 48) rfl (ev_wr rfl (w_box (sv := (.agg [(.vw _ _), (.vw _ _)])) rfl rfl (absW_cons rfl rfl (absW_cons rfl rfl (absW_nil)))) (ev_new (.ref 16 [] 1 0 0) (.ints .i64 []) rfl rfl (ev_v rfl rfl (ev_nil)))) (seqQ_n (?_))
 refine wp_seq ?_
 refine wp_gc ?_
 refine wp_seq ?_
 obtain ⟨v37, hv37, h⟩ := bs h
 refine wp_reg (nx' := 112) rfl (ev_den (.agg [(.vw _ _), (.vw _ _)]) rfl (d_ld_os rfl (rget_of rfl (get_nil)) rfl (cells_cons rfl (cells_cons rfl (cells_nil)))) (ev_v rfl rfl (ev_call0 [(.agg [(.vw _ _), (.vw _ _)]), (.vw _ _)] rfl (call_ok (rs := []) (rd := []) rfl rfl rfl rfl (argL_cons (argT_a (argL_cons rfl (argL_cons rfl (argL_nil)))) (argL_cons rfl (argL_nil))) rfl rfl (spec_slAll_ok hv37) rfl rfl rfl rfl rfl) (ev_v rfl rfl (ev_nil))))) (seqQ_n (?_))
 rcases its h with ⟨hc38, h⟩ | ⟨hc38, h⟩
 ·refine wp_ct rfl hc38 ?_
  refine wp_seq ?_
  refine wp_reg (nx' := 144) rfl (ev_new (.ref 112 [] 1 0 0) (.ints .i64 []) rfl rfl (ev_v rfl rfl (ev_nil))) (seqQ_n (?_))
  replace h := Option.some.inj h
  subst h
  exact wp_ret (gcQ_r (seqQ_r (qf_r ((outs_ok (vs := [(.ref 112 _ _ _ _), (.vw _ _)]) rfl (absW_cons (retT_ref (abs_ref rfl sub_i)) rfl (absW_cons rfl rfl (absW_nil))) rfl rfl)))))
 ·refine wp_cf rfl hc38 ?_
  refine wp_skip (gcQ_n (gc_to [0] (e := [(1, .vw [] (.rows 3 (List.map e0 p1))), (2, .ptr 0 [] (some 0))]) (ts := [some (.ptr (.agg [.int .i64 p0.1, .bool p0.2]))]) (n := 1) rfl rfl rfl rfl) (seqQ_n (?_)))
  refine wp_seq ?_
  obtain ⟨u39, hu39, h⟩ := bs h
  refine wp_reg (nx' := 65) rfl (ev_den (.ptr 0 [] (some 0)) rfl rfl (ev_v rfl (d_ld_o rfl (rget_of rfl (get_nil)) rfl rfl) (ev_new (.ref 33 [] 1 0 (List.length ((List.replicate (Int.toNat p0.1) (0 : Int))))) (.ints .i64 ((List.replicate (Int.toNat p0.1) (0 : Int)))) rfl (d_mks_i rfl rfl hu39) (ev_den (.ref 33 _ _ _ _) rfl rfl (ev_nil))))) (seqQ_n (?_))
  refine wp_seq ?_
  refine wp_gc ?_
  refine wp_seq ?_
  refine wp_gc ?_
  refine wp_reg (nx' := 113) rfl (ev_v rfl rfl (ev_v rfl (d_len_vr (e := e0) rfl) (ev_v rfl rfl (ev_nil)))) (gcQ_n (gc_to [0, 33] (e := [(2, .ptr 0 [] (some 0)), (6, .ref 1 [] 1 0 (List.length ((List.replicate (Int.toNat p0.1) (0 : Int))))), (17, .vw [] (.rows 3 (List.map e0 p1))), (18, .vw [] (.int .i64 ((List.length p1 : Int)))), (19, .vw [] (.int .i64 ((0 : Int))))]) (ts := [some (.ptr (.agg [.int .i64 p0.1, .bool p0.2])), some (.ints .i64 ((List.replicate (Int.toNat p0.1) (0 : Int))))]) (n := 2) rfl rfl rfl rfl) (seqQ_n (?_)))
  refine wp_gc ?_
  refine wp_blk ?_
  obtain ⟨x132, hw215, h⟩ := bs h
  refine wp_mono (wp_loop (fun ((x115, x116) : (List Int) × Int) => (⟨al .dead [(2, .ptr 0 [] (some 0)), (6, .ref 1 [] 1 0 (List.length x115)), (17, .vw [] (.rows 3 (List.map e0 p1))), (18, .vw [] (.int .i64 ((List.length p1 : Int)))), (19, .vw [] (.int .i64 x116))], hl [some (.ptr (.agg [.int .i64 p0.1, .bool p0.2])), some (.ints .i64 x115)], 2⟩ : St)) (fun (x132 : (List Int)) e st => e = .exit 0 ∧ gc 0 [6] st = ⟨al .dead [(6, .ref 0 [] 1 0 (List.length x132))], hl [some (.ints .i64 x132)], 1⟩) hw215 ?_) ?_
  ·rintro ⟨x115, x116⟩ o h
   refine wp_gc ?_
   refine wp_seq ?_
   refine wp_reg (nx' := 18) rfl (ev_v rfl rfl (ev_nil)) (seqQ_n (?_))
   refine wp_seq ?_
   refine wp_gc ?_
   rcases its h with ⟨hc149, h⟩ | ⟨hc149, h⟩
   ·refine wp_ct rfl hc149 ?_
    refine wp_skip (gcQ_n (gc_to [0, 1] (e := [(2, .ptr 0 [] (some 0)), (6, .ref 1 [] 1 0 (List.length x115)), (17, .vw [] (.rows 3 (List.map e0 p1))), (18, .vw [] (.int .i64 ((List.length p1 : Int)))), (19, .vw [] (.int .i64 x116))]) (ts := [some (.ptr (.agg [.int .i64 p0.1, .bool p0.2])), some (.ints .i64 x115)]) (n := 2) rfl rfl rfl rfl) (seqQ_n (?_)))
    refine wp_seq ?_
    refine wp_gc ?_
    refine wp_gc ?_
    refine wp_blk ?_
    refine wp_seq ?_
    obtain ⟨v174, hv174, h⟩ := bs h
    refine wp_reg (nx' := 66) rfl (ev_den (.pv _ _) rfl (d_idx_vr e0 rfl rfl hv174) (ev_den (.agg [(.vw _ _), (.vw _ _), (.vw _ _)]) rfl rfl (ev_new (.ptr 34 [] (some 0)) (.ptr (.agg [.int .i64 ((0 : Int)), .int .i64 ((0 : Int)), .int .i64 ((0 : Int))])) rfl rfl (ev_wr0 rfl (w_st_a rfl rfl rfl (stL_cons (st1_of rfl rfl rfl (get_f rfl (get_nil)) rfl (rput_p (put_f rfl (put_nil)))) rfl (stL_cons (st1_of rfl rfl rfl (get_f rfl (get_nil)) rfl (rput_p (put_f rfl (put_nil)))) rfl (stL_cons (st1_of rfl rfl rfl (get_f rfl (get_nil)) rfl (rput_p (put_f rfl (put_nil)))) rfl (stL_nil))))) (ev_nil))))) (seqQ_n (?_))
    refine wp_seq ?_
    refine wp_gc ?_
    refine wp_reg (nx' := 114) rfl (ev_den (.ptr 34 [] (some 1)) rfl rfl (ev_v rfl (d_ld_o rfl (rget_of rfl (get_nil)) rfl rfl) (ev_v rfl rfl (ev_nil)))) (gcQ_n (gc_to [0, 1, 34] (e := [(2, .ptr 0 [] (some 0)), (6, .ref 1 [] 1 0 (List.length x115)), (8, .ptr 2 [] (some 0)), (9, .vw [] (.int .i64 v174.2.1)), (17, .vw [] (.rows 3 (List.map e0 p1))), (18, .vw [] (.int .i64 ((List.length p1 : Int)))), (19, .vw [] (.int .i64 x116))]) (ts := [some (.ptr (.agg [.int .i64 p0.1, .bool p0.2])), some (.ints .i64 x115), some (.ptr (.agg [.int .i64 v174.1, .int .i64 v174.2.1, .int .i64 v174.2.2]))]) (n := 3) rfl rfl rfl rfl) (seqQ_n (?_)))
    refine wp_gc ?_
    refine wp_blk ?_
    obtain ⟨x196, hw211, h⟩ := bs h
    refine wp_mono (wp_loop (fun ((x189, x190) : (List Int) × Int) => (⟨al .dead [(2, .ptr 0 [] (some 0)), (6, .ref 1 [] 1 0 (List.length x189)), (8, .ptr 2 [] (some 0)), (9, .vw [] (.int .i64 x190)), (17, .vw [] (.rows 3 (List.map e0 p1))), (18, .vw [] (.int .i64 ((List.length p1 : Int)))), (19, .vw [] (.int .i64 x116))], hl [some (.ptr (.agg [.int .i64 p0.1, .bool p0.2])), some (.ints .i64 x189), some (.ptr (.agg [.int .i64 v174.1, .int .i64 v174.2.1, .int .i64 v174.2.2]))], 3⟩ : St)) (fun (x196 : (List Int)) e st => e = .exit 2 ∧ gc 0 [2, 6, 17, 18, 19] st = ⟨al .dead [(2, .ptr 0 [] (some 0)), (6, .ref 1 [] 1 0 (List.length x196)), (17, .vw [] (.rows 3 (List.map e0 p1))), (18, .vw [] (.int .i64 ((List.length p1 : Int)))), (19, .vw [] (.int .i64 x116))], hl [some (.ptr (.agg [.int .i64 p0.1, .bool p0.2])), some (.ints .i64 x196)], 2⟩) hw211 ?_) ?_
    ·rintro ⟨x189, x190⟩ o h
     refine wp_gc ?_
     refine wp_seq ?_
     refine wp_gc ?_
     refine wp_seq ?_
     refine wp_reg (nx' := 67) rfl (ev_v rfl rfl (ev_den (.ptr 2 [] (some 2)) rfl rfl (ev_v rfl (d_ld_o rfl (rget_of rfl (get_nil)) rfl rfl) (ev_v rfl rfl (ev_nil))))) (seqQ_n (?_))
     rcases its h with ⟨hc203, h⟩ | ⟨hc203, h⟩
     ·refine wp_ct rfl hc203 ?_
      refine wp_skip (gcQ_n (gc_to [0, 1, 2] (e := [(2, .ptr 0 [] (some 0)), (6, .ref 1 [] 1 0 (List.length x189)), (8, .ptr 2 [] (some 0)), (9, .vw [] (.int .i64 x190)), (17, .vw [] (.rows 3 (List.map e0 p1))), (18, .vw [] (.int .i64 ((List.length p1 : Int)))), (19, .vw [] (.int .i64 x116))]) (ts := [some (.ptr (.agg [.int .i64 p0.1, .bool p0.2])), some (.ints .i64 x189), some (.ptr (.agg [.int .i64 v174.1, .int .i64 v174.2.1, .int .i64 v174.2.2]))]) (n := 3) rfl rfl rfl rfl) (seqQ_n (?_)))
      refine wp_seq ?_
      refine wp_gc ?_
      refine wp_gc ?_
      refine wp_blk ?_
      obtain ⟨v206, hv206, h⟩ := bs h
      refine wp_reg (nx' := 115) rfl (ev_den (.ref 1 _ _ _ _) rfl rfl (ev_v rfl rfl (ev_den (.ptr 1 [.e (Int.toNat x190)] none) rfl (d_idx_r (p := []) rfl rfl hv206) (ev_v rfl (d_ld_p rfl (rget_of rfl (get_i hv206)) rfl) (ev_v rfl rfl (ev_den (.ptr 1 [.e (Int.toNat x190)] none) rfl (d_idx_r (p := []) rfl rfl hv206) (ev_wr0 rfl (w_st_p rfl (st1_of rfl rfl rfl (get_i hv206) rfl (rput_i (put_i hv206)))) (ev_relen (b := (List.length ((List.set x189 (Int.toNat x190) ((w64 (v206 + (1 : Int)))))))) 6 rfl List.length_set.symm (ev_nil))))))))) (blkQ_n (gcQ_n (gc_to [0, 1, 2] (e := [(2, .ptr 0 [] (some 0)), (6, .ref 1 [] 1 0 (List.length ((List.set x189 (Int.toNat x190) ((w64 (v206 + (1 : Int)))))))), (8, .ptr 2 [] (some 0)), (9, .vw [] (.int .i64 x190)), (17, .vw [] (.rows 3 (List.map e0 p1))), (18, .vw [] (.int .i64 ((List.length p1 : Int)))), (19, .vw [] (.int .i64 x116))]) (ts := [some (.ptr (.agg [.int .i64 p0.1, .bool p0.2])), some (.ints .i64 ((List.set x189 (Int.toNat x190) ((w64 (v206 + (1 : Int))))))), some (.ptr (.agg [.int .i64 v174.1, .int .i64 v174.2.1, .int .i64 v174.2.2]))]) (n := 3) rfl rfl rfl rfl) (gcQ_n (gc_to [0, 1, 2] (e := [(2, .ptr 0 [] (some 0)), (6, .ref 1 [] 1 0 (List.length ((List.set x189 (Int.toNat x190) ((w64 (v206 + (1 : Int)))))))), (8, .ptr 2 [] (some 0)), (9, .vw [] (.int .i64 x190)), (17, .vw [] (.rows 3 (List.map e0 p1))), (18, .vw [] (.int .i64 ((List.length p1 : Int)))), (19, .vw [] (.int .i64 x116))]) (ts := [some (.ptr (.agg [.int .i64 p0.1, .bool p0.2])), some (.ints .i64 ((List.set x189 (Int.toNat x190) ((w64 (v206 + (1 : Int))))))), some (.ptr (.agg [.int .i64 v174.1, .int .i64 v174.2.1, .int .i64 v174.2.2]))]) (n := 3) rfl rfl rfl rfl) (seqQ_n (?_)))))
      obtain ⟨u207, hu207, h⟩ := bs h
      replace h := Option.some.inj h
      subst h
      exact wp_reg (nx' := 99) rfl (ev_v rfl rfl (ev_v rfl rfl (ev_den (.ptr 0 [] (some 0)) rfl rfl (ev_v rfl (d_ld_o rfl (rget_of rfl (get_nil)) rfl rfl) (ev_v rfl (d_rem rfl rfl hu207) (ev_v rfl rfl (ev_nil))))))) (gcQ_n (gc_to [0, 1, 2] (e := [(2, .ptr 0 [] (some 0)), (6, .ref 1 [] 1 0 (List.length ((List.set x189 (Int.toNat x190) ((w64 (v206 + (1 : Int)))))))), (8, .ptr 2 [] (some 0)), (9, .vw [] (.int .i64 ((Int.tmod (w64 (x190 + (1 : Int))) p0.1)))), (17, .vw [] (.rows 3 (List.map e0 p1))), (18, .vw [] (.int .i64 ((List.length p1 : Int)))), (19, .vw [] (.int .i64 x116))]) (ts := [some (.ptr (.agg [.int .i64 p0.1, .bool p0.2])), some (.ints .i64 ((List.set x189 (Int.toNat x190) ((w64 (v206 + (1 : Int))))))), some (.ptr (.agg [.int .i64 v174.1, .int .i64 v174.2.1, .int .i64 v174.2.2]))]) (n := 3) rfl rfl rfl rfl) (loopQ_n rfl))
     ·refine wp_cf rfl hc203 ?_
      replace h := Option.some.inj h
      subst h
      exact wp_exit (gcQ_e (seqQ_e (gcQ_e (loopQ_e (And.intro rfl (gc_to [0, 1] (e := [(2, .ptr 0 [] (some 0)), (6, .ref 1 [] 1 0 (List.length x189)), (17, .vw [] (.rows 3 (List.map e0 p1))), (18, .vw [] (.int .i64 ((List.length p1 : Int)))), (19, .vw [] (.int .i64 x116))]) (ts := [some (.ptr (.agg [.int .i64 p0.1, .bool p0.2])), some (.ints .i64 x189)]) (n := 2) rfl rfl rfl rfl))))))
    ·intro e st211 hg211
     obtain ⟨rfl, hg211⟩ := hg211
     refine blkQ_h (gcQ_n hg211 (blkQ_n (gcQ_n (gc_to [0, 1] (e := [(2, .ptr 0 [] (some 0)), (6, .ref 1 [] 1 0 (List.length x196)), (17, .vw [] (.rows 3 (List.map e0 p1))), (18, .vw [] (.int .i64 ((List.length p1 : Int)))), (19, .vw [] (.int .i64 x116))]) (ts := [some (.ptr (.agg [.int .i64 p0.1, .bool p0.2])), some (.ints .i64 x196)]) (n := 2) rfl rfl rfl rfl) (gcQ_n (gc_to [0, 1] (e := [(2, .ptr 0 [] (some 0)), (6, .ref 1 [] 1 0 (List.length x196)), (17, .vw [] (.rows 3 (List.map e0 p1))), (18, .vw [] (.int .i64 ((List.length p1 : Int)))), (19, .vw [] (.int .i64 x116))]) (ts := [some (.ptr (.agg [.int .i64 p0.1, .bool p0.2])), some (.ints .i64 x196)]) (n := 2) rfl rfl rfl rfl) (seqQ_n (?_))))))
     replace h := Option.some.inj h
     subst h
     exact wp_reg (nx' := 34) rfl (ev_v rfl rfl (ev_v rfl rfl (ev_nil))) (gcQ_n (gc_to [0, 1] (e := [(2, .ptr 0 [] (some 0)), (6, .ref 1 [] 1 0 (List.length x196)), (17, .vw [] (.rows 3 (List.map e0 p1))), (18, .vw [] (.int .i64 ((List.length p1 : Int)))), (19, .vw [] (.int .i64 ((w64 (x116 + (1 : Int))))))]) (ts := [some (.ptr (.agg [.int .i64 p0.1, .bool p0.2])), some (.ints .i64 x196)]) (n := 2) rfl rfl rfl rfl) (loopQ_n rfl))
   ·refine wp_cf rfl hc149 ?_
    replace h := Option.some.inj h
    subst h
    exact wp_exit (gcQ_e (seqQ_e (gcQ_e (loopQ_e (And.intro rfl (gc_to [1] (e := [(6, .ref 0 [] 1 0 (List.length x115))]) (ts := [some (.ints .i64 x115)]) (n := 1) rfl rfl rfl rfl))))))
  ·intro e st215 hg215
   obtain ⟨rfl, hg215⟩ := hg215
   refine blkQ_h (gcQ_n hg215 (gcQ_n (gc_to [0] (e := [(6, .ref 0 [] 1 0 (List.length x132))]) (ts := [some (.ints .i64 x132)]) (n := 1) rfl rfl rfl rfl) (seqQ_n (?_))))
   refine wp_seq ?_
   refine wp_reg (nx' := 49) rfl (ev_den (.ref 0 _ _ _ _) rfl rfl (ev_den (.ref 0 _ _ _ _) rfl rfl (ev_v rfl rfl (ev_nil)))) (seqQ_n (?_))
   replace h := Option.some.inj h
   subst h
   exact wp_ret (qf_r ((outs_ok (vs := [(.ref 0 _ _ _ _), (.vw _ _)]) rfl (absW_cons (retT_ref (abs_ref rfl sub_i)) rfl (absW_cons rfl rfl (absW_nil))) rfl rfl)))
/-- loop.example/g01176/impl.AreMessages -/
noncomputable def impl_AreMessages (p0 : Int × Bool) (p1 : List (Int × Int × Int)) : Option ((Bool × Bool)) :=
(impl_IsSlotRing p0).bind fun v6 =>
if (!v6) = true then
some (false, false)
else
(impl_areMessages p0.1 p1).bind fun v8 =>
some (v8, true)
theorem impl_AreMessages_ok {p0 : Int × Bool} {p1 : List (Int × Int × Int)} {o : (Bool × Bool)} (h : impl_AreMessages p0 p1 = some o) : RN 31 [.agg [.int .i64 p0.1, .bool p0.2], .rows 3 (List.map e0 p1)] [] = some (.tup [.bool o.1, .bool o.2], []) := by
 refine fn_run (o := o) (nr := 0) (F := k31) (st := ⟨entry 0 [.agg [.vw [] (.int .i64 p0.1), .vw [] (.bool p0.2)], .vw [] (.rows 3 (List.map e0 p1))], fun n => ([] : List T)[n]?, 0⟩) (fun (o : (Bool × Bool)) => (.tup [.bool o.1, .bool o.2], [])) rfl fns_31 rfl rfl rfl ?_
 refine wp_seq ?_
 refine wp_reg (nx' := 48) rfl (ev_wr rfl (w_box (sv := (.agg [(.vw _ _), (.vw _ _)])) rfl rfl (absW_cons rfl rfl (absW_cons rfl rfl (absW_nil)))) (ev_v rfl rfl (ev_v rfl rfl (ev_nil)))) (seqQ_n (?_))
 refine wp_seq ?_
 refine wp_gc ?_
 refine wp_seq ?_
 obtain ⟨v6, hv6, h⟩ := bs h
 refine wp_reg (nx' := 96) rfl (ev_den (.agg [(.vw _ _), (.vw _ _)]) rfl (d_ld_os rfl (rget_of rfl (get_nil)) rfl (cells_cons rfl (cells_cons rfl (cells_nil)))) (ev_call0 [(.agg [(.vw _ _), (.vw _ _)])] rfl (call_ok (rs := []) (rd := []) rfl rfl rfl rfl (argL_cons (argT_a (argL_cons rfl (argL_cons rfl (argL_nil)))) (argL_nil)) rfl rfl (impl_IsSlotRing_ok hv6) rfl rfl rfl rfl rfl) (ev_v rfl rfl (ev_nil)))) (seqQ_n (?_))
 rcases its h with ⟨hc7, h⟩ | ⟨hc7, h⟩
 ·refine wp_ct rfl hc7 ?_
  refine wp_seq ?_
  refine wp_reg (nx' := 128) rfl (ev_v rfl rfl (ev_v rfl rfl (ev_nil))) (seqQ_n (?_))
  replace h := Option.some.inj h
  subst h
  exact wp_ret (gcQ_r (seqQ_r (qf_r ((outs_ok (vs := [(.vw _ _), (.vw _ _)]) rfl (absW_cons rfl rfl (absW_cons rfl rfl (absW_nil))) rfl rfl)))))
 ·refine wp_cf rfl hc7 ?_
  refine wp_skip (gcQ_n (gc_to [0] (e := [(1, .vw [] (.rows 3 (List.map e0 p1))), (2, .ptr 0 [] (some 0))]) (ts := [some (.ptr (.agg [.int .i64 p0.1, .bool p0.2]))]) (n := 1) rfl rfl rfl rfl) (seqQ_n (?_)))
  refine wp_seq ?_
  obtain ⟨v8, hv8, h⟩ := bs h
  refine wp_reg (nx' := 97) rfl (ev_den (.ptr 0 [] (some 0)) rfl rfl (ev_v rfl (d_ld_o rfl (rget_of rfl (get_nil)) rfl rfl) (ev_v rfl rfl (ev_call0 [(.vw _ _), (.vw _ _)] rfl (call_ok (rs := []) (rd := []) rfl rfl rfl rfl (argL_cons rfl (argL_cons rfl (argL_nil))) rfl rfl (impl_areMessages_ok hv8) rfl rfl rfl rfl rfl) (ev_v rfl rfl (ev_v rfl rfl (ev_nil))))))) (seqQ_n (?_))
  replace h := Option.some.inj h
  subst h
  exact wp_ret (qf_r ((outs_ok (vs := [(.vw _ _), (.vw _ _)]) rfl (absW_cons rfl rfl (absW_cons rfl rfl (absW_nil))) rfl rfl)))
/-- loop.example/g01176/spec.AreMessages -/
noncomputable def spec_AreMessages (p0 : Int × Bool) (p1 : List (Int × Int × Int)) : Option ((Bool × Bool)) :=
(spec_slGood p0).bind fun v6 =>
if (!v6) = true then
some (false, false)
else
(spec_slAll p0 p1).bind fun v8 =>
some (v8, true)
theorem spec_AreMessages_ok {p0 : Int × Bool} {p1 : List (Int × Int × Int)} {o : (Bool × Bool)} (h : spec_AreMessages p0 p1 = some o) : RN 32 [.agg [.int .i64 p0.1, .bool p0.2], .rows 3 (List.map e0 p1)] [] = some (.tup [.bool o.1, .bool o.2], []) := by
 refine fn_run (o := o) (nr := 0) (F := k32) (st := ⟨entry 0 [.agg [.vw [] (.int .i64 p0.1), .vw [] (.bool p0.2)], .vw [] (.rows 3 (List.map e0 p1))], fun n => ([] : List T)[n]?, 0⟩) (fun (o : (Bool × Bool)) => (.tup [.bool o.1, .bool o.2], [])) rfl fns_32 rfl rfl rfl ?_
 refine wp_seq ?_
 refine wp_reg (nx' := 48) rfl (ev_wr rfl (w_box (sv := (.agg [(.vw _ _), (.vw _ _)])) rfl rfl (absW_cons rfl rfl (absW_cons rfl rfl (absW_nil)))) (ev_v rfl rfl (ev_v rfl rfl (ev_nil)))) (seqQ_n (?_))
 refine wp_seq ?_
 refine wp_gc ?_
 refine wp_seq ?_
 obtain ⟨v6, hv6, h⟩ := bs h
 refine wp_reg (nx' := 96) rfl (ev_den (.agg [(.vw _ _), (.vw _ _)]) rfl (d_ld_os rfl (rget_of rfl (get_nil)) rfl (cells_cons rfl (cells_cons rfl (cells_nil)))) (ev_call0 [(.agg [(.vw _ _), (.vw _ _)])] rfl (call_ok (rs := []) (rd := []) rfl rfl rfl rfl (argL_cons (argT_a (argL_cons rfl (argL_cons rfl (argL_nil)))) (argL_nil)) rfl rfl (spec_slGood_ok hv6) rfl rfl rfl rfl rfl) (ev_v rfl rfl (ev_nil)))) (seqQ_n (?_))
 rcases its h with ⟨hc7, h⟩ | ⟨hc7, h⟩
 ·refine wp_ct rfl hc7 ?_
  refine wp_seq ?_
  refine wp_reg (nx' := 128) rfl (ev_v rfl rfl (ev_v rfl rfl (ev_nil))) (seqQ_n (?_))
  replace h := Option.some.inj h
  subst h
  exact wp_ret (gcQ_r (seqQ_r (qf_r ((outs_ok (vs := [(.vw _ _), (.vw _ _)]) rfl (absW_cons rfl rfl (absW_cons rfl rfl (absW_nil))) rfl rfl)))))
 ·refine wp_cf rfl hc7 ?_
  refine wp_skip (gcQ_n (gc_to [0] (e := [(1, .vw [] (.rows 3 (List.map e0 p1))), (2, .ptr 0 [] (some 0))]) (ts := [some (.ptr (.agg [.int .i64 p0.1, .bool p0.2]))]) (n := 1) rfl rfl rfl rfl) (seqQ_n (?_)))
  refine wp_seq ?_
  obtain ⟨v8, hv8, h⟩ := bs h
  refine wp_reg (nx' := 81) rfl (ev_den (.agg [(.vw _ _), (.vw _ _)]) rfl (d_ld_os rfl (rget_of rfl (get_nil)) rfl (cells_cons rfl (cells_cons rfl (cells_nil)))) (ev_v rfl rfl (ev_call0 [(.agg [(.vw _ _), (.vw _ _)]), (.vw _ _)] rfl (call_ok (rs := []) (rd := []) rfl rfl rfl rfl (argL_cons (argT_a (argL_cons rfl (argL_cons rfl (argL_nil)))) (argL_cons rfl (argL_nil))) rfl rfl (spec_slAll_ok hv8) rfl rfl rfl rfl rfl) (ev_v rfl rfl (ev_v rfl rfl (ev_nil)))))) (seqQ_n (?_))
  replace h := Option.some.inj h
  subst h
  exact wp_ret (qf_r ((outs_ok (vs := [(.vw _ _), (.vw _ _)]) rfl (absW_cons rfl rfl (absW_cons rfl rfl (absW_nil))) rfl rfl)))
end Go.Proofs.Yteeejellpcikkaa.Ev.G5
