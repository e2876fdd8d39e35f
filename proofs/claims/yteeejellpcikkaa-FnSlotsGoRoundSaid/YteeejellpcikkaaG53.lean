/- What functions of the program come to, as plain functions; no condition. -/
import Derived.Test.YteeejellpcikkaaG52
set_option linter.unusedVariables false
set_option linter.unusedSimpArgs false
set_option maxRecDepth 100000
set_option maxHeartbeats 4000000
set_option linter.unusedVariables false
namespace Go.Proofs.Yteeejellpcikkaa.Ev.G5
open Go
/-- loop.example/g01176/spec.slMessage -/
noncomputable def spec_slMessage (p0 : Int × Bool) (p1 : Int × Int × Int) : Option Bool :=
(spec_l1In p1.1 ((0 : Int)) ((100 : Int))).bind fun v13 =>
if v13 = true then
(spec_l1In p1.2.1 ((0 : Int)) ((w64 (p0.1 - (1 : Int))))).bind fun v15 =>
if v15 = true then
(spec_l1In p1.2.2 ((0 : Int)) ((w64 (p0.1 - (1 : Int))))).bind fun v17 =>
if v17 = true then
some (p1.2.1 != p1.2.2)
else
some false
else
some false
else
some false
theorem spec_slMessage_ok {p0 : Int × Bool} {p1 : Int × Int × Int} {o : Bool} (h : spec_slMessage p0 p1 = some o) : RN 64 [.agg [.int .i64 p0.1, .bool p0.2], .agg [.int .i64 p1.1, .int .i64 p1.2.1, .int .i64 p1.2.2]] [] = some (.bool o, []) := by
 refine fn_run (o := o) (nr := 0) (F := k64) (st := ⟨entry 0 [.agg [.vw [] (.int .i64 p0.1), .vw [] (.bool p0.2)], .agg [.vw [] (.int .i64 p1.1), .vw [] (.int .i64 p1.2.1), .vw [] (.int .i64 p1.2.2)]], fun n => ([] : List T)[n]?, 0⟩) (fun (o : Bool) => (.bool o, [])) rfl fns_64 rfl rfl rfl ?_
 refine wp_seq ?_
 refine wp_reg (nx' := 48) rfl (ev_wr rfl (w_box (sv := (.agg [(.vw _ _), (.vw _ _)])) rfl rfl (absW_cons rfl rfl (absW_cons rfl rfl (absW_nil)))) (ev_wr rfl (w_box (sv := (.agg [(.vw _ _), (.vw _ _), (.vw _ _)])) rfl rfl (absW_cons rfl rfl (absW_cons rfl rfl (absW_cons rfl rfl (absW_nil))))) (ev_v rfl rfl (ev_nil)))) (seqQ_n (?_))
 refine wp_seq ?_
 refine wp_gc ?_
 obtain ⟨v13, hv13, h⟩ := bs h
 rcases its h with ⟨hc14, h⟩ | ⟨hc14, h⟩
 ·obtain ⟨v15, hv15, h⟩ := bs h
  rcases its h with ⟨hc16, h⟩ | ⟨hc16, h⟩
  ·obtain ⟨v17, hv17, h⟩ := bs h
   rcases its h with ⟨hc18, h⟩ | ⟨hc18, h⟩
   ·refine wp_reg (nx' := 480) rfl (ev_den (.ptr 16 [] (some 0)) rfl rfl (ev_v rfl (d_ld_o rfl (rget_of rfl (get_nil)) rfl rfl) (ev_call0 [(.vw _ _), (.vw _ _), (.vw _ _)] rfl (call_ok (rs := []) (rd := []) rfl rfl rfl rfl (argL_cons rfl (argL_cons rfl (argL_cons rfl (argL_nil)))) rfl rfl (spec_l1In_ok hv13) rfl rfl rfl rfl rfl) (ev_v rfl rfl (ev_on rfl hc14 (ev_den (.ptr 16 [] (some 1)) rfl rfl (ev_on rfl hc14 (ev_v rfl (d_ld_o rfl (rget_of rfl (get_nil)) rfl rfl) (ev_on rfl hc14 (ev_den (.ptr 0 [] (some 0)) rfl rfl (ev_on rfl hc14 (ev_v rfl (d_ld_o rfl (rget_of rfl (get_nil)) rfl rfl) (ev_on rfl hc14 (ev_v rfl rfl (ev_on rfl hc14 (ev_call0 [(.vw _ _), (.vw _ _), (.vw _ _)] rfl (call_ok (rs := []) (rd := []) rfl rfl rfl rfl (argL_cons rfl (argL_cons rfl (argL_cons rfl (argL_nil)))) rfl rfl (spec_l1In_ok hv15) rfl rfl rfl rfl rfl) (ev_v rfl (d_pick_t rfl hc14 rfl) (ev_v rfl rfl (ev_on rfl hc16 (ev_den (.ptr 16 [] (some 2)) rfl rfl (ev_on rfl hc16 (ev_v rfl (d_ld_o rfl (rget_of rfl (get_nil)) rfl rfl) (ev_on rfl hc16 (ev_den (.ptr 0 [] (some 0)) rfl rfl (ev_on rfl hc16 (ev_v rfl (d_ld_o rfl (rget_of rfl (get_nil)) rfl rfl) (ev_on rfl hc16 (ev_v rfl rfl (ev_on rfl hc16 (ev_call0 [(.vw _ _), (.vw _ _), (.vw _ _)] rfl (call_ok (rs := []) (rd := []) rfl rfl rfl rfl (argL_cons rfl (argL_cons rfl (argL_cons rfl (argL_nil)))) rfl rfl (spec_l1In_ok hv17) rfl rfl rfl rfl rfl) (ev_v rfl (d_pick_t rfl hc16 rfl) (ev_v rfl rfl (ev_on rfl hc18 (ev_den (.ptr 16 [] (some 1)) rfl rfl (ev_on rfl hc18 (ev_v rfl (d_ld_o rfl (rget_of rfl (get_nil)) rfl rfl) (ev_on rfl hc18 (ev_den (.ptr 16 [] (some 2)) rfl rfl (ev_on rfl hc18 (ev_v rfl (d_ld_o rfl (rget_of rfl (get_nil)) rfl rfl) (ev_on rfl hc18 (ev_v rfl rfl (ev_v rfl (d_pick_t rfl hc18 rfl) (ev_v rfl rfl (ev_nil))))))))))))))))))))))))))))))))))))))))))))) (gcQ_n (gc_to [] (e := [(4, .vw [] (.bool ((p1.2.1 != p1.2.2))))]) (ts := []) (n := 0) rfl rfl rfl rfl) (seqQ_n (?_)))
    replace h := Option.some.inj h
    subst h
    exact wp_ret (qf_r ((outs_ok (vs := [(.vw _ _)]) rfl (absW_cons rfl rfl (absW_nil)) rfl rfl)))
   ·refine wp_reg (nx' := 480) rfl (ev_den (.ptr 16 [] (some 0)) rfl rfl (ev_v rfl (d_ld_o rfl (rget_of rfl (get_nil)) rfl rfl) (ev_call0 [(.vw _ _), (.vw _ _), (.vw _ _)] rfl (call_ok (rs := []) (rd := []) rfl rfl rfl rfl (argL_cons rfl (argL_cons rfl (argL_cons rfl (argL_nil)))) rfl rfl (spec_l1In_ok hv13) rfl rfl rfl rfl rfl) (ev_v rfl rfl (ev_on rfl hc14 (ev_den (.ptr 16 [] (some 1)) rfl rfl (ev_on rfl hc14 (ev_v rfl (d_ld_o rfl (rget_of rfl (get_nil)) rfl rfl) (ev_on rfl hc14 (ev_den (.ptr 0 [] (some 0)) rfl rfl (ev_on rfl hc14 (ev_v rfl (d_ld_o rfl (rget_of rfl (get_nil)) rfl rfl) (ev_on rfl hc14 (ev_v rfl rfl (ev_on rfl hc14 (ev_call0 [(.vw _ _), (.vw _ _), (.vw _ _)] rfl (call_ok (rs := []) (rd := []) rfl rfl rfl rfl (argL_cons rfl (argL_cons rfl (argL_cons rfl (argL_nil)))) rfl rfl (spec_l1In_ok hv15) rfl rfl rfl rfl rfl) (ev_v rfl (d_pick_t rfl hc14 rfl) (ev_v rfl rfl (ev_on rfl hc16 (ev_den (.ptr 16 [] (some 2)) rfl rfl (ev_on rfl hc16 (ev_v rfl (d_ld_o rfl (rget_of rfl (get_nil)) rfl rfl) (ev_on rfl hc16 (ev_den (.ptr 0 [] (some 0)) rfl rfl (ev_on rfl hc16 (ev_v rfl (d_ld_o rfl (rget_of rfl (get_nil)) rfl rfl) (ev_on rfl hc16 (ev_v rfl rfl (ev_on rfl hc16 (ev_call0 [(.vw _ _), (.vw _ _), (.vw _ _)] rfl (call_ok (rs := []) (rd := []) rfl rfl rfl rfl (argL_cons rfl (argL_cons rfl (argL_cons rfl (argL_nil)))) rfl rfl (spec_l1In_ok hv17) rfl rfl rfl rfl rfl) (ev_v rfl (d_pick_t rfl hc16 rfl) (ev_v rfl rfl (ev_off rfl hc18 (ev_off rfl hc18 (ev_off rfl hc18 (ev_off rfl hc18 (ev_off rfl hc18 (ev_v rfl (d_pick_f rfl hc18 rfl) (ev_v rfl rfl (ev_nil)))))))))))))))))))))))))))))))))))))))) (gcQ_n (gc_to [] (e := [(4, .vw [] (.bool false))]) (ts := []) (n := 0) rfl rfl rfl rfl) (seqQ_n (?_)))
    replace h := Option.some.inj h
    subst h
    exact wp_ret (qf_r ((outs_ok (vs := [(.vw _ _)]) rfl (absW_cons rfl rfl (absW_nil)) rfl rfl)))
  ·refine wp_reg (nx' := 480) rfl (ev_den (.ptr 16 [] (some 0)) rfl rfl (ev_v rfl (d_ld_o rfl (rget_of rfl (get_nil)) rfl rfl) (ev_call0 [(.vw _ _), (.vw _ _), (.vw _ _)] rfl (call_ok (rs := []) (rd := []) rfl rfl rfl rfl (argL_cons rfl (argL_cons rfl (argL_cons rfl (argL_nil)))) rfl rfl (spec_l1In_ok hv13) rfl rfl rfl rfl rfl) (ev_v rfl rfl (ev_on rfl hc14 (ev_den (.ptr 16 [] (some 1)) rfl rfl (ev_on rfl hc14 (ev_v rfl (d_ld_o rfl (rget_of rfl (get_nil)) rfl rfl) (ev_on rfl hc14 (ev_den (.ptr 0 [] (some 0)) rfl rfl (ev_on rfl hc14 (ev_v rfl (d_ld_o rfl (rget_of rfl (get_nil)) rfl rfl) (ev_on rfl hc14 (ev_v rfl rfl (ev_on rfl hc14 (ev_call0 [(.vw _ _), (.vw _ _), (.vw _ _)] rfl (call_ok (rs := []) (rd := []) rfl rfl rfl rfl (argL_cons rfl (argL_cons rfl (argL_cons rfl (argL_nil)))) rfl rfl (spec_l1In_ok hv15) rfl rfl rfl rfl rfl) (ev_v rfl (d_pick_t rfl hc14 rfl) (ev_v rfl rfl (ev_off rfl hc16 (ev_off rfl hc16 (ev_off rfl hc16 (ev_off rfl hc16 (ev_off rfl hc16 (ev_off rfl hc16 (ev_v rfl (d_pick_f rfl hc16 rfl) (ev_v rfl rfl (ev_off rfl rfl (ev_off rfl rfl (ev_off rfl rfl (ev_off rfl rfl (ev_off rfl rfl (ev_v rfl (d_pick_f rfl rfl rfl) (ev_v rfl rfl (ev_nil)))))))))))))))))))))))))))))))))) (gcQ_n (gc_to [] (e := [(4, .vw [] (.bool false))]) (ts := []) (n := 0) rfl rfl rfl rfl) (seqQ_n (?_)))
   replace h := Option.some.inj h
   subst h
   exact wp_ret (qf_r ((outs_ok (vs := [(.vw _ _)]) rfl (absW_cons rfl rfl (absW_nil)) rfl rfl)))
 ·refine wp_reg (nx' := 480) rfl (ev_den (.ptr 16 [] (some 0)) rfl rfl (ev_v rfl (d_ld_o rfl (rget_of rfl (get_nil)) rfl rfl) (ev_call0 [(.vw _ _), (.vw _ _), (.vw _ _)] rfl (call_ok (rs := []) (rd := []) rfl rfl rfl rfl (argL_cons rfl (argL_cons rfl (argL_cons rfl (argL_nil)))) rfl rfl (spec_l1In_ok hv13) rfl rfl rfl rfl rfl) (ev_v rfl rfl (ev_off rfl hc14 (ev_off rfl hc14 (ev_off rfl hc14 (ev_off rfl hc14 (ev_off rfl hc14 (ev_off rfl hc14 (ev_v rfl (d_pick_f rfl hc14 rfl) (ev_v rfl rfl (ev_off rfl rfl (ev_off rfl rfl (ev_off rfl rfl (ev_off rfl rfl (ev_off rfl rfl (ev_off rfl rfl (ev_v rfl (d_pick_f rfl rfl rfl) (ev_v rfl rfl (ev_off rfl rfl (ev_off rfl rfl (ev_off rfl rfl (ev_off rfl rfl (ev_off rfl rfl (ev_v rfl (d_pick_f rfl rfl rfl) (ev_v rfl rfl (ev_nil)))))))))))))))))))))))))))) (gcQ_n (gc_to [] (e := [(4, .vw [] (.bool false))]) (ts := []) (n := 0) rfl rfl rfl rfl) (seqQ_n (?_)))
  replace h := Option.some.inj h
  subst h
  exact wp_ret (qf_r ((outs_ok (vs := [(.vw _ _)]) rfl (absW_cons rfl rfl (absW_nil)) rfl rfl)))
noncomputable def spec_slAll_j3 (x75 : Int) : Bool → Option (Int ⊕ (Unit ⊕ Bool)) := fun x115 =>
if x115 = true then
some (.inr (.inr false))
else
some (.inl ((w64 (x75 + (1 : Int)))))
noncomputable def spec_slAll_s2 (p0 : Int × Bool) (p1 : List (Int × Int × Int)) : Int → Option (Int ⊕ (Unit ⊕ Bool)) := fun x75 =>
if (decide (x75 < (List.length p1 : Int))) = true then
(at? p1 x75).bind fun v110 =>
(spec_slMessage p0 v110).bind fun v118 =>
if (!v118) = true then
spec_slAll_j3 x75 true
else
if (decide (x75 > (0 : Int))) = true then
(at? p1 ((w64 (x75 - (1 : Int))))).bind fun v122 =>
spec_slAll_j3 x75 (decide (v122.1 > v110.1))
else
spec_slAll_j3 x75 false
else
some (.inr (.inl ()))
noncomputable def spec_slAll_l2 (p0 : Int × Bool) (p1 : List (Int × Int × Int)) : Int → Option (Unit ⊕ Bool) := iter (spec_slAll_s2 p0 p1)
noncomputable def spec_slAll_j1 (p0 : Int × Bool) (p1 : List (Int × Int × Int)) : Bool → Option (Bool) := fun x29 =>
if x29 = true then
some false
else
(spec_slAll_l2 p0 p1 (0 : Int)).bind fun w => match w with
| .inl _ =>
some true
| .inr r126 =>
some r126
/-- loop.example/g01176/spec.slAll -/
noncomputable def spec_slAll (p0 : Int × Bool) (p1 : List (Int × Int × Int)) : Option Bool :=
(spec_slGood p0).bind fun v127 =>
if (!v127) = true then
spec_slAll_j1 p0 p1 true
else
spec_slAll_j1 p0 p1 (decide ((List.length p1 : Int) > (20 : Int)))
theorem spec_slAll_ok {p0 : Int × Bool} {p1 : List (Int × Int × Int)} {o : Bool} (h : spec_slAll p0 p1 = some o) : RN 45 [.agg [.int .i64 p0.1, .bool p0.2], .rows 3 (List.map e0 p1)] [] = some (.bool o, []) := by
 refine fn_run (o := o) (nr := 0) (F := k45) (st := ⟨entry 0 [.agg [.vw [] (.int .i64 p0.1), .vw [] (.bool p0.2)], .vw [] (.rows 3 (List.map e0 p1))], fun n => ([] : List T)[n]?, 0⟩) (fun (o : Bool) => (.bool o, [])) rfl fns_45 rfl rfl rfl ?_
 refine wp_seq ?_
 refine wp_reg (nx' := 32) rfl (ev_wr rfl (w_box (sv := (.agg [(.vw _ _), (.vw _ _)])) rfl rfl (absW_cons rfl rfl (absW_cons rfl rfl (absW_nil)))) (ev_v rfl rfl (ev_nil))) (seqQ_n (?_))
 refine wp_seq ?_
 refine wp_gc ?_
 refine wp_seq ?_
 refine wp_join (spec_slAll_j1 p0 p1) (fun (x29 : Bool) => (⟨al .dead [(1, .vw [] (.rows 3 (List.map e0 p1))), (2, .ptr 0 [] (some 0)), (14, .vw [] (.bool x29))], hl [some (.ptr (.agg [.int .i64 p0.1, .bool p0.2]))], 1⟩ : St)) ?_ ?_
 ·rintro x29 o h
  unfold spec_slAll_j1 at h
  refine seqQ_n (?_)
  rcases its h with ⟨hc30, h⟩ | ⟨hc30, h⟩
  ·refine wp_ct rfl hc30 ?_
   refine wp_seq ?_
   refine wp_reg (nx' := 17) rfl (ev_v rfl rfl (ev_nil)) (seqQ_n (?_))
   replace h := Option.some.inj h
   subst h
   exact wp_ret (gcQ_r (seqQ_r (qf_r ((outs_ok (vs := [(.vw _ _)]) rfl (absW_cons rfl rfl (absW_nil)) rfl rfl)))))
  ·refine wp_cf rfl hc30 ?_
   refine wp_skip (gcQ_n (gc_to [0] (e := [(1, .vw [] (.rows 3 (List.map e0 p1))), (2, .ptr 0 [] (some 0))]) (ts := [some (.ptr (.agg [.int .i64 p0.1, .bool p0.2]))]) (n := 1) rfl rfl rfl rfl) (seqQ_n (?_)))
   refine wp_seq ?_
   refine wp_gc ?_
   refine wp_seq ?_
   refine wp_gc ?_
   refine wp_reg (nx' := 49) rfl (ev_v rfl rfl (ev_v rfl (d_len_vr (e := e0) rfl) (ev_v rfl rfl (ev_nil)))) (gcQ_n (gc_to [0] (e := [(1, .vw [] (.rows 3 (List.map e0 p1))), (2, .ptr 0 [] (some 0)), (15, .vw [] (.rows 3 (List.map e0 p1))), (16, .vw [] (.int .i64 ((List.length p1 : Int)))), (17, .vw [] (.int .i64 ((0 : Int))))]) (ts := [some (.ptr (.agg [.int .i64 p0.1, .bool p0.2]))]) (n := 1) rfl rfl rfl rfl) (seqQ_n (?_)))
   refine wp_gc ?_
   refine wp_blk ?_
   obtain ⟨w125, hw125, h⟩ := bs h
   refine wp_mono (wp_loop (fun (x75 : Int) => (⟨al .dead [(1, .vw [] (.rows 3 (List.map e0 p1))), (2, .ptr 0 [] (some 0)), (15, .vw [] (.rows 3 (List.map e0 p1))), (16, .vw [] (.int .i64 ((List.length p1 : Int)))), (17, .vw [] (.int .i64 x75))], hl [some (.ptr (.agg [.int .i64 p0.1, .bool p0.2]))], 1⟩ : St)) (fun (v : Unit ⊕ Bool) e st => match v with | .inl _ => e = .exit 0 ∧ gc 0 [] st = ⟨al .dead [], hl [], 0⟩ | .inr rr => e = .ret ∧ outs 0 k45 st = some (.bool rr, [])) hw125 ?_) ?_
   ·rintro x75 o h
    refine wp_gc ?_
    refine wp_seq ?_
    refine wp_reg (nx' := 17) rfl (ev_v rfl rfl (ev_nil)) (seqQ_n (?_))
    refine wp_seq ?_
    refine wp_gc ?_
    rcases its h with ⟨hc95, h⟩ | ⟨hc95, h⟩
    ·refine wp_ct rfl hc95 ?_
     refine wp_skip (gcQ_n (gc_to [0] (e := [(1, .vw [] (.rows 3 (List.map e0 p1))), (2, .ptr 0 [] (some 0)), (15, .vw [] (.rows 3 (List.map e0 p1))), (16, .vw [] (.int .i64 ((List.length p1 : Int)))), (17, .vw [] (.int .i64 x75))]) (ts := [some (.ptr (.agg [.int .i64 p0.1, .bool p0.2]))]) (n := 1) rfl rfl rfl rfl) (seqQ_n (?_)))
     refine wp_seq ?_
     refine wp_gc ?_
     refine wp_gc ?_
     refine wp_blk ?_
     refine wp_seq ?_
     obtain ⟨v110, hv110, h⟩ := bs h
     refine wp_reg (nx' := 97) rfl (ev_v rfl rfl (ev_den (.pv _ _) rfl (d_idx_vr e0 rfl rfl hv110) (ev_den (.agg [(.vw _ _), (.vw _ _), (.vw _ _)]) rfl rfl (ev_new (.ptr 49 [] (some 0)) (.ptr (.agg [.int .i64 ((0 : Int)), .int .i64 ((0 : Int)), .int .i64 ((0 : Int))])) rfl rfl (ev_v rfl rfl (ev_wr0 rfl (w_st_a rfl rfl rfl (stL_cons (st1_of rfl rfl rfl (get_f rfl (get_nil)) rfl (rput_p (put_f rfl (put_nil)))) rfl (stL_cons (st1_of rfl rfl rfl (get_f rfl (get_nil)) rfl (rput_p (put_f rfl (put_nil)))) rfl (stL_cons (st1_of rfl rfl rfl (get_f rfl (get_nil)) rfl (rput_p (put_f rfl (put_nil)))) rfl (stL_nil))))) (ev_nil))))))) (seqQ_n (?_))
     refine wp_seq ?_
     refine wp_join (spec_slAll_j3 x75) (fun (x115 : Bool) => (⟨al .dead [(1, .vw [] (.rows 3 (List.map e0 p1))), (2, .ptr 0 [] (some 0)), (15, .vw [] (.rows 3 (List.map e0 p1))), (16, .vw [] (.int .i64 ((List.length p1 : Int)))), (17, .vw [] (.int .i64 x75)), (40, .vw [] (.bool x115))], hl [some (.ptr (.agg [.int .i64 p0.1, .bool p0.2]))], 1⟩ : St)) ?_ ?_
     ·rintro x115 o h
      unfold spec_slAll_j3 at h
      refine seqQ_n (?_)
      rcases its h with ⟨hc116, h⟩ | ⟨hc116, h⟩
      ·refine wp_ct rfl hc116 ?_
       refine wp_seq ?_
       refine wp_reg (nx' := 17) rfl (ev_v rfl rfl (ev_nil)) (seqQ_n (?_))
       replace h := Option.some.inj h
       subst h
       exact wp_ret (blkQ_r (gcQ_r (gcQ_r (seqQ_r (gcQ_r (loopQ_r (And.intro rfl (outs_ok (vs := [(.vw _ _)]) rfl (absW_cons rfl rfl (absW_nil)) rfl rfl))))))))
      ·refine wp_cf rfl hc116 ?_
       refine wp_skip (blkQ_n (gcQ_n (gc_to [0] (e := [(1, .vw [] (.rows 3 (List.map e0 p1))), (2, .ptr 0 [] (some 0)), (15, .vw [] (.rows 3 (List.map e0 p1))), (16, .vw [] (.int .i64 ((List.length p1 : Int)))), (17, .vw [] (.int .i64 x75))]) (ts := [some (.ptr (.agg [.int .i64 p0.1, .bool p0.2]))]) (n := 1) rfl rfl rfl rfl) (gcQ_n (gc_to [0] (e := [(1, .vw [] (.rows 3 (List.map e0 p1))), (2, .ptr 0 [] (some 0)), (15, .vw [] (.rows 3 (List.map e0 p1))), (16, .vw [] (.int .i64 ((List.length p1 : Int)))), (17, .vw [] (.int .i64 x75))]) (ts := [some (.ptr (.agg [.int .i64 p0.1, .bool p0.2]))]) (n := 1) rfl rfl rfl rfl) (seqQ_n (?_)))))
       replace h := Option.some.inj h
       subst h
       exact wp_reg (nx' := 33) rfl (ev_v rfl rfl (ev_v rfl rfl (ev_nil))) (gcQ_n (gc_to [0] (e := [(1, .vw [] (.rows 3 (List.map e0 p1))), (2, .ptr 0 [] (some 0)), (15, .vw [] (.rows 3 (List.map e0 p1))), (16, .vw [] (.int .i64 ((List.length p1 : Int)))), (17, .vw [] (.int .i64 ((w64 (x75 + (1 : Int))))))]) (ts := [some (.ptr (.agg [.int .i64 p0.1, .bool p0.2]))]) (n := 1) rfl rfl rfl rfl) (loopQ_n rfl))
     ·obtain ⟨v118, hv118, h⟩ := bs h
      rcases its h with ⟨hc119, h⟩ | ⟨hc119, h⟩
      ·exact wp_reg (nx' := 401) rfl (ev_den (.agg [(.vw _ _), (.vw _ _)]) rfl (d_ld_os rfl (rget_of rfl (get_nil)) rfl (cells_cons rfl (cells_cons rfl (cells_nil)))) (ev_den (.agg [(.vw _ _), (.vw _ _), (.vw _ _)]) rfl (d_ld_os rfl (rget_of rfl (get_nil)) rfl (cells_cons rfl (cells_cons rfl (cells_cons rfl (cells_nil))))) (ev_call0 [(.agg [(.vw _ _), (.vw _ _)]), (.agg [(.vw _ _), (.vw _ _), (.vw _ _)])] rfl (call_ok (rs := []) (rd := []) rfl rfl rfl rfl (argL_cons (argT_a (argL_cons rfl (argL_cons rfl (argL_nil)))) (argL_cons (argT_a (argL_cons rfl (argL_cons rfl (argL_cons rfl (argL_nil))))) (argL_nil))) rfl rfl (spec_slMessage_ok hv118) rfl rfl rfl rfl rfl) (ev_v rfl rfl (ev_v rfl rfl (ev_off rfl hc119 (ev_off rfl hc119 (ev_off rfl hc119 (ev_un rfl (ev_un rfl (ev_un rfl (ev_un rfl (ev_un rfl (ev_un rfl (ev_un rfl (ev_un rfl (ev_un rfl (ev_off rfl hc119 (ev_v rfl (d_pick_t rfl hc119 rfl) (ev_nil)))))))))))))))))))) (joinQ_n true h (gc_to [0] rfl rfl rfl rfl))
      ·rcases its h with ⟨hc121, h⟩ | ⟨hc121, h⟩
       ·obtain ⟨v122, hv122, h⟩ := bs h
        exact wp_reg (nx' := 401) rfl (ev_den (.agg [(.vw _ _), (.vw _ _)]) rfl (d_ld_os rfl (rget_of rfl (get_nil)) rfl (cells_cons rfl (cells_cons rfl (cells_nil)))) (ev_den (.agg [(.vw _ _), (.vw _ _), (.vw _ _)]) rfl (d_ld_os rfl (rget_of rfl (get_nil)) rfl (cells_cons rfl (cells_cons rfl (cells_cons rfl (cells_nil))))) (ev_call0 [(.agg [(.vw _ _), (.vw _ _)]), (.agg [(.vw _ _), (.vw _ _), (.vw _ _)])] rfl (call_ok (rs := []) (rd := []) rfl rfl rfl rfl (argL_cons (argT_a (argL_cons rfl (argL_cons rfl (argL_nil)))) (argL_cons (argT_a (argL_cons rfl (argL_cons rfl (argL_cons rfl (argL_nil))))) (argL_nil))) rfl rfl (spec_slMessage_ok hv118) rfl rfl rfl rfl rfl) (ev_v rfl rfl (ev_v rfl rfl (ev_on rfl hc119 (ev_v rfl rfl (ev_on rfl hc119 (ev_v rfl rfl (ev_on rfl hc119 (ev_v rfl rfl (ev_on rfl hc121 (ev_v rfl rfl (ev_on rfl hc121 (ev_v rfl rfl (ev_on rfl hc121 (ev_v rfl rfl (ev_on rfl hc121 (ev_den (.pv _ _) rfl (d_idx_vr e0 rfl rfl hv122) (ev_on rfl hc121 (ev_den (.pv _ _) rfl rfl (ev_on rfl hc121 (ev_v rfl rfl (ev_on rfl hc121 (ev_den (.ptr 49 [] (some 0)) rfl rfl (ev_on rfl hc121 (ev_v rfl (d_ld_o rfl (rget_of rfl (get_nil)) rfl rfl) (ev_on rfl hc121 (ev_v rfl rfl (ev_on rfl hc119 (ev_v rfl (d_pick_t rfl hc121 rfl) (ev_v rfl (d_pick_f rfl hc119 rfl) (ev_nil))))))))))))))))))))))))))))))))) (joinQ_n (decide (v122.1 > v110.1)) h (gc_to [0] rfl rfl rfl rfl))
       ·exact wp_reg (nx' := 401) rfl (ev_den (.agg [(.vw _ _), (.vw _ _)]) rfl (d_ld_os rfl (rget_of rfl (get_nil)) rfl (cells_cons rfl (cells_cons rfl (cells_nil)))) (ev_den (.agg [(.vw _ _), (.vw _ _), (.vw _ _)]) rfl (d_ld_os rfl (rget_of rfl (get_nil)) rfl (cells_cons rfl (cells_cons rfl (cells_cons rfl (cells_nil))))) (ev_call0 [(.agg [(.vw _ _), (.vw _ _)]), (.agg [(.vw _ _), (.vw _ _), (.vw _ _)])] rfl (call_ok (rs := []) (rd := []) rfl rfl rfl rfl (argL_cons (argT_a (argL_cons rfl (argL_cons rfl (argL_nil)))) (argL_cons (argT_a (argL_cons rfl (argL_cons rfl (argL_cons rfl (argL_nil))))) (argL_nil))) rfl rfl (spec_slMessage_ok hv118) rfl rfl rfl rfl rfl) (ev_v rfl rfl (ev_v rfl rfl (ev_on rfl hc119 (ev_v rfl rfl (ev_on rfl hc119 (ev_v rfl rfl (ev_on rfl hc119 (ev_v rfl rfl (ev_off rfl hc121 (ev_off rfl hc121 (ev_off rfl hc121 (ev_off rfl hc121 (ev_off rfl hc121 (ev_off rfl hc121 (ev_off rfl hc121 (ev_off rfl hc121 (ev_off rfl hc121 (ev_on rfl hc119 (ev_v rfl (d_pick_f rfl hc121 rfl) (ev_v rfl (d_pick_f rfl hc119 rfl) (ev_nil)))))))))))))))))))))))) (joinQ_n false h (gc_to [0] rfl rfl rfl rfl))
    ·refine wp_cf rfl hc95 ?_
     replace h := Option.some.inj h
     subst h
     exact wp_exit (gcQ_e (seqQ_e (gcQ_e (loopQ_e (And.intro rfl (gc_to [] (e := []) (ts := []) (n := 0) rfl rfl rfl rfl))))))
   ·intro e st125 hg125
    rcases w125 with _ | r126
    ·obtain ⟨rfl, hg125⟩ := hg125
     refine blkQ_h (gcQ_n hg125 (gcQ_n (gc_to [] (e := []) (ts := []) (n := 0) rfl rfl rfl rfl) (seqQ_n (?_))))
     refine wp_seq ?_
     refine wp_reg (nx' := 16) rfl (ev_v rfl rfl (ev_nil)) (seqQ_n (?_))
     replace h := Option.some.inj h
     subst h
     exact wp_ret (qf_r ((outs_ok (vs := [(.vw _ _)]) rfl (absW_cons rfl rfl (absW_nil)) rfl rfl)))
    ·obtain ⟨rfl, hg125⟩ := hg125
     replace h := Option.some.inj h
     subst h
     exact blkQ_r (gcQ_r (gcQ_r (seqQ_r (qf_r (hg125)))))
 ·obtain ⟨v127, hv127, h⟩ := bs h
  rcases its h with ⟨hc128, h⟩ | ⟨hc128, h⟩
  ·exact wp_reg (nx' := 160) rfl (ev_den (.agg [(.vw _ _), (.vw _ _)]) rfl (d_ld_os rfl (rget_of rfl (get_nil)) rfl (cells_cons rfl (cells_cons rfl (cells_nil)))) (ev_call0 [(.agg [(.vw _ _), (.vw _ _)])] rfl (call_ok (rs := []) (rd := []) rfl rfl rfl rfl (argL_cons (argT_a (argL_cons rfl (argL_cons rfl (argL_nil)))) (argL_nil)) rfl rfl (spec_slGood_ok hv127) rfl rfl rfl rfl rfl) (ev_v rfl rfl (ev_v rfl rfl (ev_off rfl hc128 (ev_off rfl hc128 (ev_off rfl hc128 (ev_v rfl (d_pick_t rfl hc128 rfl) (ev_nil))))))))) (joinQ_n true h (gc_to [0] rfl rfl rfl rfl))
  ·exact wp_reg (nx' := 160) rfl (ev_den (.agg [(.vw _ _), (.vw _ _)]) rfl (d_ld_os rfl (rget_of rfl (get_nil)) rfl (cells_cons rfl (cells_cons rfl (cells_nil)))) (ev_call0 [(.agg [(.vw _ _), (.vw _ _)])] rfl (call_ok (rs := []) (rd := []) rfl rfl rfl rfl (argL_cons (argT_a (argL_cons rfl (argL_cons rfl (argL_nil)))) (argL_nil)) rfl rfl (spec_slGood_ok hv127) rfl rfl rfl rfl rfl) (ev_v rfl rfl (ev_v rfl rfl (ev_on rfl hc128 (ev_v rfl rfl (ev_on rfl hc128 (ev_v rfl (d_len_vr (e := e0) rfl) (ev_on rfl hc128 (ev_v rfl rfl (ev_v rfl (d_pick_f rfl hc128 rfl) (ev_nil)))))))))))) (joinQ_n (decide ((List.length p1 : Int) > (20 : Int))) h (gc_to [0] rfl rfl rfl rfl))
/-- loop.example/g01176/spec.slTicks -/
noncomputable def spec_slTicks (p0 : Int × Bool) (p1 : List (Int × Int × Int)) : Option Int :=
if ((List.length p1 : Int) == (0 : Int)) = true then
some (0 : Int)
else
(at? p1 ((w64 ((List.length p1 : Int) - (1 : Int))))).bind fun v6 =>
(some ((w64 (v6.1 + (w64 ((w64 ((2 : Int) * p0.1)) * (w64 ((List.length p1 : Int) + (1 : Int))))))))).bind fun v7 =>
some v7
theorem spec_slTicks_ok {p0 : Int × Bool} {p1 : List (Int × Int × Int)} {o : Int} (h : spec_slTicks p0 p1 = some o) : RN 75 [.agg [.int .i64 p0.1, .bool p0.2], .rows 3 (List.map e0 p1)] [] = some (.int .i64 o, []) := by
 refine fn_run (o := o) (nr := 0) (F := k75) (st := ⟨entry 0 [.agg [.vw [] (.int .i64 p0.1), .vw [] (.bool p0.2)], .vw [] (.rows 3 (List.map e0 p1))], fun n => ([] : List T)[n]?, 0⟩) (fun (o : Int) => (.int .i64 o, [])) rfl fns_75 rfl rfl rfl ?_
 refine wp_seq ?_
 refine wp_reg (nx' := 32) rfl (ev_wr rfl (w_box (sv := (.agg [(.vw _ _), (.vw _ _)])) rfl rfl (absW_cons rfl rfl (absW_cons rfl rfl (absW_nil)))) (ev_v rfl rfl (ev_nil))) (seqQ_n (?_))
 refine wp_seq ?_
 refine wp_gc ?_
 refine wp_seq ?_
 refine wp_reg (nx' := 80) rfl (ev_v rfl rfl (ev_v rfl (d_len_vr (e := e0) rfl) (ev_v rfl rfl (ev_nil)))) (seqQ_n (?_))
 rcases its h with ⟨hc5, h⟩ | ⟨hc5, h⟩
 ·refine wp_ct rfl hc5 ?_
  refine wp_seq ?_
  refine wp_reg (nx' := 96) rfl (ev_v rfl rfl (ev_nil)) (seqQ_n (?_))
  replace h := Option.some.inj h
  subst h
  exact wp_ret (gcQ_r (seqQ_r (qf_r ((outs_ok (vs := [(.vw _ _)]) rfl (absW_cons rfl rfl (absW_nil)) rfl rfl)))))
 ·refine wp_cf rfl hc5 ?_
  refine wp_skip (gcQ_n (gc_to [0] (e := [(1, .vw [] (.rows 3 (List.map e0 p1))), (2, .ptr 0 [] (some 0))]) (ts := [some (.ptr (.agg [.int .i64 p0.1, .bool p0.2]))]) (n := 1) rfl rfl rfl rfl) (seqQ_n (?_)))
  refine wp_seq ?_
  obtain ⟨v6, hv6, h⟩ := bs h
  obtain ⟨v7, hv7, h⟩ := bs h
  refine wp_reg (nx' := 257) rfl (ev_v rfl rfl (ev_v rfl rfl (ev_v rfl (d_len_vr (e := e0) rfl) (ev_v rfl rfl (ev_den (.pv _ _) rfl (d_idx_vr e0 rfl rfl hv6) (ev_den (.pv _ _) rfl rfl (ev_v rfl rfl (ev_den (.ptr 0 [] (some 0)) rfl rfl (ev_v rfl (d_ld_o rfl (rget_of rfl (get_nil)) rfl rfl) (ev_v rfl rfl (ev_v rfl rfl (ev_v rfl (d_len_vr (e := e0) rfl) (ev_v rfl rfl (ev_v rfl rfl (ev_den (.vw [] (.int .i64 v7)) rfl (d_as_i rfl (Option.some.inj hv7)) (ev_v rfl rfl (ev_nil))))))))))))))))) (seqQ_n (?_))
  replace h := Option.some.inj h
  subst h
  exact wp_ret (qf_r ((outs_ok (vs := [(.vw _ _)]) rfl (absW_cons rfl rfl (absW_nil)) rfl rfl)))
noncomputable def spec_slNew_s1 (p1 : List (Int × Int × Int)) : ((List Int) × Int) → Option (((List Int) × Int) ⊕ ((List Int))) := fun (x32, x33) =>
if (decide (x33 < (List.length p1 : Int))) = true then
(app? x32 (([(-1 : Int)] : List Int))).bind fun v47 =>
some (.inl (v47, (w64 (x33 + (1 : Int)))))
else
some (.inr x32)
noncomputable def spec_slNew_l1 (p1 : List (Int × Int × Int)) : ((List Int) × Int) → Option ((List Int)) := iter (spec_slNew_s1 p1)
/-- loop.example/g01176/spec.slNew -/
noncomputable def spec_slNew (p0 : Int × Bool) (p1 : List (Int × Int × Int)) : Option ((Int × Bool × (List (Int × Int × Int)) × (List Int) × (List Int) × (List Int))) :=
(mk? p0.1 p0.1).bind fun u11 =>
(spec_slNew_l1 p1 ([], (0 : Int))).bind fun x38 =>
some (p0.1, p0.2, p1, (List.replicate (Int.toNat p0.1) (0 : Int)), x38, x38)
theorem spec_slNew_ok {p0 : Int × Bool} {p1 : List (Int × Int × Int)} {o : (Int × Bool × (List (Int × Int × Int)) × (List Int) × (List Int) × (List Int))} (h : spec_slNew p0 p1 = some o) : RN 52 [.agg [.int .i64 p0.1, .bool p0.2], .rows 3 (List.map e0 p1)] [] = some (.ptr (.agg [.int .i64 o.1, .bool o.2.1, .sh (.rows 3 (List.map e0 o.2.2.1)), .ints .i64 o.2.2.2.1, .ints .i64 o.2.2.2.2.1, .ints .i64 o.2.2.2.2.2]), []) := by
 refine fn_run (o := o) (nr := 0) (F := k52) (st := ⟨entry 0 [.agg [.vw [] (.int .i64 p0.1), .vw [] (.bool p0.2)], .vw [] (.rows 3 (List.map e0 p1))], fun n => ([] : List T)[n]?, 0⟩) (fun (o : (Int × Bool × (List (Int × Int × Int)) × (List Int) × (List Int) × (List Int))) => (.ptr (.agg [.int .i64 o.1, .bool o.2.1, .sh (.rows 3 (List.map e0 o.2.2.1)), .ints .i64 o.2.2.2.1, .ints .i64 o.2.2.2.2.1, .ints .i64 o.2.2.2.2.2]), [])) rfl fns_52 rfl rfl rfl ?_
 refine wp_seq ?_
 refine wp_reg (nx' := 32) rfl (ev_wr rfl (w_box (sv := (.agg [(.vw _ _), (.vw _ _)])) rfl rfl (absW_cons rfl rfl (absW_cons rfl rfl (absW_nil)))) (ev_den (.nilS _) rfl rfl (ev_nil))) (seqQ_n (?_))
 refine wp_seq ?_
 obtain ⟨u11, hu11, h⟩ := bs h
 refine wp_reg (nx' := 160) rfl (ev_den (.agg [(.vw _ _), (.vw _ _)]) rfl (d_ld_os rfl (rget_of rfl (get_nil)) rfl (cells_cons rfl (cells_cons rfl (cells_nil)))) (ev_v rfl rfl (ev_den (.ptr 0 [] (some 0)) rfl rfl (ev_v rfl (d_ld_o rfl (rget_of rfl (get_nil)) rfl rfl) (ev_new (.ref 96 [] 1 0 (List.length ((List.replicate (Int.toNat p0.1) (0 : Int))))) (.ints .i64 ((List.replicate (Int.toNat p0.1) (0 : Int)))) rfl (d_mks_i rfl rfl hu11) (ev_den (.agg [(.vw _ _), (.vw _ _), (.vw _ _), (.ref 96 _ _ _ _), (.nilS _), (.nilS _)]) rfl rfl (ev_wr rfl (w_box (sv := (.agg [(.vw _ _), (.vw _ _), (.vw _ _), (.ref 96 _ _ _ _), (.nilS _), (.nilS _)])) rfl rfl (absW_cons rfl rfl (absW_cons rfl rfl (absW_cons rfl rfl (absW_cons (abs_ref rfl sub_i) rfl (absW_cons rfl rfl (absW_cons rfl rfl (absW_nil)))))))) (ev_den (.ptr 128 [] (some 0)) rfl rfl (ev_nil))))))))) (seqQ_n (?_))
 refine wp_seq ?_
 refine wp_gc ?_
 refine wp_seq ?_
 refine wp_gc ?_
 refine wp_reg (nx' := 208) rfl (ev_v rfl rfl (ev_v rfl (d_len_vr (e := e0) rfl) (ev_v rfl rfl (ev_nil)))) (gcQ_n (gc_to [128] (e := [(5, .ptr 0 [] (some 0)), (14, .vw [] (.int .i64 ((List.length p1 : Int)))), (15, .vw [] (.int .i64 ((0 : Int))))]) (ts := [some (.ptr (.agg [.int .i64 p0.1, .bool p0.2, .sh (.rows 3 (List.map e0 p1)), .ints .i64 ((List.replicate (Int.toNat p0.1) (0 : Int))), .ints .i64 ([]), .ints .i64 ([])]))]) (n := 1) rfl rfl rfl rfl) (seqQ_n (?_)))
 refine wp_gc ?_
 refine wp_blk ?_
 obtain ⟨x38, hw51, h⟩ := bs h
 refine wp_mono (wp_loop (fun ((x32, x33) : (List Int) × Int) => (⟨al .dead [(5, .ptr 0 [] (some 0)), (14, .vw [] (.int .i64 ((List.length p1 : Int)))), (15, .vw [] (.int .i64 x33))], hl [some (.ptr (.agg [.int .i64 p0.1, .bool p0.2, .sh (.rows 3 (List.map e0 p1)), .ints .i64 ((List.replicate (Int.toNat p0.1) (0 : Int))), .ints .i64 x32, .ints .i64 x32]))], 1⟩ : St)) (fun (x38 : (List Int)) e st => e = .exit 0 ∧ gc 0 [5] st = ⟨al .dead [(5, .ptr 0 [] (some 0))], hl [some (.ptr (.agg [.int .i64 p0.1, .bool p0.2, .sh (.rows 3 (List.map e0 p1)), .ints .i64 ((List.replicate (Int.toNat p0.1) (0 : Int))), .ints .i64 x38, .ints .i64 x38]))], 1⟩) hw51 ?_) ?_
 ·rintro ⟨x32, x33⟩ o h
  refine wp_gc ?_
  refine wp_seq ?_
  refine wp_reg (nx' := 17) rfl (ev_v rfl rfl (ev_nil)) (seqQ_n (?_))
  refine wp_seq ?_
  refine wp_gc ?_
  rcases its h with ⟨hc44, h⟩ | ⟨hc44, h⟩
  ·refine wp_ct rfl hc44 ?_
   refine wp_skip (gcQ_n (gc_to [0] (e := [(5, .ptr 0 [] (some 0)), (14, .vw [] (.int .i64 ((List.length p1 : Int)))), (15, .vw [] (.int .i64 x33))]) (ts := [some (.ptr (.agg [.int .i64 p0.1, .bool p0.2, .sh (.rows 3 (List.map e0 p1)), .ints .i64 ((List.replicate (Int.toNat p0.1) (0 : Int))), .ints .i64 x32, .ints .i64 x32]))]) (n := 1) rfl rfl rfl rfl) (seqQ_n (?_)))
   refine wp_seq ?_
   refine wp_gc ?_
   refine wp_gc ?_
   refine wp_blk ?_
   refine wp_seq ?_
   obtain ⟨v47, hv47, h⟩ := bs h
   refine wp_reg (nx' := 161) rfl (ev_den (.ptr 0 [] (some 0)) rfl rfl (ev_den (.ptr 0 [] (some 0)) rfl rfl (ev_den (.ptr 0 [] (some 0)) rfl rfl (ev_den (.ptr 0 [] (some 4)) rfl rfl (ev_den (.ref 0 [.f 4] _ _ _) rfl (d_ld_o rfl (rget_of rfl (get_nil)) rfl rfl) (ev_v rfl rfl (ev_wr rfl (w_app_i (xv := (.ref 0 [.f 4] _ _ _)) 97 rfl rfl (abs_refp (r := .ptr (.agg [.int .i64 p0.1, .bool p0.2, .sh (.rows 3 (List.map e0 p1)), .ints .i64 ((List.replicate (Int.toNat p0.1) (0 : Int))), .ints .i64 x32, .ints .i64 x32])) rfl (get_f rfl (get_nil)) sub_i (rput_p (put_f rfl (put_nil)))) hv47 rfl) (ev_den (.ptr 0 [] (some 0)) rfl rfl (ev_den (.ptr 0 [] (some 4)) rfl rfl (ev_wr0 rfl (w_st_o rfl rfl (st1_of (abs_ref rfl sub_i) rfl rfl (get_f rfl (get_nil)) rfl (rput_p (put_f rfl (put_nil))))) (ev_nil))))))))))) (seqQ_n (?_))
   refine wp_reg (nx' := 321) rfl (ev_den (.ptr 0 [] (some 0)) rfl rfl (ev_den (.ptr 0 [] (some 0)) rfl rfl (ev_den (.ptr 0 [] (some 0)) rfl rfl (ev_den (.ptr 0 [] (some 5)) rfl rfl (ev_den (.ref 0 [.f 5] _ _ _) rfl (d_ld_o rfl (rget_of rfl (get_nil)) rfl rfl) (ev_v rfl rfl (ev_wr rfl (w_app_i (xv := (.ref 0 [.f 5] _ _ _)) 257 rfl rfl (abs_refp (r := .ptr (.agg [.int .i64 p0.1, .bool p0.2, .sh (.rows 3 (List.map e0 p1)), .ints .i64 ((List.replicate (Int.toNat p0.1) (0 : Int))), .ints .i64 v47, .ints .i64 x32])) rfl (get_f rfl (get_nil)) sub_i (rput_p (put_f rfl (put_nil)))) hv47 rfl) (ev_den (.ptr 0 [] (some 0)) rfl rfl (ev_den (.ptr 0 [] (some 5)) rfl rfl (ev_wr0 rfl (w_st_o rfl rfl (st1_of (abs_ref rfl sub_i) rfl rfl (get_f rfl (get_nil)) rfl (rput_p (put_f rfl (put_nil))))) (ev_nil))))))))))) (blkQ_n (gcQ_n (gc_to [0] (e := [(5, .ptr 0 [] (some 0)), (14, .vw [] (.int .i64 ((List.length p1 : Int)))), (15, .vw [] (.int .i64 x33))]) (ts := [some (.ptr (.agg [.int .i64 p0.1, .bool p0.2, .sh (.rows 3 (List.map e0 p1)), .ints .i64 ((List.replicate (Int.toNat p0.1) (0 : Int))), .ints .i64 v47, .ints .i64 v47]))]) (n := 1) rfl rfl rfl rfl) (gcQ_n (gc_to [0] (e := [(5, .ptr 0 [] (some 0)), (14, .vw [] (.int .i64 ((List.length p1 : Int)))), (15, .vw [] (.int .i64 x33))]) (ts := [some (.ptr (.agg [.int .i64 p0.1, .bool p0.2, .sh (.rows 3 (List.map e0 p1)), .ints .i64 ((List.replicate (Int.toNat p0.1) (0 : Int))), .ints .i64 v47, .ints .i64 v47]))]) (n := 1) rfl rfl rfl rfl) (seqQ_n (?_)))))
   replace h := Option.some.inj h
   subst h
   exact wp_reg (nx' := 33) rfl (ev_v rfl rfl (ev_v rfl rfl (ev_nil))) (gcQ_n (gc_to [0] (e := [(5, .ptr 0 [] (some 0)), (14, .vw [] (.int .i64 ((List.length p1 : Int)))), (15, .vw [] (.int .i64 ((w64 (x33 + (1 : Int))))))]) (ts := [some (.ptr (.agg [.int .i64 p0.1, .bool p0.2, .sh (.rows 3 (List.map e0 p1)), .ints .i64 ((List.replicate (Int.toNat p0.1) (0 : Int))), .ints .i64 v47, .ints .i64 v47]))]) (n := 1) rfl rfl rfl rfl) (loopQ_n rfl))
  ·refine wp_cf rfl hc44 ?_
   replace h := Option.some.inj h
   subst h
   exact wp_exit (gcQ_e (seqQ_e (gcQ_e (loopQ_e (And.intro rfl (gc_to [0] (e := [(5, .ptr 0 [] (some 0))]) (ts := [some (.ptr (.agg [.int .i64 p0.1, .bool p0.2, .sh (.rows 3 (List.map e0 p1)), .ints .i64 ((List.replicate (Int.toNat p0.1) (0 : Int))), .ints .i64 x32, .ints .i64 x32]))]) (n := 1) rfl rfl rfl rfl))))))
 ·intro e st51 hg51
  obtain ⟨rfl, hg51⟩ := hg51
  refine blkQ_h (gcQ_n hg51 (gcQ_n (gc_to [0] (e := [(5, .ptr 0 [] (some 0))]) (ts := [some (.ptr (.agg [.int .i64 p0.1, .bool p0.2, .sh (.rows 3 (List.map e0 p1)), .ints .i64 ((List.replicate (Int.toNat p0.1) (0 : Int))), .ints .i64 x38, .ints .i64 x38]))]) (n := 1) rfl rfl rfl rfl) (seqQ_n (?_))))
  refine wp_seq ?_
  refine wp_reg (nx' := 33) rfl (ev_den (.ptr 0 [] (some 0)) rfl rfl (ev_den (.ptr 0 [] (some 0)) rfl rfl (ev_nil))) (seqQ_n (?_))
  replace h := Option.some.inj h
  subst h
  exact wp_ret (qf_r ((outs_ok (vs := [(.ptr 0 [] (some 0))]) rfl (absW_cons rfl rfl (absW_nil)) rfl rfl)))
noncomputable def spec_slRun_next_j2 (c0 : Int × Bool × (List (Int × Int × Int)) × (List Int) × (List Int) × (List Int)) (x56 : Int) : Bool → Option (Int ⊕ (Unit ⊕ (Int × (Int × Bool × (List (Int × Int × Int)) × (List Int) × (List Int) × (List Int))))) := fun x91 =>
if x91 = true then
some (.inr (.inr (x56, c0)))
else
some (.inl ((w64 (x56 + (1 : Int)))))
noncomputable def spec_slRun_next_s1 (p1 : Int) (p2 : Int) (c0 : Int × Bool × (List (Int × Int × Int)) × (List Int) × (List Int) × (List Int)) : Int → Option (Int ⊕ (Unit ⊕ (Int × (Int × Bool × (List (Int × Int × Int)) × (List Int) × (List Int) × (List Int))))) := fun x56 =>
if (decide (x56 < (List.length c0.2.2.1 : Int))) = true then
(at? c0.2.2.1 x56).bind fun v87 =>
if (v87.2.1 == p1) = true then
if (decide (v87.1 ≤ p2)) = true then
(at? c0.2.2.2.2.1 x56).bind fun v96 =>
spec_slRun_next_j2 c0 x56 (decide (v96 < (0 : Int)))
else
spec_slRun_next_j2 c0 x56 false
else
spec_slRun_next_j2 c0 x56 false
else
some (.inr (.inl ()))
noncomputable def spec_slRun_next_l1 (p1 : Int) (p2 : Int) (c0 : Int × Bool × (List (Int × Int × Int)) × (List Int) × (List Int) × (List Int)) : Int → Option (Unit ⊕ (Int × (Int × Bool × (List (Int × Int × Int)) × (List Int) × (List Int) × (List Int)))) := iter (spec_slRun_next_s1 p1 p2 c0)
/-- (*loop.example/g01176/spec.slRun).next -/
noncomputable def spec_slRun_next (p1 : Int) (p2 : Int) (c0 : Int × Bool × (List (Int × Int × Int)) × (List Int) × (List Int) × (List Int)) : Option (Int × (Int × Bool × (List (Int × Int × Int)) × (List Int) × (List Int) × (List Int))) :=
(spec_slRun_next_l1 p1 p2 c0 (0 : Int)).bind fun w => match w with
| .inl _ =>
some ((-1 : Int), c0)
| .inr r101 =>
some r101
theorem spec_slRun_next_ok {p1 : Int} {p2 : Int} {c0 : Int × Bool × (List (Int × Int × Int)) × (List Int) × (List Int) × (List Int)} {o : Int × (Int × Bool × (List (Int × Int × Int)) × (List Int) × (List Int) × (List Int))} (h : spec_slRun_next p1 p2 c0 = some o) : RN 74 [.ref 0, .int .i64 p1, .int .i64 p2] [.ptr (.agg [.int .i64 c0.1, .bool c0.2.1, .sh (.rows 3 (List.map e0 c0.2.2.1)), .ints .i64 c0.2.2.2.1, .ints .i64 c0.2.2.2.2.1, .ints .i64 c0.2.2.2.2.2])] = some (.int .i64 o.1, [.ptr (.agg [.int .i64 o.2.1, .bool o.2.2.1, .sh (.rows 3 (List.map e0 o.2.2.2.1)), .ints .i64 o.2.2.2.2.1, .ints .i64 o.2.2.2.2.2.1, .ints .i64 o.2.2.2.2.2.2])]) := by
 refine fn_run (o := o) (nr := 1) (F := k74) (st := ⟨entry 0 [.ptr 0 [] (some 0), .vw [] (.int .i64 p1), .vw [] (.int .i64 p2)], fun n => ([.ptr (.agg [.int .i64 c0.1, .bool c0.2.1, .sh (.rows 3 (List.map e0 c0.2.2.1)), .ints .i64 c0.2.2.2.1, .ints .i64 c0.2.2.2.2.1, .ints .i64 c0.2.2.2.2.2])] : List T)[n]?, 1⟩) (fun (o : Int × (Int × Bool × (List (Int × Int × Int)) × (List Int) × (List Int) × (List Int))) => (.int .i64 o.1, [.ptr (.agg [.int .i64 o.2.1, .bool o.2.2.1, .sh (.rows 3 (List.map e0 o.2.2.2.1)), .ints .i64 o.2.2.2.2.1, .ints .i64 o.2.2.2.2.2.1, .ints .i64 o.2.2.2.2.2.2])])) rfl fns_74 rfl rfl rfl ?_
 refine wp_seq ?_
 refine wp_reg (nx' := 17) rfl (ev_v rfl rfl (ev_nil)) (seqQ_n (?_))
 refine wp_seq ?_
 refine wp_gc ?_
 refine wp_seq ?_
 refine wp_gc ?_
 refine wp_reg (nx' := 113) rfl (ev_den (.ptr 0 [] (some 0)) rfl rfl (ev_den (.ptr 0 [] (some 0)) rfl rfl (ev_den (.ptr 0 [] (some 2)) rfl rfl (ev_v rfl (d_ld_o rfl (rget_of rfl (get_nil)) rfl rfl) (ev_v rfl (d_len_vr (e := e0) rfl) (ev_v rfl rfl (ev_nil))))))) (gcQ_n (gc_to [] (e := [(0, .ptr 0 [] (some 0)), (1, .vw [] (.int .i64 p1)), (2, .vw [] (.int .i64 p2)), (12, .vw [] (.rows 3 (List.map e0 c0.2.2.1))), (13, .vw [] (.int .i64 ((List.length c0.2.2.1 : Int)))), (14, .vw [] (.int .i64 ((0 : Int))))]) (ts := [some (.ptr (.agg [.int .i64 c0.1, .bool c0.2.1, .sh (.rows 3 (List.map e0 c0.2.2.1)), .ints .i64 c0.2.2.2.1, .ints .i64 c0.2.2.2.2.1, .ints .i64 c0.2.2.2.2.2]))]) (n := 1) rfl rfl rfl rfl) (seqQ_n (?_)))
 refine wp_gc ?_
 refine wp_blk ?_
 obtain ⟨w100, hw100, h⟩ := bs h
 refine wp_mono (wp_loop (fun (x56 : Int) => (⟨al .dead [(0, .ptr 0 [] (some 0)), (1, .vw [] (.int .i64 p1)), (2, .vw [] (.int .i64 p2)), (12, .vw [] (.rows 3 (List.map e0 c0.2.2.1))), (13, .vw [] (.int .i64 ((List.length c0.2.2.1 : Int)))), (14, .vw [] (.int .i64 x56))], hl [some (.ptr (.agg [.int .i64 c0.1, .bool c0.2.1, .sh (.rows 3 (List.map e0 c0.2.2.1)), .ints .i64 c0.2.2.2.1, .ints .i64 c0.2.2.2.2.1, .ints .i64 c0.2.2.2.2.2]))], 1⟩ : St)) (fun (v : Unit ⊕ (Int × (Int × Bool × (List (Int × Int × Int)) × (List Int) × (List Int) × (List Int)))) e st => match v with | .inl _ => e = .exit 0 ∧ gc 1 [] st = ⟨al .dead [], hl [some (.ptr (.agg [.int .i64 c0.1, .bool c0.2.1, .sh (.rows 3 (List.map e0 c0.2.2.1)), .ints .i64 c0.2.2.2.1, .ints .i64 c0.2.2.2.2.1, .ints .i64 c0.2.2.2.2.2]))], 1⟩ | .inr rr => e = .ret ∧ outs 1 k74 st = some (.int .i64 rr.1, [.ptr (.agg [.int .i64 rr.2.1, .bool rr.2.2.1, .sh (.rows 3 (List.map e0 rr.2.2.2.1)), .ints .i64 rr.2.2.2.2.1, .ints .i64 rr.2.2.2.2.2.1, .ints .i64 rr.2.2.2.2.2.2])])) hw100 ?_) ?_
 ·rintro x56 o h
  refine wp_gc ?_
  refine wp_seq ?_
  refine wp_reg (nx' := 17) rfl (ev_v rfl rfl (ev_nil)) (seqQ_n (?_))
  refine wp_seq ?_
  refine wp_gc ?_
  rcases its h with ⟨hc74, h⟩ | ⟨hc74, h⟩
  ·refine wp_ct rfl hc74 ?_
   refine wp_skip (gcQ_n (gc_to [] (e := [(0, .ptr 0 [] (some 0)), (1, .vw [] (.int .i64 p1)), (2, .vw [] (.int .i64 p2)), (12, .vw [] (.rows 3 (List.map e0 c0.2.2.1))), (13, .vw [] (.int .i64 ((List.length c0.2.2.1 : Int)))), (14, .vw [] (.int .i64 x56))]) (ts := [some (.ptr (.agg [.int .i64 c0.1, .bool c0.2.1, .sh (.rows 3 (List.map e0 c0.2.2.1)), .ints .i64 c0.2.2.2.1, .ints .i64 c0.2.2.2.2.1, .ints .i64 c0.2.2.2.2.2]))]) (n := 1) rfl rfl rfl rfl) (seqQ_n (?_)))
   refine wp_seq ?_
   refine wp_gc ?_
   refine wp_gc ?_
   refine wp_blk ?_
   refine wp_seq ?_
   obtain ⟨v87, hv87, h⟩ := bs h
   refine wp_reg (nx' := 97) rfl (ev_v rfl rfl (ev_den (.pv _ _) rfl (d_idx_vr e0 rfl rfl hv87) (ev_den (.agg [(.vw _ _), (.vw _ _), (.vw _ _)]) rfl rfl (ev_new (.ptr 49 [] (some 0)) (.ptr (.agg [.int .i64 ((0 : Int)), .int .i64 ((0 : Int)), .int .i64 ((0 : Int))])) rfl rfl (ev_v rfl rfl (ev_wr0 rfl (w_st_a rfl rfl rfl (stL_cons (st1_of rfl rfl rfl (get_f rfl (get_nil)) rfl (rput_p (put_f rfl (put_nil)))) rfl (stL_cons (st1_of rfl rfl rfl (get_f rfl (get_nil)) rfl (rput_p (put_f rfl (put_nil)))) rfl (stL_cons (st1_of rfl rfl rfl (get_f rfl (get_nil)) rfl (rput_p (put_f rfl (put_nil)))) rfl (stL_nil))))) (ev_nil))))))) (seqQ_n (?_))
   refine wp_seq ?_
   refine wp_join (spec_slRun_next_j2 c0 x56) (fun (x91 : Bool) => (⟨al .dead [(0, .ptr 0 [] (some 0)), (1, .vw [] (.int .i64 p1)), (2, .vw [] (.int .i64 p2)), (7, .vw [] (.int .i64 x56)), (12, .vw [] (.rows 3 (List.map e0 c0.2.2.1))), (13, .vw [] (.int .i64 ((List.length c0.2.2.1 : Int)))), (14, .vw [] (.int .i64 x56)), (38, .vw [] (.bool x91))], hl [some (.ptr (.agg [.int .i64 c0.1, .bool c0.2.1, .sh (.rows 3 (List.map e0 c0.2.2.1)), .ints .i64 c0.2.2.2.1, .ints .i64 c0.2.2.2.2.1, .ints .i64 c0.2.2.2.2.2]))], 1⟩ : St)) ?_ ?_
   ·rintro x91 o h
    unfold spec_slRun_next_j2 at h
    refine seqQ_n (?_)
    rcases its h with ⟨hc92, h⟩ | ⟨hc92, h⟩
    ·refine wp_ct rfl hc92 ?_
     refine wp_seq ?_
     refine wp_reg (nx' := 33) rfl (ev_v rfl rfl (ev_v rfl rfl (ev_nil))) (seqQ_n (?_))
     replace h := Option.some.inj h
     subst h
     exact wp_ret (blkQ_r (gcQ_r (gcQ_r (seqQ_r (gcQ_r (loopQ_r (And.intro rfl (outs_ok (vs := [(.vw _ _)]) rfl (absW_cons rfl rfl (absW_nil)) rfl rfl))))))))
    ·refine wp_cf rfl hc92 ?_
     refine wp_skip (blkQ_n (gcQ_n (gc_to [] (e := [(0, .ptr 0 [] (some 0)), (1, .vw [] (.int .i64 p1)), (2, .vw [] (.int .i64 p2)), (12, .vw [] (.rows 3 (List.map e0 c0.2.2.1))), (13, .vw [] (.int .i64 ((List.length c0.2.2.1 : Int)))), (14, .vw [] (.int .i64 x56))]) (ts := [some (.ptr (.agg [.int .i64 c0.1, .bool c0.2.1, .sh (.rows 3 (List.map e0 c0.2.2.1)), .ints .i64 c0.2.2.2.1, .ints .i64 c0.2.2.2.2.1, .ints .i64 c0.2.2.2.2.2]))]) (n := 1) rfl rfl rfl rfl) (gcQ_n (gc_to [] (e := [(0, .ptr 0 [] (some 0)), (1, .vw [] (.int .i64 p1)), (2, .vw [] (.int .i64 p2)), (12, .vw [] (.rows 3 (List.map e0 c0.2.2.1))), (13, .vw [] (.int .i64 ((List.length c0.2.2.1 : Int)))), (14, .vw [] (.int .i64 x56))]) (ts := [some (.ptr (.agg [.int .i64 c0.1, .bool c0.2.1, .sh (.rows 3 (List.map e0 c0.2.2.1)), .ints .i64 c0.2.2.2.1, .ints .i64 c0.2.2.2.2.1, .ints .i64 c0.2.2.2.2.2]))]) (n := 1) rfl rfl rfl rfl) (seqQ_n (?_)))))
     replace h := Option.some.inj h
     subst h
     exact wp_reg (nx' := 33) rfl (ev_v rfl rfl (ev_v rfl rfl (ev_nil))) (gcQ_n (gc_to [] (e := [(0, .ptr 0 [] (some 0)), (1, .vw [] (.int .i64 p1)), (2, .vw [] (.int .i64 p2)), (12, .vw [] (.rows 3 (List.map e0 c0.2.2.1))), (13, .vw [] (.int .i64 ((List.length c0.2.2.1 : Int)))), (14, .vw [] (.int .i64 ((w64 (x56 + (1 : Int))))))]) (ts := [some (.ptr (.agg [.int .i64 c0.1, .bool c0.2.1, .sh (.rows 3 (List.map e0 c0.2.2.1)), .ints .i64 c0.2.2.2.1, .ints .i64 c0.2.2.2.2.1, .ints .i64 c0.2.2.2.2.2]))]) (n := 1) rfl rfl rfl rfl) (loopQ_n rfl))
   ·rcases its h with ⟨hc94, h⟩ | ⟨hc94, h⟩
    ·rcases its h with ⟨hc95, h⟩ | ⟨hc95, h⟩
     ·obtain ⟨v96, hv96, h⟩ := bs h
      exact wp_reg (nx' := 417) rfl (ev_den (.ptr 49 [] (some 1)) rfl rfl (ev_v rfl (d_ld_o rfl (rget_of rfl (get_nil)) rfl rfl) (ev_v rfl rfl (ev_v rfl rfl (ev_v rfl rfl (ev_on rfl hc94 (ev_den (.ptr 49 [] (some 0)) rfl rfl (ev_on rfl hc94 (ev_v rfl (d_ld_o rfl (rget_of rfl (get_nil)) rfl rfl) (ev_on rfl hc94 (ev_v rfl rfl (ev_on rfl hc94 (ev_v rfl rfl (ev_v rfl (d_pick_t rfl hc94 rfl) (ev_v rfl rfl (ev_on rfl hc95 (ev_den (.ptr 0 [] (some 0)) rfl rfl (ev_on rfl hc95 (ev_den (.ptr 0 [] (some 0)) rfl rfl (ev_on rfl hc95 (ev_den (.ptr 0 [] (some 4)) rfl rfl (ev_on rfl hc95 (ev_den (.ref 0 [.f 4] _ _ _) rfl (d_ld_o rfl (rget_of rfl (get_nil)) rfl rfl) (ev_on rfl hc95 (ev_v rfl rfl (ev_on rfl hc95 (ev_den (.ptr 0 [.f 4, .e (Int.toNat x56)] none) rfl (d_idx_r (p := [.f 4]) rfl rfl hv96) (ev_on rfl hc95 (ev_v rfl (d_ld_p rfl (rget_of rfl (get_f rfl (get_i hv96))) rfl) (ev_on rfl hc95 (ev_v rfl rfl (ev_v rfl (d_pick_t rfl hc95 rfl) (ev_nil))))))))))))))))))))))))))))))))) (joinQ_n (decide (v96 < (0 : Int))) h (gc_to [] rfl rfl rfl rfl))
     ·exact wp_reg (nx' := 417) rfl (ev_den (.ptr 49 [] (some 1)) rfl rfl (ev_v rfl (d_ld_o rfl (rget_of rfl (get_nil)) rfl rfl) (ev_v rfl rfl (ev_v rfl rfl (ev_v rfl rfl (ev_on rfl hc94 (ev_den (.ptr 49 [] (some 0)) rfl rfl (ev_on rfl hc94 (ev_v rfl (d_ld_o rfl (rget_of rfl (get_nil)) rfl rfl) (ev_on rfl hc94 (ev_v rfl rfl (ev_on rfl hc94 (ev_v rfl rfl (ev_v rfl (d_pick_t rfl hc94 rfl) (ev_v rfl rfl (ev_off rfl hc95 (ev_off rfl hc95 (ev_off rfl hc95 (ev_off rfl hc95 (ev_off rfl hc95 (ev_off rfl hc95 (ev_off rfl hc95 (ev_off rfl hc95 (ev_v rfl (d_pick_f rfl hc95 rfl) (ev_nil))))))))))))))))))))))))) (joinQ_n false h (gc_to [] rfl rfl rfl rfl))
    ·exact wp_reg (nx' := 417) rfl (ev_den (.ptr 49 [] (some 1)) rfl rfl (ev_v rfl (d_ld_o rfl (rget_of rfl (get_nil)) rfl rfl) (ev_v rfl rfl (ev_v rfl rfl (ev_v rfl rfl (ev_off rfl hc94 (ev_off rfl hc94 (ev_off rfl hc94 (ev_off rfl hc94 (ev_v rfl (d_pick_f rfl hc94 rfl) (ev_v rfl rfl (ev_off rfl rfl (ev_off rfl rfl (ev_off rfl rfl (ev_off rfl rfl (ev_off rfl rfl (ev_off rfl rfl (ev_off rfl rfl (ev_off rfl rfl (ev_v rfl (d_pick_f rfl rfl rfl) (ev_nil))))))))))))))))))))) (joinQ_n false h (gc_to [] rfl rfl rfl rfl))
  ·refine wp_cf rfl hc74 ?_
   replace h := Option.some.inj h
   subst h
   exact wp_exit (gcQ_e (seqQ_e (gcQ_e (loopQ_e (And.intro rfl (gc_to [] (e := []) (ts := [some (.ptr (.agg [.int .i64 c0.1, .bool c0.2.1, .sh (.rows 3 (List.map e0 c0.2.2.1)), .ints .i64 c0.2.2.2.1, .ints .i64 c0.2.2.2.2.1, .ints .i64 c0.2.2.2.2.2]))]) (n := 1) rfl rfl rfl rfl))))))
 ·intro e st100 hg100
  rcases w100 with _ | r101
  ·obtain ⟨rfl, hg100⟩ := hg100
   refine blkQ_h (gcQ_n hg100 (gcQ_n (gc_to [] (e := []) (ts := [some (.ptr (.agg [.int .i64 c0.1, .bool c0.2.1, .sh (.rows 3 (List.map e0 c0.2.2.1)), .ints .i64 c0.2.2.2.1, .ints .i64 c0.2.2.2.2.1, .ints .i64 c0.2.2.2.2.2]))]) (n := 1) rfl rfl rfl rfl) (seqQ_n (?_))))
   refine wp_seq ?_
   refine wp_reg (nx' := 17) rfl (ev_v rfl rfl (ev_nil)) (seqQ_n (?_))
   replace h := Option.some.inj h
   subst h
   exact wp_ret (qf_r ((outs_ok (vs := [(.vw _ _)]) rfl (absW_cons rfl rfl (absW_nil)) rfl rfl)))
  ·obtain ⟨rfl, hg100⟩ := hg100
   replace h := Option.some.inj h
   subst h
   exact blkQ_r (gcQ_r (gcQ_r (seqQ_r (qf_r (hg100)))))
end Go.Proofs.Yteeejellpcikkaa.Ev.G5
