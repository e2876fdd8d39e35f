/- What functions of the program come to, as plain functions; no condition. -/
import Derived.Test.YtoeddkfbhjmbmaaQ22
set_option linter.unusedVariables false
set_option linter.unusedSimpArgs false
set_option maxRecDepth 100000
set_option maxHeartbeats 4000000
set_option linter.unusedVariables false
namespace Go.Proofs.Ytoeddkfbhjmbmaa.Ev.Q2
open Go
noncomputable def spec_boTimed_j1 (p0 : Int × Int × (List Int)) : Bool → Option (Bool) := fun x27 =>
if x27 = true then
some false
else
(spec_boUsed p0).bind fun v29 =>
some (decide (v29 ≤ p0.1))
/-- loop.example/g01176/spec.boTimed -/
noncomputable def spec_boTimed (p0 : Int × Int × (List Int)) : Option Bool :=
(spec_l1In ((List.length p0.2.2 : Int)) ((1 : Int)) ((12 : Int))).bind fun v30 =>
if (!v30) = true then
spec_boTimed_j1 p0 true
else
(spec_l1In p0.1 ((1 : Int)) ((200 : Int))).bind fun v33 =>
if (!v33) = true then
spec_boTimed_j1 p0 true
else
(spec_l1In p0.2.1 ((1 : Int)) ((20 : Int))).bind fun v36 =>
if (!v36) = true then
spec_boTimed_j1 p0 true
else
(spec_l1All p0.2.2 ((0 : Int)) ((200 : Int))).bind fun v39 =>
spec_boTimed_j1 p0 (!v39)
theorem spec_boTimed_ok {p0 : Int × Int × (List Int)} {o : Bool} (h : spec_boTimed p0 = some o) : RN 72 [.agg [.int .i64 p0.1, .int .i64 p0.2.1, .ints .i64 p0.2.2]] [] = some (.bool o, []) := by
  refine fn_run (o := o) (nr := 0) (F := k72) (st := ⟨entry 0 [.agg [.vw [] (.int .i64 p0.1), .vw [] (.int .i64 p0.2.1), .vw [] (.ints .i64 p0.2.2)]], fun n => ([] : List T)[n]?, 0⟩) (fun (o : Bool) => (.bool o, [])) rfl fns_72 rfl rfl ?_
  refine wp_seq ?_
  refine wp_reg (nx' := 32) rfl (ev_wr rfl (w_box (sv := (.agg [(.vw _ _), (.vw _ _), (.vw _ _)])) rfl rfl (absW_cons rfl rfl (absW_cons rfl rfl (absW_cons rfl rfl (absW_nil))))) (ev_den (.vw _ _) rfl rfl (ev_nil))) (seqQ_n (?_))
  refine wp_seq ?_
  refine wp_gc ?_
  refine wp_seq ?_
  refine wp_join (spec_boTimed_j1 p0) (fun (x27 : Bool) => (⟨al .dead [(1, .ptr 0 [] (some 0)), (25, .vw [] (.bool x27))], hl [some (.ptr (.agg [.int .i64 p0.1, .int .i64 p0.2.1, .sh (.ints .i64 p0.2.2)]))], 1⟩ : St)) ?_ ?_
  · rintro x27 o h
    refine seqQ_n (?_)
    rcases its h with ⟨hc28, h⟩ | ⟨hc28, h⟩
    · refine wp_ct rfl hc28 ?_
      refine wp_seq ?_
      refine wp_reg (nx' := 17) rfl (ev_den (.vw _ _) rfl rfl (ev_nil)) (seqQ_n (?_))
      cases h
      exact wp_ret (gcQ_r (seqQ_r (qf_r ((outs_ok (vs := [(.vw _ _)]) rfl (absW_cons rfl rfl (absW_nil)) rfl rfl)))))
    · refine wp_cf rfl hc28 ?_
      refine wp_skip (gcQ_n (gc_to [0] (e := [(1, .ptr 0 [] (some 0))]) (ts := [some (.ptr (.agg [.int .i64 p0.1, .int .i64 p0.2.1, .sh (.ints .i64 p0.2.2)]))]) (n := 1) rfl rfl rfl rfl) (seqQ_n (?_)))
      refine wp_seq ?_
      obtain ⟨v29, hv29, h⟩ := bs h
      refine wp_reg (nx' := 97) rfl (ev_den (.agg [(.vw _ _), (.vw _ _), (.vw _ _)]) rfl (d_ld_os rfl (rget_of rfl (get_nil)) rfl (cells_cons rfl (cells_cons rfl (cells_cons rfl (cells_nil))))) (ev_call0 [(.agg [(.vw _ _), (.vw _ _), (.vw _ _)])] rfl (call_ok (rs := []) (rd := []) rfl rfl rfl rfl (argL_cons (argT_a (argL_cons rfl (argL_cons rfl (argL_cons rfl (argL_nil))))) (argL_nil)) rfl rfl (spec_boUsed_ok hv29) rfl rfl rfl rfl rfl) (ev_den (.ptr 0 [] (some 0)) rfl rfl (ev_den (.vw _ _) rfl (d_ld_o rfl (rget_of rfl (get_nil)) rfl rfl) (ev_den (.vw _ _) rfl rfl (ev_den (.vw _ _) rfl rfl (ev_nil))))))) (seqQ_n (?_))
      cases h
      exact wp_ret (qf_r ((outs_ok (vs := [(.vw _ _)]) rfl (absW_cons rfl rfl (absW_nil)) rfl rfl)))
  · obtain ⟨v30, hv30, h⟩ := bs h
    rcases its h with ⟨hc31, h⟩ | ⟨hc31, h⟩
    · exact wp_reg (nx' := 400) rfl (ev_den (.ptr 0 [] (some 2)) rfl rfl (ev_den (.vw _ _) rfl (d_ld_o rfl (rget_of rfl (get_nil)) rfl rfl) (ev_den (.vw _ _) rfl rfl (ev_call0 [(.vw _ _), (.vw _ _), (.vw _ _)] rfl (call_ok (rs := []) (rd := []) rfl rfl rfl rfl (argL_cons rfl (argL_cons rfl (argL_cons rfl (argL_nil)))) rfl rfl (spec_l1In_ok hv30) rfl rfl rfl rfl rfl) (ev_den (.vw _ _) rfl rfl (ev_den (.vw _ _) rfl rfl (ev_off rfl hc31 (ev_off rfl hc31 (ev_off rfl hc31 (ev_off rfl hc31 (ev_den (.vw _ _) rfl (d_pick_t rfl hc31 rfl) (ev_den (.vw _ _) rfl rfl (ev_off rfl rfl (ev_off rfl rfl (ev_off rfl rfl (ev_off rfl rfl (ev_den (.vw _ _) rfl (d_pick_t rfl rfl rfl) (ev_den (.vw _ _) rfl rfl (ev_off rfl rfl (ev_off rfl rfl (ev_off rfl rfl (ev_off rfl rfl (ev_den (.vw _ _) rfl (d_pick_t rfl rfl rfl) (ev_nil)))))))))))))))))))))))) (joinQ_n true h (gc_to [0] rfl rfl rfl rfl))
    · obtain ⟨v33, hv33, h⟩ := bs h
      rcases its h with ⟨hc34, h⟩ | ⟨hc34, h⟩
      · exact wp_reg (nx' := 400) rfl (ev_den (.ptr 0 [] (some 2)) rfl rfl (ev_den (.vw _ _) rfl (d_ld_o rfl (rget_of rfl (get_nil)) rfl rfl) (ev_den (.vw _ _) rfl rfl (ev_call0 [(.vw _ _), (.vw _ _), (.vw _ _)] rfl (call_ok (rs := []) (rd := []) rfl rfl rfl rfl (argL_cons rfl (argL_cons rfl (argL_cons rfl (argL_nil)))) rfl rfl (spec_l1In_ok hv30) rfl rfl rfl rfl rfl) (ev_den (.vw _ _) rfl rfl (ev_den (.vw _ _) rfl rfl (ev_on rfl hc31 (ev_den (.ptr 0 [] (some 0)) rfl rfl (ev_on rfl hc31 (ev_den (.vw _ _) rfl (d_ld_o rfl (rget_of rfl (get_nil)) rfl rfl) (ev_on rfl hc31 (ev_call0 [(.vw _ _), (.vw _ _), (.vw _ _)] rfl (call_ok (rs := []) (rd := []) rfl rfl rfl rfl (argL_cons rfl (argL_cons rfl (argL_cons rfl (argL_nil)))) rfl rfl (spec_l1In_ok hv33) rfl rfl rfl rfl rfl) (ev_on rfl hc31 (ev_den (.vw _ _) rfl rfl (ev_den (.vw _ _) rfl (d_pick_f rfl hc31 rfl) (ev_den (.vw _ _) rfl rfl (ev_off rfl hc34 (ev_off rfl hc34 (ev_off rfl hc34 (ev_off rfl hc34 (ev_den (.vw _ _) rfl (d_pick_t rfl hc34 rfl) (ev_den (.vw _ _) rfl rfl (ev_off rfl rfl (ev_off rfl rfl (ev_off rfl rfl (ev_off rfl rfl (ev_den (.vw _ _) rfl (d_pick_t rfl rfl rfl) (ev_nil)))))))))))))))))))))))))))) (joinQ_n true h (gc_to [0] rfl rfl rfl rfl))
      · obtain ⟨v36, hv36, h⟩ := bs h
        rcases its h with ⟨hc37, h⟩ | ⟨hc37, h⟩
        · exact wp_reg (nx' := 400) rfl (ev_den (.ptr 0 [] (some 2)) rfl rfl (ev_den (.vw _ _) rfl (d_ld_o rfl (rget_of rfl (get_nil)) rfl rfl) (ev_den (.vw _ _) rfl rfl (ev_call0 [(.vw _ _), (.vw _ _), (.vw _ _)] rfl (call_ok (rs := []) (rd := []) rfl rfl rfl rfl (argL_cons rfl (argL_cons rfl (argL_cons rfl (argL_nil)))) rfl rfl (spec_l1In_ok hv30) rfl rfl rfl rfl rfl) (ev_den (.vw _ _) rfl rfl (ev_den (.vw _ _) rfl rfl (ev_on rfl hc31 (ev_den (.ptr 0 [] (some 0)) rfl rfl (ev_on rfl hc31 (ev_den (.vw _ _) rfl (d_ld_o rfl (rget_of rfl (get_nil)) rfl rfl) (ev_on rfl hc31 (ev_call0 [(.vw _ _), (.vw _ _), (.vw _ _)] rfl (call_ok (rs := []) (rd := []) rfl rfl rfl rfl (argL_cons rfl (argL_cons rfl (argL_cons rfl (argL_nil)))) rfl rfl (spec_l1In_ok hv33) rfl rfl rfl rfl rfl) (ev_on rfl hc31 (ev_den (.vw _ _) rfl rfl (ev_den (.vw _ _) rfl (d_pick_f rfl hc31 rfl) (ev_den (.vw _ _) rfl rfl (ev_on rfl hc34 (ev_den (.ptr 0 [] (some 1)) rfl rfl (ev_on rfl hc34 (ev_den (.vw _ _) rfl (d_ld_o rfl (rget_of rfl (get_nil)) rfl rfl) (ev_on rfl hc34 (ev_call0 [(.vw _ _), (.vw _ _), (.vw _ _)] rfl (call_ok (rs := []) (rd := []) rfl rfl rfl rfl (argL_cons rfl (argL_cons rfl (argL_cons rfl (argL_nil)))) rfl rfl (spec_l1In_ok hv36) rfl rfl rfl rfl rfl) (ev_on rfl hc34 (ev_den (.vw _ _) rfl rfl (ev_den (.vw _ _) rfl (d_pick_f rfl hc34 rfl) (ev_den (.vw _ _) rfl rfl (ev_off rfl hc37 (ev_off rfl hc37 (ev_off rfl hc37 (ev_off rfl hc37 (ev_den (.vw _ _) rfl (d_pick_t rfl hc37 rfl) (ev_nil)))))))))))))))))))))))))))))))) (joinQ_n true h (gc_to [0] rfl rfl rfl rfl))
        · obtain ⟨v39, hv39, h⟩ := bs h
          exact wp_reg (nx' := 400) rfl (ev_den (.ptr 0 [] (some 2)) rfl rfl (ev_den (.vw _ _) rfl (d_ld_o rfl (rget_of rfl (get_nil)) rfl rfl) (ev_den (.vw _ _) rfl rfl (ev_call0 [(.vw _ _), (.vw _ _), (.vw _ _)] rfl (call_ok (rs := []) (rd := []) rfl rfl rfl rfl (argL_cons rfl (argL_cons rfl (argL_cons rfl (argL_nil)))) rfl rfl (spec_l1In_ok hv30) rfl rfl rfl rfl rfl) (ev_den (.vw _ _) rfl rfl (ev_den (.vw _ _) rfl rfl (ev_on rfl hc31 (ev_den (.ptr 0 [] (some 0)) rfl rfl (ev_on rfl hc31 (ev_den (.vw _ _) rfl (d_ld_o rfl (rget_of rfl (get_nil)) rfl rfl) (ev_on rfl hc31 (ev_call0 [(.vw _ _), (.vw _ _), (.vw _ _)] rfl (call_ok (rs := []) (rd := []) rfl rfl rfl rfl (argL_cons rfl (argL_cons rfl (argL_cons rfl (argL_nil)))) rfl rfl (spec_l1In_ok hv33) rfl rfl rfl rfl rfl) (ev_on rfl hc31 (ev_den (.vw _ _) rfl rfl (ev_den (.vw _ _) rfl (d_pick_f rfl hc31 rfl) (ev_den (.vw _ _) rfl rfl (ev_on rfl hc34 (ev_den (.ptr 0 [] (some 1)) rfl rfl (ev_on rfl hc34 (ev_den (.vw _ _) rfl (d_ld_o rfl (rget_of rfl (get_nil)) rfl rfl) (ev_on rfl hc34 (ev_call0 [(.vw _ _), (.vw _ _), (.vw _ _)] rfl (call_ok (rs := []) (rd := []) rfl rfl rfl rfl (argL_cons rfl (argL_cons rfl (argL_cons rfl (argL_nil)))) rfl rfl (spec_l1In_ok hv36) rfl rfl rfl rfl rfl) (ev_on rfl hc34 (ev_den (.vw _ _) rfl rfl (ev_den (.vw _ _) rfl (d_pick_f rfl hc34 rfl) (ev_den (.vw _ _) rfl rfl (ev_on rfl hc37 (ev_den (.ptr 0 [] (some 2)) rfl rfl (ev_on rfl hc37 (ev_den (.vw _ _) rfl (d_ld_o rfl (rget_of rfl (get_nil)) rfl rfl) (ev_on rfl hc37 (ev_call0 [(.vw _ _), (.vw _ _), (.vw _ _)] rfl (call_ok (rs := []) (rd := []) rfl rfl rfl rfl (argL_cons rfl (argL_cons rfl (argL_cons rfl (argL_nil)))) rfl rfl (spec_l1All_ok hv39) rfl rfl rfl rfl rfl) (ev_on rfl hc37 (ev_den (.vw _ _) rfl rfl (ev_den (.vw _ _) rfl (d_pick_f rfl hc37 rfl) (ev_nil)))))))))))))))))))))))))))))))))))) (joinQ_n (!v39) h (gc_to [0] rfl rfl rfl rfl))
noncomputable def spec_boWishes_j3 (x61 : Int) : Bool → Option (Int ⊕ (Unit ⊕ Bool)) := fun x91 =>
if x91 = true then
some (.inr (.inr false))
else
some (.inl ((w64 (x61 + (1 : Int)))))
noncomputable def spec_boWishes_s2 (p0 : Int × Int × (List Int)) (p1 : List (List Int)) : Int → Option (Int ⊕ (Unit ⊕ Bool)) := fun x61 =>
if (decide (x61 < (List.length p1 : Int))) = true then
(at? p1 x61).bind fun v88 =>
if ((List.length v88 : Int) != (List.length p0.2.2 : Int)) = true then
spec_boWishes_j3 x61 true
else
(spec_l1All v88 ((0 : Int)) ((200 : Int))).bind fun v96 =>
spec_boWishes_j3 x61 (!v96)
else
some (.inr (.inl ()))
noncomputable def spec_boWishes_l2 (p0 : Int × Int × (List Int)) (p1 : List (List Int)) : Int → Option (Unit ⊕ Bool) := iter (spec_boWishes_s2 p0 p1)
noncomputable def spec_boWishes_j1 (p0 : Int × Int × (List Int)) (p1 : List (List Int)) : Bool → Option (Bool) := fun x25 =>
if x25 = true then
some false
else
(spec_boWishes_l2 p0 p1 (0 : Int)).bind fun w => match w with
| .inl _ =>
some true
| .inr r99 =>
some r99
/-- loop.example/g01176/spec.boWishes -/
noncomputable def spec_boWishes (p0 : Int × Int × (List Int)) (p1 : List (List Int)) : Option Bool :=
(spec_boTimed p0).bind fun v100 =>
if (!v100) = true then
spec_boWishes_j1 p0 p1 true
else
spec_boWishes_j1 p0 p1 (decide ((List.length p1 : Int) > (20 : Int)))
theorem spec_boWishes_ok {p0 : Int × Int × (List Int)} {p1 : List (List Int)} {o : Bool} (h : spec_boWishes p0 p1 = some o) : RN 82 [.agg [.int .i64 p0.1, .int .i64 p0.2.1, .ints .i64 p0.2.2], .rows 1 (List.map (T.ints .i64) p1)] [] = some (.bool o, []) := by
  refine fn_run (o := o) (nr := 0) (F := k82) (st := ⟨entry 0 [.agg [.vw [] (.int .i64 p0.1), .vw [] (.int .i64 p0.2.1), .vw [] (.ints .i64 p0.2.2)], .vw [] (.rows 1 (List.map (T.ints .i64) p1))], fun n => ([] : List T)[n]?, 0⟩) (fun (o : Bool) => (.bool o, [])) rfl fns_82 rfl rfl ?_
  refine wp_seq ?_
  refine wp_reg (nx' := 32) rfl (ev_wr rfl (w_box (sv := (.agg [(.vw _ _), (.vw _ _), (.vw _ _)])) rfl rfl (absW_cons rfl rfl (absW_cons rfl rfl (absW_cons rfl rfl (absW_nil))))) (ev_den (.vw _ _) rfl rfl (ev_nil))) (seqQ_n (?_))
  refine wp_seq ?_
  refine wp_gc ?_
  refine wp_seq ?_
  refine wp_join (spec_boWishes_j1 p0 p1) (fun (x25 : Bool) => (⟨al .dead [(1, .vw [] (.rows 1 (List.map (T.ints .i64) p1))), (2, .ptr 0 [] (some 0)), (14, .vw [] (.bool x25))], hl [some (.ptr (.agg [.int .i64 p0.1, .int .i64 p0.2.1, .sh (.ints .i64 p0.2.2)]))], 1⟩ : St)) ?_ ?_
  · rintro x25 o h
    refine seqQ_n (?_)
    rcases its h with ⟨hc26, h⟩ | ⟨hc26, h⟩
    · refine wp_ct rfl hc26 ?_
      refine wp_seq ?_
      refine wp_reg (nx' := 17) rfl (ev_den (.vw _ _) rfl rfl (ev_nil)) (seqQ_n (?_))
      cases h
      exact wp_ret (gcQ_r (seqQ_r (qf_r ((outs_ok (vs := [(.vw _ _)]) rfl (absW_cons rfl rfl (absW_nil)) rfl rfl)))))
    · refine wp_cf rfl hc26 ?_
      refine wp_skip (gcQ_n (gc_to [0] (e := [(1, .vw [] (.rows 1 (List.map (T.ints .i64) p1))), (2, .ptr 0 [] (some 0))]) (ts := [some (.ptr (.agg [.int .i64 p0.1, .int .i64 p0.2.1, .sh (.ints .i64 p0.2.2)]))]) (n := 1) rfl rfl rfl rfl) (seqQ_n (?_)))
      refine wp_seq ?_
      refine wp_gc ?_
      refine wp_seq ?_
      refine wp_gc ?_
      refine wp_reg (nx' := 49) rfl (ev_den (.vw _ _) rfl rfl (ev_den (.vw _ _) rfl (d_len_vr (e := (T.ints .i64)) rfl) (ev_den (.vw _ _) rfl rfl (ev_nil)))) (gcQ_n (gc_to [0] (e := [(2, .ptr 0 [] (some 0)), (15, .vw [] (.rows 1 (List.map (T.ints .i64) p1))), (16, .vw [] (.int .i64 ((List.length p1 : Int)))), (17, .vw [] (.int .i64 ((0 : Int))))]) (ts := [some (.ptr (.agg [.int .i64 p0.1, .int .i64 p0.2.1, .sh (.ints .i64 p0.2.2)]))]) (n := 1) rfl rfl rfl rfl) (seqQ_n (?_)))
      refine wp_gc ?_
      refine wp_blk ?_
      obtain ⟨w98, hw98, h⟩ := bs h
      refine wp_mono (wp_loop (fun (x61 : Int) => (⟨al .dead [(2, .ptr 0 [] (some 0)), (15, .vw [] (.rows 1 (List.map (T.ints .i64) p1))), (16, .vw [] (.int .i64 ((List.length p1 : Int)))), (17, .vw [] (.int .i64 x61))], hl [some (.ptr (.agg [.int .i64 p0.1, .int .i64 p0.2.1, .sh (.ints .i64 p0.2.2)]))], 1⟩ : St)) (fun (v : Unit ⊕ Bool) e st => match v with | .inl _ => e = .exit 0 ∧ gc 0 [] st = ⟨al .dead [], hl [], 0⟩ | .inr rr => e = .ret ∧ outs 0 k82 st = some (.bool rr, [])) hw98 ?_) ?_
      · rintro x61 o h
        refine wp_gc ?_
        refine wp_seq ?_
        refine wp_reg (nx' := 17) rfl (ev_den (.vw _ _) rfl rfl (ev_nil)) (seqQ_n (?_))
        refine wp_seq ?_
        refine wp_gc ?_
        rcases its h with ⟨hc77, h⟩ | ⟨hc77, h⟩
        · refine wp_ct rfl hc77 ?_
          refine wp_skip (gcQ_n (gc_to [0] (e := [(2, .ptr 0 [] (some 0)), (15, .vw [] (.rows 1 (List.map (T.ints .i64) p1))), (16, .vw [] (.int .i64 ((List.length p1 : Int)))), (17, .vw [] (.int .i64 x61))]) (ts := [some (.ptr (.agg [.int .i64 p0.1, .int .i64 p0.2.1, .sh (.ints .i64 p0.2.2)]))]) (n := 1) rfl rfl rfl rfl) (seqQ_n (?_)))
          refine wp_seq ?_
          refine wp_gc ?_
          refine wp_gc ?_
          refine wp_blk ?_
          refine wp_seq ?_
          obtain ⟨v88, hv88, h⟩ := bs h
          refine wp_reg (nx' := 49) rfl (ev_den (.pv _ _) rfl (d_idx_vr (T.ints .i64) rfl rfl hv88) (ev_den (.vw _ _) rfl rfl (ev_den (.vw _ _) rfl rfl (ev_nil)))) (seqQ_n (?_))
          refine wp_seq ?_
          refine wp_join (spec_boWishes_j3 x61) (fun (x91 : Bool) => (⟨al .dead [(2, .ptr 0 [] (some 0)), (15, .vw [] (.rows 1 (List.map (T.ints .i64) p1))), (16, .vw [] (.int .i64 ((List.length p1 : Int)))), (17, .vw [] (.int .i64 x61)), (31, .vw [] (.bool x91))], hl [some (.ptr (.agg [.int .i64 p0.1, .int .i64 p0.2.1, .sh (.ints .i64 p0.2.2)]))], 1⟩ : St)) ?_ ?_
          · rintro x91 o h
            refine seqQ_n (?_)
            rcases its h with ⟨hc92, h⟩ | ⟨hc92, h⟩
            · refine wp_ct rfl hc92 ?_
              refine wp_seq ?_
              refine wp_reg (nx' := 17) rfl (ev_den (.vw _ _) rfl rfl (ev_nil)) (seqQ_n (?_))
              cases h
              exact wp_ret (blkQ_r (gcQ_r (gcQ_r (seqQ_r (gcQ_r (loopQ_r (And.intro rfl (outs_ok (vs := [(.vw _ _)]) rfl (absW_cons rfl rfl (absW_nil)) rfl rfl))))))))
            · refine wp_cf rfl hc92 ?_
              refine wp_skip (blkQ_n (gcQ_n (gc_to [0] (e := [(2, .ptr 0 [] (some 0)), (15, .vw [] (.rows 1 (List.map (T.ints .i64) p1))), (16, .vw [] (.int .i64 ((List.length p1 : Int)))), (17, .vw [] (.int .i64 x61))]) (ts := [some (.ptr (.agg [.int .i64 p0.1, .int .i64 p0.2.1, .sh (.ints .i64 p0.2.2)]))]) (n := 1) rfl rfl rfl rfl) (gcQ_n (gc_to [0] (e := [(2, .ptr 0 [] (some 0)), (15, .vw [] (.rows 1 (List.map (T.ints .i64) p1))), (16, .vw [] (.int .i64 ((List.length p1 : Int)))), (17, .vw [] (.int .i64 x61))]) (ts := [some (.ptr (.agg [.int .i64 p0.1, .int .i64 p0.2.1, .sh (.ints .i64 p0.2.2)]))]) (n := 1) rfl rfl rfl rfl) (seqQ_n (?_)))))
              cases h
              exact wp_reg (nx' := 33) rfl (ev_den (.vw _ _) rfl rfl (ev_den (.vw _ _) rfl rfl (ev_nil))) (gcQ_n (gc_to [0] (e := [(2, .ptr 0 [] (some 0)), (15, .vw [] (.rows 1 (List.map (T.ints .i64) p1))), (16, .vw [] (.int .i64 ((List.length p1 : Int)))), (17, .vw [] (.int .i64 ((w64 (x61 + (1 : Int))))))]) (ts := [some (.ptr (.agg [.int .i64 p0.1, .int .i64 p0.2.1, .sh (.ints .i64 p0.2.2)]))]) (n := 1) rfl rfl rfl rfl) (loopQ_n rfl))
          · rcases its h with ⟨hc94, h⟩ | ⟨hc94, h⟩
            · exact wp_reg (nx' := 225) rfl (ev_den (.vw _ _) rfl rfl (ev_den (.vw _ _) rfl rfl (ev_den (.ptr 0 [] (some 2)) rfl rfl (ev_den (.vw _ _) rfl (d_ld_o rfl (rget_of rfl (get_nil)) rfl rfl) (ev_den (.vw _ _) rfl rfl (ev_den (.vw _ _) rfl rfl (ev_den (.vw _ _) rfl rfl (ev_off rfl hc94 (ev_off rfl hc94 (ev_off rfl hc94 (ev_den (.vw _ _) rfl (d_pick_t rfl hc94 rfl) (ev_nil)))))))))))) (joinQ_n true h (gc_to [0] rfl rfl rfl rfl))
            · obtain ⟨v96, hv96, h⟩ := bs h
              exact wp_reg (nx' := 225) rfl (ev_den (.vw _ _) rfl rfl (ev_den (.vw _ _) rfl rfl (ev_den (.ptr 0 [] (some 2)) rfl rfl (ev_den (.vw _ _) rfl (d_ld_o rfl (rget_of rfl (get_nil)) rfl rfl) (ev_den (.vw _ _) rfl rfl (ev_den (.vw _ _) rfl rfl (ev_den (.vw _ _) rfl rfl (ev_on rfl hc94 (ev_den (.vw _ _) rfl rfl (ev_on rfl hc94 (ev_call0 [(.vw _ _), (.vw _ _), (.vw _ _)] rfl (call_ok (rs := []) (rd := []) rfl rfl rfl rfl (argL_cons rfl (argL_cons rfl (argL_cons rfl (argL_nil)))) rfl rfl (spec_l1All_ok hv96) rfl rfl rfl rfl rfl) (ev_on rfl hc94 (ev_den (.vw _ _) rfl rfl (ev_den (.vw _ _) rfl (d_pick_f rfl hc94 rfl) (ev_nil))))))))))))))) (joinQ_n (!v96) h (gc_to [0] rfl rfl rfl rfl))
        · refine wp_cf rfl hc77 ?_
          cases h
          exact wp_exit (gcQ_e (seqQ_e (gcQ_e (loopQ_e (And.intro rfl (gc_to [] (e := []) (ts := []) (n := 0) rfl rfl rfl rfl))))))
      · intro e st98 hg98
        rcases w98 with _ | r99
        · obtain ⟨rfl, hg98⟩ := hg98
          refine blkQ_h (gcQ_n hg98 (gcQ_n (gc_to [] (e := []) (ts := []) (n := 0) rfl rfl rfl rfl) (seqQ_n (?_))))
          refine wp_seq ?_
          refine wp_reg (nx' := 16) rfl (ev_den (.vw _ _) rfl rfl (ev_nil)) (seqQ_n (?_))
          cases h
          exact wp_ret (qf_r ((outs_ok (vs := [(.vw _ _)]) rfl (absW_cons rfl rfl (absW_nil)) rfl rfl)))
        · obtain ⟨rfl, hg98⟩ := hg98
          cases h
          exact blkQ_r (gcQ_r (gcQ_r (seqQ_r (qf_r (hg98)))))
  · obtain ⟨v100, hv100, h⟩ := bs h
    rcases its h with ⟨hc101, h⟩ | ⟨hc101, h⟩
    · exact wp_reg (nx' := 160) rfl (ev_den (.agg [(.vw _ _), (.vw _ _), (.vw _ _)]) rfl (d_ld_os rfl (rget_of rfl (get_nil)) rfl (cells_cons rfl (cells_cons rfl (cells_cons rfl (cells_nil))))) (ev_call0 [(.agg [(.vw _ _), (.vw _ _), (.vw _ _)])] rfl (call_ok (rs := []) (rd := []) rfl rfl rfl rfl (argL_cons (argT_a (argL_cons rfl (argL_cons rfl (argL_cons rfl (argL_nil))))) (argL_nil)) rfl rfl (spec_boTimed_ok hv100) rfl rfl rfl rfl rfl) (ev_den (.vw _ _) rfl rfl (ev_den (.vw _ _) rfl rfl (ev_off rfl hc101 (ev_off rfl hc101 (ev_off rfl hc101 (ev_den (.vw _ _) rfl (d_pick_t rfl hc101 rfl) (ev_nil))))))))) (joinQ_n true h (gc_to [0] rfl rfl rfl rfl))
    · exact wp_reg (nx' := 160) rfl (ev_den (.agg [(.vw _ _), (.vw _ _), (.vw _ _)]) rfl (d_ld_os rfl (rget_of rfl (get_nil)) rfl (cells_cons rfl (cells_cons rfl (cells_cons rfl (cells_nil))))) (ev_call0 [(.agg [(.vw _ _), (.vw _ _), (.vw _ _)])] rfl (call_ok (rs := []) (rd := []) rfl rfl rfl rfl (argL_cons (argT_a (argL_cons rfl (argL_cons rfl (argL_cons rfl (argL_nil))))) (argL_nil)) rfl rfl (spec_boTimed_ok hv100) rfl rfl rfl rfl rfl) (ev_den (.vw _ _) rfl rfl (ev_den (.vw _ _) rfl rfl (ev_on rfl hc101 (ev_den (.vw _ _) rfl rfl (ev_on rfl hc101 (ev_den (.vw _ _) rfl (d_len_vr (e := (T.ints .i64)) rfl) (ev_on rfl hc101 (ev_den (.vw _ _) rfl rfl (ev_den (.vw _ _) rfl (d_pick_f rfl hc101 rfl) (ev_nil)))))))))))) (joinQ_n (decide ((List.length p1 : Int) > (20 : Int))) h (gc_to [0] rfl rfl rfl rfl))
/-- loop.example/g01176/spec.l1Most -/
noncomputable def spec_l1Most (p0 : Int) (p1 : Int) : Option Int :=
if (decide (p0 > p1)) = true then
some p0
else
some p1
theorem spec_l1Most_ok {p0 : Int} {p1 : Int} {o : Int} (h : spec_l1Most p0 p1 = some o) : RN 79 [.int .i64 p0, .int .i64 p1] [] = some (.int .i64 o, []) := by
  refine fn_run (o := o) (nr := 0) (F := k79) (st := ⟨entry 0 [.vw [] (.int .i64 p0), .vw [] (.int .i64 p1)], fun n => ([] : List T)[n]?, 0⟩) (fun (o : Int) => (.int .i64 o, [])) rfl fns_79 rfl rfl ?_
  refine wp_seq ?_
  refine wp_reg (nx' := 16) rfl (ev_den (.vw _ _) rfl rfl (ev_nil)) (seqQ_n (?_))
  refine wp_seq ?_
  refine wp_gc ?_
  refine wp_seq ?_
  refine wp_reg (nx' := 64) rfl (ev_den (.vw _ _) rfl rfl (ev_den (.vw _ _) rfl rfl (ev_den (.vw _ _) rfl rfl (ev_nil)))) (seqQ_n (?_))
  rcases its h with ⟨hc3, h⟩ | ⟨hc3, h⟩
  · refine wp_ct rfl hc3 ?_
    refine wp_seq ?_
    refine wp_reg (nx' := 96) rfl (ev_den (.vw _ _) rfl rfl (ev_den (.vw _ _) rfl rfl (ev_nil))) (seqQ_n (?_))
    cases h
    exact wp_ret (gcQ_r (seqQ_r (qf_r ((outs_ok (vs := [(.vw _ _)]) rfl (absW_cons rfl rfl (absW_nil)) rfl rfl)))))
  · refine wp_cf rfl hc3 ?_
    refine wp_skip (gcQ_n (gc_to [] (e := [(1, .vw [] (.int .i64 p1))]) (ts := []) (n := 0) rfl rfl rfl rfl) (seqQ_n (?_)))
    refine wp_seq ?_
    refine wp_reg (nx' := 32) rfl (ev_den (.vw _ _) rfl rfl (ev_den (.vw _ _) rfl rfl (ev_nil))) (seqQ_n (?_))
    cases h
    exact wp_ret (qf_r ((outs_ok (vs := [(.vw _ _)]) rfl (absW_cons rfl rfl (absW_nil)) rfl rfl)))
/-- loop.example/g01176/spec.l1Least -/
noncomputable def spec_l1Least (p0 : Int) (p1 : Int) : Option Int :=
if (decide (p0 < p1)) = true then
some p0
else
some p1
theorem spec_l1Least_ok {p0 : Int} {p1 : Int} {o : Int} (h : spec_l1Least p0 p1 = some o) : RN 105 [.int .i64 p0, .int .i64 p1] [] = some (.int .i64 o, []) := by
  refine fn_run (o := o) (nr := 0) (F := k105) (st := ⟨entry 0 [.vw [] (.int .i64 p0), .vw [] (.int .i64 p1)], fun n => ([] : List T)[n]?, 0⟩) (fun (o : Int) => (.int .i64 o, [])) rfl fns_105 rfl rfl ?_
  refine wp_seq ?_
  refine wp_reg (nx' := 16) rfl (ev_den (.vw _ _) rfl rfl (ev_nil)) (seqQ_n (?_))
  refine wp_seq ?_
  refine wp_gc ?_
  refine wp_seq ?_
  refine wp_reg (nx' := 64) rfl (ev_den (.vw _ _) rfl rfl (ev_den (.vw _ _) rfl rfl (ev_den (.vw _ _) rfl rfl (ev_nil)))) (seqQ_n (?_))
  rcases its h with ⟨hc3, h⟩ | ⟨hc3, h⟩
  · refine wp_ct rfl hc3 ?_
    refine wp_seq ?_
    refine wp_reg (nx' := 96) rfl (ev_den (.vw _ _) rfl rfl (ev_den (.vw _ _) rfl rfl (ev_nil))) (seqQ_n (?_))
    cases h
    exact wp_ret (gcQ_r (seqQ_r (qf_r ((outs_ok (vs := [(.vw _ _)]) rfl (absW_cons rfl rfl (absW_nil)) rfl rfl)))))
  · refine wp_cf rfl hc3 ?_
    refine wp_skip (gcQ_n (gc_to [] (e := [(1, .vw [] (.int .i64 p1))]) (ts := []) (n := 0) rfl rfl rfl rfl) (seqQ_n (?_)))
    refine wp_seq ?_
    refine wp_reg (nx' := 32) rfl (ev_den (.vw _ _) rfl rfl (ev_den (.vw _ _) rfl rfl (ev_nil))) (seqQ_n (?_))
    cases h
    exact wp_ret (qf_r ((outs_ok (vs := [(.vw _ _)]) rfl (absW_cons rfl rfl (absW_nil)) rfl rfl)))
noncomputable def spec_boVisits_s1 (p0 : Int × Int × (List Int)) : ((List Int) × Int) → Option (((List Int) × Int) ⊕ ((List Int))) := fun (x108, x109) =>
if (decide (x109 < (List.length ((List.replicate (Int.toNat ((List.length p0.2.2 : Int))) (0 : Int))) : Int))) = true then
(at? x108 x109).bind fun v123 =>
some (.inl ((List.set x108 (Int.toNat x109) ((w64 ((w64 (x109 - (List.length p0.2.2 : Int))) * p0.2.1)))), (w64 (x109 + (1 : Int)))))
else
some (.inr x108)
noncomputable def spec_boVisits_l1 (p0 : Int × Int × (List Int)) : ((List Int) × Int) → Option ((List Int)) := iter (spec_boVisits_s1 p0)
noncomputable def spec_boVisits_s3 (p0 : Int × Int × (List Int)) (v457 : List Int) : ((List Int) × (List (List Int)) × (List Int) × Int × Int) → Option (((List Int) × (List (List Int)) × (List Int) × Int × Int) ⊕ ((List Int) × (List (List Int)) × (List Int) × Int)) := fun (x496, x497, x498, x499, x500) =>
if (decide (x500 < (List.length v457 : Int))) = true then
(at? v457 x500).bind fun v547 =>
(at? x496 x500).bind fun v548 =>
(spec_l1Most ((0 : Int)) ((w64 (p0.1 - (w64 (x499 - v548)))))).bind fun v549 =>
(spec_l1Least v547 v549).bind fun v550 =>
(app? x497 (([([x499, x500, v550] : List Int)] : List (List Int)))).bind fun v551 =>
(app? x498 (([(w64 (x499 - v548))] : List Int))).bind fun v552 =>
(at? p0.2.2 x500).bind fun v553 =>
some (.inl ((List.set x496 (Int.toNat x500) x499), v551, v552, (w64 (x499 + (w64 ((w64 (v553 + v550)) + p0.2.1)))), (w64 (x500 + (1 : Int)))))
else
some (.inr (x496, x497, x498, x499))
noncomputable def spec_boVisits_l3 (p0 : Int × Int × (List Int)) (v457 : List Int) : ((List Int) × (List (List Int)) × (List Int) × Int × Int) → Option ((List Int) × (List (List Int)) × (List Int) × Int) := iter (spec_boVisits_s3 p0 v457)
noncomputable def spec_boVisits_s2 (p0 : Int × Int × (List Int)) (p1 : List (List Int)) : ((List Int) × (List (List Int)) × (List Int) × Int × Int) → Option (((List Int) × (List (List Int)) × (List Int) × Int × Int) ⊕ ((List (List Int)) × (List Int))) := fun (x312, x313, x314, x315, x316) =>
if (decide (x316 < (List.length p1 : Int))) = true then
(at? p1 x316).bind fun v457 =>
(spec_boVisits_l3 p0 v457 (x312, x313, x314, x315, (0 : Int))).bind fun (x514, x515, x516, x517) =>
some (.inl (x514, x515, x516, x517, (w64 (x316 + (1 : Int)))))
else
some (.inr (x313, x314))
noncomputable def spec_boVisits_l2 (p0 : Int × Int × (List Int)) (p1 : List (List Int)) : ((List Int) × (List (List Int)) × (List Int) × Int × Int) → Option ((List (List Int)) × (List Int)) := iter (spec_boVisits_s2 p0 p1)
/-- loop.example/g01176/spec.boVisits -/
noncomputable def spec_boVisits (p0 : Int × Int × (List Int)) (p1 : List (List Int)) : Option (((List (List Int)) × (List Int))) :=
(mk? ((List.length p0.2.2 : Int)) ((List.length p0.2.2 : Int))).bind fun u87 =>
(spec_boVisits_l1 p0 ((List.replicate (Int.toNat ((List.length p0.2.2 : Int))) (0 : Int)), (0 : Int))).bind fun x114 =>
(spec_boVisits_l2 p0 p1 (x114, [], [], (0 : Int), (0 : Int))).bind fun (x354, x355) =>
some (x354, x355)
theorem spec_boVisits_ok {p0 : Int × Int × (List Int)} {p1 : List (List Int)} {o : ((List (List Int)) × (List Int))} (h : spec_boVisits p0 p1 = some o) : RN 85 [.agg [.int .i64 p0.1, .int .i64 p0.2.1, .ints .i64 p0.2.2], .rows 1 (List.map (T.ints .i64) p1)] [] = some (.tup [.rows 1 (List.map (T.ints .i64) o.1), .ints .i64 o.2], []) := by
  refine fn_run (o := o) (nr := 0) (F := k85) (st := ⟨entry 0 [.agg [.vw [] (.int .i64 p0.1), .vw [] (.int .i64 p0.2.1), .vw [] (.ints .i64 p0.2.2)], .vw [] (.rows 1 (List.map (T.ints .i64) p1))], fun n => ([] : List T)[n]?, 0⟩) (fun (o : ((List (List Int)) × (List Int))) => (.tup [.rows 1 (List.map (T.ints .i64) o.1), .ints .i64 o.2], [])) rfl fns_85 rfl rfl ?_
  refine wp_seq ?_
  refine wp_reg (nx' := 48) rfl (ev_wr rfl (w_box (sv := (.agg [(.vw _ _), (.vw _ _), (.vw _ _)])) rfl rfl (absW_cons rfl rfl (absW_cons rfl rfl (absW_cons rfl rfl (absW_nil))))) (ev_new (.ref 16 [] 1 0 0) (.rows 1 []) rfl rfl (ev_new (.ref 32 [] 1 0 0) (.ints .i64 []) rfl rfl (ev_nil)))) (seqQ_n (?_))
  refine wp_seq ?_
  refine wp_reg (nx' := 112) rfl (ev_den (.ptr 0 [] (some 2)) rfl rfl (ev_den (.vw _ _) rfl (d_ld_o rfl (rget_of rfl (get_nil)) rfl rfl) (ev_den (.vw _ _) rfl rfl (ev_den (.vw _ _) rfl rfl (ev_nil))))) (seqQ_n (?_))
  refine wp_seq ?_
  obtain ⟨u87, hu87, h⟩ := bs h
  refine wp_reg (nx' := 160) rfl (ev_den (.vw _ _) rfl rfl (ev_new (.ref 128 [] 1 0 (List.length ((List.replicate (Int.toNat ((List.length p0.2.2 : Int))) (0 : Int))))) (.ints .i64 ((List.replicate (Int.toNat ((List.length p0.2.2 : Int))) (0 : Int)))) rfl (d_mks_i rfl rfl hu87) (ev_den (.ref 128 _ _ _ _) rfl rfl (ev_nil)))) (seqQ_n (?_))
  refine wp_seq ?_
  refine wp_gc ?_
  refine wp_seq ?_
  refine wp_gc ?_
  refine wp_reg (nx' := 208) rfl (ev_den (.ref 128 _ _ _ _) rfl rfl (ev_den (.vw _ _) rfl rfl (ev_den (.vw _ _) rfl rfl (ev_nil)))) (gcQ_n (gc_to [0, 128] (e := [(1, .vw [] (.rows 1 (List.map (T.ints .i64) p1))), (2, .ptr 0 [] (some 0)), (6, .vw [] (.int .i64 ((List.length p0.2.2 : Int)))), (7, .ref 1 [] 1 0 (List.length ((List.replicate (Int.toNat ((List.length p0.2.2 : Int))) (0 : Int))))), (24, .vw [] (.int .i64 ((List.length ((List.replicate (Int.toNat ((List.length p0.2.2 : Int))) (0 : Int))) : Int)))), (25, .vw [] (.int .i64 ((0 : Int))))]) (ts := [some (.ptr (.agg [.int .i64 p0.1, .int .i64 p0.2.1, .sh (.ints .i64 p0.2.2)])), some (.ints .i64 ((List.replicate (Int.toNat ((List.length p0.2.2 : Int))) (0 : Int))))]) (n := 2) rfl rfl rfl rfl) (seqQ_n (?_)))
  refine wp_gc ?_
  refine wp_blk ?_
  obtain ⟨x114, hw127, h⟩ := bs h
  refine wp_mono (wp_loop (fun ((x108, x109) : (List Int) × Int) => (⟨al .dead [(1, .vw [] (.rows 1 (List.map (T.ints .i64) p1))), (2, .ptr 0 [] (some 0)), (6, .vw [] (.int .i64 ((List.length p0.2.2 : Int)))), (7, .ref 1 [] 1 0 (List.length x108)), (24, .vw [] (.int .i64 ((List.length ((List.replicate (Int.toNat ((List.length p0.2.2 : Int))) (0 : Int))) : Int)))), (25, .vw [] (.int .i64 x109))], hl [some (.ptr (.agg [.int .i64 p0.1, .int .i64 p0.2.1, .sh (.ints .i64 p0.2.2)])), some (.ints .i64 x108)], 2⟩ : St)) (fun (x114 : (List Int)) e st => e = .exit 0 ∧ gc 0 [1, 2, 7] st = ⟨al .dead [(1, .vw [] (.rows 1 (List.map (T.ints .i64) p1))), (2, .ptr 0 [] (some 0)), (7, .ref 1 [] 1 0 (List.length x114))], hl [some (.ptr (.agg [.int .i64 p0.1, .int .i64 p0.2.1, .sh (.ints .i64 p0.2.2)])), some (.ints .i64 x114)], 2⟩) hw127 ?_) ?_
  · rintro ⟨x108, x109⟩ o h
    refine wp_gc ?_
    refine wp_seq ?_
    refine wp_reg (nx' := 18) rfl (ev_den (.vw _ _) rfl rfl (ev_nil)) (seqQ_n (?_))
    refine wp_seq ?_
    refine wp_gc ?_
    rcases its h with ⟨hc120, h⟩ | ⟨hc120, h⟩
    · refine wp_ct rfl hc120 ?_
      refine wp_skip (gcQ_n (gc_to [0, 1] (e := [(1, .vw [] (.rows 1 (List.map (T.ints .i64) p1))), (2, .ptr 0 [] (some 0)), (6, .vw [] (.int .i64 ((List.length p0.2.2 : Int)))), (7, .ref 1 [] 1 0 (List.length x108)), (24, .vw [] (.int .i64 ((List.length ((List.replicate (Int.toNat ((List.length p0.2.2 : Int))) (0 : Int))) : Int)))), (25, .vw [] (.int .i64 x109))]) (ts := [some (.ptr (.agg [.int .i64 p0.1, .int .i64 p0.2.1, .sh (.ints .i64 p0.2.2)])), some (.ints .i64 x108)]) (n := 2) rfl rfl rfl rfl) (seqQ_n (?_)))
      refine wp_seq ?_
      refine wp_gc ?_
      refine wp_gc ?_
      refine wp_blk ?_
      refine wp_seq ?_
      refine wp_reg (nx' := 34) rfl (ev_den (.vw _ _) rfl rfl (ev_den (.vw _ _) rfl rfl (ev_nil))) (seqQ_n (?_))
      obtain ⟨v123, hv123, h⟩ := bs h
      refine wp_reg (nx' := 194) rfl (ev_den (.ref 1 _ _ _ _) rfl rfl (ev_den (.vw _ _) rfl rfl (ev_den (.vw _ _) rfl rfl (ev_den (.vw _ _) rfl rfl (ev_den (.vw _ _) rfl rfl (ev_den (.ptr 0 [] (some 1)) rfl rfl (ev_den (.vw _ _) rfl (d_ld_o rfl (rget_of rfl (get_nil)) rfl rfl) (ev_den (.vw _ _) rfl rfl (ev_den (.ptr 1 [.e (Int.toNat x109)] none) rfl (d_idx_r (p := []) rfl rfl hv123) (ev_wr0 rfl (w_st_p rfl (st1_of rfl rfl rfl (get_i hv123) rfl (rput_i (put_i hv123)))) (ev_relen (b := (List.length ((List.set x108 (Int.toNat x109) ((w64 ((w64 (x109 - (List.length p0.2.2 : Int))) * p0.2.1))))))) 7 rfl List.length_set.symm (ev_nil)))))))))))) (blkQ_n (gcQ_n (gc_to [0, 1] (e := [(1, .vw [] (.rows 1 (List.map (T.ints .i64) p1))), (2, .ptr 0 [] (some 0)), (6, .vw [] (.int .i64 ((List.length p0.2.2 : Int)))), (7, .ref 1 [] 1 0 (List.length ((List.set x108 (Int.toNat x109) ((w64 ((w64 (x109 - (List.length p0.2.2 : Int))) * p0.2.1))))))), (24, .vw [] (.int .i64 ((List.length ((List.replicate (Int.toNat ((List.length p0.2.2 : Int))) (0 : Int))) : Int)))), (25, .vw [] (.int .i64 x109))]) (ts := [some (.ptr (.agg [.int .i64 p0.1, .int .i64 p0.2.1, .sh (.ints .i64 p0.2.2)])), some (.ints .i64 ((List.set x108 (Int.toNat x109) ((w64 ((w64 (x109 - (List.length p0.2.2 : Int))) * p0.2.1))))))]) (n := 2) rfl rfl rfl rfl) (gcQ_n (gc_to [0, 1] (e := [(1, .vw [] (.rows 1 (List.map (T.ints .i64) p1))), (2, .ptr 0 [] (some 0)), (6, .vw [] (.int .i64 ((List.length p0.2.2 : Int)))), (7, .ref 1 [] 1 0 (List.length ((List.set x108 (Int.toNat x109) ((w64 ((w64 (x109 - (List.length p0.2.2 : Int))) * p0.2.1))))))), (24, .vw [] (.int .i64 ((List.length ((List.replicate (Int.toNat ((List.length p0.2.2 : Int))) (0 : Int))) : Int)))), (25, .vw [] (.int .i64 x109))]) (ts := [some (.ptr (.agg [.int .i64 p0.1, .int .i64 p0.2.1, .sh (.ints .i64 p0.2.2)])), some (.ints .i64 ((List.set x108 (Int.toNat x109) ((w64 ((w64 (x109 - (List.length p0.2.2 : Int))) * p0.2.1))))))]) (n := 2) rfl rfl rfl rfl) (seqQ_n (?_)))))
      cases h
      exact wp_reg (nx' := 34) rfl (ev_den (.vw _ _) rfl rfl (ev_den (.vw _ _) rfl rfl (ev_nil))) (gcQ_n (gc_to [0, 1] (e := [(1, .vw [] (.rows 1 (List.map (T.ints .i64) p1))), (2, .ptr 0 [] (some 0)), (6, .vw [] (.int .i64 ((List.length p0.2.2 : Int)))), (7, .ref 1 [] 1 0 (List.length ((List.set x108 (Int.toNat x109) ((w64 ((w64 (x109 - (List.length p0.2.2 : Int))) * p0.2.1))))))), (24, .vw [] (.int .i64 ((List.length ((List.replicate (Int.toNat ((List.length p0.2.2 : Int))) (0 : Int))) : Int)))), (25, .vw [] (.int .i64 ((w64 (x109 + (1 : Int))))))]) (ts := [some (.ptr (.agg [.int .i64 p0.1, .int .i64 p0.2.1, .sh (.ints .i64 p0.2.2)])), some (.ints .i64 ((List.set x108 (Int.toNat x109) ((w64 ((w64 (x109 - (List.length p0.2.2 : Int))) * p0.2.1))))))]) (n := 2) rfl rfl rfl rfl) (loopQ_n rfl))
    · refine wp_cf rfl hc120 ?_
      cases h
      exact wp_exit (gcQ_e (seqQ_e (gcQ_e (loopQ_e (And.intro rfl (gc_to [0, 1] (e := [(1, .vw [] (.rows 1 (List.map (T.ints .i64) p1))), (2, .ptr 0 [] (some 0)), (7, .ref 1 [] 1 0 (List.length x108))]) (ts := [some (.ptr (.agg [.int .i64 p0.1, .int .i64 p0.2.1, .sh (.ints .i64 p0.2.2)])), some (.ints .i64 x108)]) (n := 2) rfl rfl rfl rfl))))))
  · intro e st127 hg127
    obtain ⟨rfl, hg127⟩ := hg127
    refine blkQ_h (gcQ_n hg127 (gcQ_n (gc_to [0, 1] (e := [(1, .vw [] (.rows 1 (List.map (T.ints .i64) p1))), (2, .ptr 0 [] (some 0)), (7, .ref 1 [] 1 0 (List.length x114))]) (ts := [some (.ptr (.agg [.int .i64 p0.1, .int .i64 p0.2.1, .sh (.ints .i64 p0.2.2)])), some (.ints .i64 x114)]) (n := 2) rfl rfl rfl rfl) (seqQ_n (?_))))
    refine wp_seq ?_
    refine wp_reg (nx' := 18) rfl (ev_new (.ref 2 [] 1 0 0) (.rows 1 []) rfl rfl (ev_nil)) (seqQ_n (?_))
    refine wp_seq ?_
    refine wp_reg (nx' := 34) rfl (ev_new (.ref 18 [] 1 0 0) (.ints .i64 []) rfl rfl (ev_nil)) (seqQ_n (?_))
    refine wp_seq ?_
    refine wp_reg (nx' := 50) rfl (ev_den (.vw _ _) rfl rfl (ev_nil)) (seqQ_n (?_))
    refine wp_seq ?_
    refine wp_gc ?_
    refine wp_seq ?_
    refine wp_gc ?_
    refine wp_reg (nx' := 98) rfl (ev_den (.vw _ _) rfl rfl (ev_den (.vw _ _) rfl (d_len_vr (e := (T.ints .i64)) rfl) (ev_den (.vw _ _) rfl rfl (ev_nil)))) (gcQ_n (gc_to [0, 1, 2, 18] (e := [(2, .ptr 0 [] (some 0)), (7, .ref 1 [] 1 0 (List.length x114)), (9, .ref 2 [] 1 0 0), (10, .ref 3 [] 1 0 0), (11, .vw [] (.int .i64 ((0 : Int)))), (38, .vw [] (.rows 1 (List.map (T.ints .i64) p1))), (39, .vw [] (.int .i64 ((List.length p1 : Int)))), (40, .vw [] (.int .i64 ((0 : Int))))]) (ts := [some (.ptr (.agg [.int .i64 p0.1, .int .i64 p0.2.1, .sh (.ints .i64 p0.2.2)])), some (.ints .i64 x114), some (.rows 1 (List.map (T.ints .i64) ([]))), some (.ints .i64 ([]))]) (n := 4) rfl rfl rfl rfl) (seqQ_n (?_)))
    refine wp_gc ?_
    refine wp_blk ?_
    obtain ⟨w571, hw571, h⟩ := bs h
    refine wp_mono (wp_loop (fun ((x312, x313, x314, x315, x316) : (List Int) × (List (List Int)) × (List Int) × Int × Int) => (⟨al .dead [(2, .ptr 0 [] (some 0)), (7, .ref 1 [] 1 0 (List.length x312)), (9, .ref 2 [] 1 0 (List.length x313)), (10, .ref 3 [] 1 0 (List.length x314)), (11, .vw [] (.int .i64 x315)), (38, .vw [] (.rows 1 (List.map (T.ints .i64) p1))), (39, .vw [] (.int .i64 ((List.length p1 : Int)))), (40, .vw [] (.int .i64 x316))], hl [some (.ptr (.agg [.int .i64 p0.1, .int .i64 p0.2.1, .sh (.ints .i64 p0.2.2)])), some (.ints .i64 x312), some (.rows 1 (List.map (T.ints .i64) x313)), some (.ints .i64 x314)], 4⟩ : St)) (fun ((x354, x355) : (List (List Int)) × (List Int)) e st => e = .exit 2 ∧ gc 0 [9, 10] st = ⟨al .dead [(9, .ref 0 [] 1 0 (List.length x354)), (10, .ref 1 [] 1 0 (List.length x355))], hl [some (.rows 1 (List.map (T.ints .i64) x354)), some (.ints .i64 x355)], 2⟩) hw571 ?_) ?_
    · rintro ⟨x312, x313, x314, x315, x316⟩ o h
      refine wp_gc ?_
      refine wp_seq ?_
      refine wp_reg (nx' := 20) rfl (ev_den (.vw _ _) rfl rfl (ev_nil)) (seqQ_n (?_))
      refine wp_seq ?_
      refine wp_gc ?_
      rcases its h with ⟨hc394, h⟩ | ⟨hc394, h⟩
      · refine wp_ct rfl hc394 ?_
        refine wp_skip (gcQ_n (gc_to [0, 1, 2, 3] (e := [(2, .ptr 0 [] (some 0)), (7, .ref 1 [] 1 0 (List.length x312)), (9, .ref 2 [] 1 0 (List.length x313)), (10, .ref 3 [] 1 0 (List.length x314)), (11, .vw [] (.int .i64 x315)), (38, .vw [] (.rows 1 (List.map (T.ints .i64) p1))), (39, .vw [] (.int .i64 ((List.length p1 : Int)))), (40, .vw [] (.int .i64 x316))]) (ts := [some (.ptr (.agg [.int .i64 p0.1, .int .i64 p0.2.1, .sh (.ints .i64 p0.2.2)])), some (.ints .i64 x312), some (.rows 1 (List.map (T.ints .i64) x313)), some (.ints .i64 x314)]) (n := 4) rfl rfl rfl rfl) (seqQ_n (?_)))
        refine wp_seq ?_
        refine wp_gc ?_
        refine wp_gc ?_
        refine wp_blk ?_
        refine wp_seq ?_
        obtain ⟨v457, hv457, h⟩ := bs h
        refine wp_reg (nx' := 52) rfl (ev_den (.pv _ _) rfl (d_idx_vr (T.ints .i64) rfl rfl hv457) (ev_den (.vw _ _) rfl rfl (ev_den (.vw _ _) rfl rfl (ev_nil)))) (seqQ_n (?_))
        refine wp_seq ?_
        refine wp_gc ?_
        refine wp_reg (nx' := 100) rfl (ev_den (.vw _ _) rfl rfl (ev_den (.vw _ _) rfl rfl (ev_den (.vw _ _) rfl rfl (ev_nil)))) (gcQ_n (gc_to [0, 1, 2, 3] (e := [(2, .ptr 0 [] (some 0)), (7, .ref 1 [] 1 0 (List.length x312)), (9, .ref 2 [] 1 0 (List.length x313)), (10, .ref 3 [] 1 0 (List.length x314)), (11, .vw [] (.int .i64 x315)), (38, .vw [] (.rows 1 (List.map (T.ints .i64) p1))), (39, .vw [] (.int .i64 ((List.length p1 : Int)))), (40, .vw [] (.int .i64 x316)), (44, .vw [] (.ints .i64 v457)), (45, .vw [] (.int .i64 ((List.length v457 : Int)))), (46, .vw [] (.int .i64 ((0 : Int))))]) (ts := [some (.ptr (.agg [.int .i64 p0.1, .int .i64 p0.2.1, .sh (.ints .i64 p0.2.2)])), some (.ints .i64 x312), some (.rows 1 (List.map (T.ints .i64) x313)), some (.ints .i64 x314)]) (n := 4) rfl rfl rfl rfl) (seqQ_n (?_)))
        refine wp_gc ?_
        refine wp_blk ?_
        obtain ⟨w563, hw563, h⟩ := bs h
        refine wp_mono (wp_loop (fun ((x496, x497, x498, x499, x500) : (List Int) × (List (List Int)) × (List Int) × Int × Int) => (⟨al .dead [(2, .ptr 0 [] (some 0)), (7, .ref 1 [] 1 0 (List.length x496)), (9, .ref 2 [] 1 0 (List.length x497)), (10, .ref 3 [] 1 0 (List.length x498)), (11, .vw [] (.int .i64 x499)), (38, .vw [] (.rows 1 (List.map (T.ints .i64) p1))), (39, .vw [] (.int .i64 ((List.length p1 : Int)))), (40, .vw [] (.int .i64 x316)), (44, .vw [] (.ints .i64 v457)), (45, .vw [] (.int .i64 ((List.length v457 : Int)))), (46, .vw [] (.int .i64 x500))], hl [some (.ptr (.agg [.int .i64 p0.1, .int .i64 p0.2.1, .sh (.ints .i64 p0.2.2)])), some (.ints .i64 x496), some (.rows 1 (List.map (T.ints .i64) x497)), some (.ints .i64 x498)], 4⟩ : St)) (fun ((x514, x515, x516, x517) : (List Int) × (List (List Int)) × (List Int) × Int) e st => e = .exit 4 ∧ gc 0 [2, 7, 9, 10, 11, 38, 39, 40] st = ⟨al .dead [(2, .ptr 0 [] (some 0)), (7, .ref 1 [] 1 0 (List.length x514)), (9, .ref 2 [] 1 0 (List.length x515)), (10, .ref 3 [] 1 0 (List.length x516)), (11, .vw [] (.int .i64 x517)), (38, .vw [] (.rows 1 (List.map (T.ints .i64) p1))), (39, .vw [] (.int .i64 ((List.length p1 : Int)))), (40, .vw [] (.int .i64 x316))], hl [some (.ptr (.agg [.int .i64 p0.1, .int .i64 p0.2.1, .sh (.ints .i64 p0.2.2)])), some (.ints .i64 x514), some (.rows 1 (List.map (T.ints .i64) x515)), some (.ints .i64 x516)], 4⟩) hw563 ?_) ?_
        · rintro ⟨x496, x497, x498, x499, x500⟩ o h
          refine wp_gc ?_
          refine wp_seq ?_
          refine wp_reg (nx' := 20) rfl (ev_den (.vw _ _) rfl rfl (ev_nil)) (seqQ_n (?_))
          refine wp_seq ?_
          refine wp_gc ?_
          rcases its h with ⟨hc532, h⟩ | ⟨hc532, h⟩
          · refine wp_ct rfl hc532 ?_
            refine wp_skip (gcQ_n (gc_to [0, 1, 2, 3] (e := [(2, .ptr 0 [] (some 0)), (7, .ref 1 [] 1 0 (List.length x496)), (9, .ref 2 [] 1 0 (List.length x497)), (10, .ref 3 [] 1 0 (List.length x498)), (11, .vw [] (.int .i64 x499)), (38, .vw [] (.rows 1 (List.map (T.ints .i64) p1))), (39, .vw [] (.int .i64 ((List.length p1 : Int)))), (40, .vw [] (.int .i64 x316)), (44, .vw [] (.ints .i64 v457)), (45, .vw [] (.int .i64 ((List.length v457 : Int)))), (46, .vw [] (.int .i64 x500))]) (ts := [some (.ptr (.agg [.int .i64 p0.1, .int .i64 p0.2.1, .sh (.ints .i64 p0.2.2)])), some (.ints .i64 x496), some (.rows 1 (List.map (T.ints .i64) x497)), some (.ints .i64 x498)]) (n := 4) rfl rfl rfl rfl) (seqQ_n (?_)))
            refine wp_seq ?_
            refine wp_gc ?_
            refine wp_gc ?_
            refine wp_blk ?_
            refine wp_seq ?_
            obtain ⟨v547, hv547, h⟩ := bs h
            refine wp_reg (nx' := 84) rfl (ev_den (.vw _ _) rfl rfl (ev_den (.pv _ _) rfl (d_idx_vi rfl rfl hv547) (ev_den (.vw _ _) rfl rfl (ev_den (.vw _ _) rfl rfl (ev_den (.vw _ _) rfl rfl (ev_nil)))))) (seqQ_n (?_))
            refine wp_seq ?_
            obtain ⟨v548, hv548, h⟩ := bs h
            refine wp_reg (nx' := 196) rfl (ev_den (.vw _ _) rfl rfl (ev_den (.ref 1 _ _ _ _) rfl rfl (ev_den (.vw _ _) rfl rfl (ev_den (.ptr 1 [.e (Int.toNat x500)] none) rfl (d_idx_r (p := []) rfl rfl hv548) (ev_den (.vw _ _) rfl (d_ld_p rfl (rget_of rfl (get_i hv548)) rfl) (ev_den (.vw _ _) rfl rfl (ev_den (.vw _ _) rfl rfl (ev_nil)))))))) (seqQ_n (?_))
            refine wp_seq ?_
            obtain ⟨v549, hv549, h⟩ := bs h
            obtain ⟨v550, hv550, h⟩ := bs h
            refine wp_reg (nx' := 324) rfl (ev_den (.vw _ _) rfl rfl (ev_den (.ptr 0 [] (some 0)) rfl rfl (ev_den (.vw _ _) rfl (d_ld_o rfl (rget_of rfl (get_nil)) rfl rfl) (ev_den (.vw _ _) rfl rfl (ev_den (.vw _ _) rfl rfl (ev_call0 [(.vw _ _), (.vw _ _)] rfl (call_ok (rs := []) (rd := []) rfl rfl rfl rfl (argL_cons rfl (argL_cons rfl (argL_nil))) rfl rfl (spec_l1Most_ok hv549) rfl rfl rfl rfl rfl) (ev_call0 [(.vw _ _), (.vw _ _)] rfl (call_ok (rs := []) (rd := []) rfl rfl rfl rfl (argL_cons rfl (argL_cons rfl (argL_nil))) rfl rfl (spec_l1Least_ok hv550) rfl rfl rfl rfl rfl) (ev_den (.vw _ _) rfl rfl (ev_nil))))))))) (seqQ_n (?_))
            refine wp_seq ?_
            obtain ⟨v551, hv551, h⟩ := bs h
            refine wp_reg (nx' := 452) rfl (ev_den (.ref 2 _ _ _ _) rfl rfl (ev_den (.vw _ _) rfl rfl (ev_den (.vw _ _) rfl rfl (ev_den (.vw _ _) rfl rfl (ev_new (.ref 388 [] 1 0 3) (.ints .i64 (([x499, x500, v550] : List Int))) rfl rfl (ev_wr rfl (w_bsl [(.ref 388 _ _ _ _)] rfl rfl (absW_cons (absA_ref (abs_ref rfl (sub_i (xs := ([x499, x500, v550] : List Int))))) rfl (absW_nil))) (ev_wr rfl (w_app_r (xs := x497) (ys := (([([x499, x500, v550] : List Int)] : List (List Int)))) (e := (T.ints .i64)) (xv := (.ref 2 _ _ _ _)) (yv := (.ref 404 _ _ _ _)) 2 rfl rfl rfl (abs_ref rfl (sub_r (xs := ([([x499, x500, v550] : List Int)] : List (List Int))))) rfl (abs_ref rfl sub_r) hv551 rfl) (ev_den (.ref 2 _ _ _ _) rfl rfl (ev_nil))))))))) (seqQ_n (?_))
            refine wp_seq ?_
            obtain ⟨v552, hv552, h⟩ := bs h
            refine wp_reg (nx' := 532) rfl (ev_den (.ref 3 _ _ _ _) rfl rfl (ev_den (.vw _ _) rfl rfl (ev_den (.vw _ _) rfl rfl (ev_wr rfl (w_app_i (xv := (.ref 3 _ _ _ _)) 3 rfl rfl (abs_ref rfl sub_i) hv552 rfl) (ev_den (.ref 3 _ _ _ _) rfl rfl (ev_nil)))))) (seqQ_n (?_))
            refine wp_seq ?_
            refine wp_reg (nx' := 612) rfl (ev_den (.ref 1 _ _ _ _) rfl rfl (ev_den (.vw _ _) rfl rfl (ev_den (.vw _ _) rfl rfl (ev_den (.ptr 1 [.e (Int.toNat x500)] none) rfl (d_idx_r (p := []) rfl rfl hv548) (ev_wr0 rfl (w_st_p rfl (st1_of rfl rfl rfl (get_i hv548) rfl (rput_i (put_i hv548)))) (ev_relen (b := (List.length ((List.set x496 (Int.toNat x500) x499)))) 7 rfl List.length_set.symm (ev_nil))))))) (seqQ_n (?_))
            obtain ⟨v553, hv553, h⟩ := bs h
            refine wp_reg (nx' := 820) rfl (ev_den (.vw _ _) rfl rfl (ev_den (.ptr 0 [] (some 2)) rfl rfl (ev_den (.vw _ _) rfl (d_ld_o rfl (rget_of rfl (get_nil)) rfl rfl) (ev_den (.vw _ _) rfl rfl (ev_den (.pv _ _) rfl (d_idx_vi rfl rfl hv553) (ev_den (.vw _ _) rfl rfl (ev_den (.vw _ _) rfl rfl (ev_den (.vw _ _) rfl rfl (ev_den (.ptr 0 [] (some 1)) rfl rfl (ev_den (.vw _ _) rfl (d_ld_o rfl (rget_of rfl (get_nil)) rfl rfl) (ev_den (.vw _ _) rfl rfl (ev_den (.vw _ _) rfl rfl (ev_den (.vw _ _) rfl rfl (ev_nil)))))))))))))) (blkQ_n (gcQ_n (gc_to [0, 1, 2, 3] (e := [(2, .ptr 0 [] (some 0)), (7, .ref 1 [] 1 0 (List.length ((List.set x496 (Int.toNat x500) x499)))), (9, .ref 2 [] 1 0 (List.length v551)), (10, .ref 3 [] 1 0 (List.length v552)), (11, .vw [] (.int .i64 ((w64 (x499 + (w64 ((w64 (v553 + v550)) + p0.2.1))))))), (38, .vw [] (.rows 1 (List.map (T.ints .i64) p1))), (39, .vw [] (.int .i64 ((List.length p1 : Int)))), (40, .vw [] (.int .i64 x316)), (44, .vw [] (.ints .i64 v457)), (45, .vw [] (.int .i64 ((List.length v457 : Int)))), (46, .vw [] (.int .i64 x500))]) (ts := [some (.ptr (.agg [.int .i64 p0.1, .int .i64 p0.2.1, .sh (.ints .i64 p0.2.2)])), some (.ints .i64 ((List.set x496 (Int.toNat x500) x499))), some (.rows 1 (List.map (T.ints .i64) v551)), some (.ints .i64 v552)]) (n := 4) rfl rfl rfl rfl) (gcQ_n (gc_to [0, 1, 2, 3] (e := [(2, .ptr 0 [] (some 0)), (7, .ref 1 [] 1 0 (List.length ((List.set x496 (Int.toNat x500) x499)))), (9, .ref 2 [] 1 0 (List.length v551)), (10, .ref 3 [] 1 0 (List.length v552)), (11, .vw [] (.int .i64 ((w64 (x499 + (w64 ((w64 (v553 + v550)) + p0.2.1))))))), (38, .vw [] (.rows 1 (List.map (T.ints .i64) p1))), (39, .vw [] (.int .i64 ((List.length p1 : Int)))), (40, .vw [] (.int .i64 x316)), (44, .vw [] (.ints .i64 v457)), (45, .vw [] (.int .i64 ((List.length v457 : Int)))), (46, .vw [] (.int .i64 x500))]) (ts := [some (.ptr (.agg [.int .i64 p0.1, .int .i64 p0.2.1, .sh (.ints .i64 p0.2.2)])), some (.ints .i64 ((List.set x496 (Int.toNat x500) x499))), some (.rows 1 (List.map (T.ints .i64) v551)), some (.ints .i64 v552)]) (n := 4) rfl rfl rfl rfl) (seqQ_n (?_)))))
            cases h
            exact wp_reg (nx' := 36) rfl (ev_den (.vw _ _) rfl rfl (ev_den (.vw _ _) rfl rfl (ev_nil))) (gcQ_n (gc_to [0, 1, 2, 3] (e := [(2, .ptr 0 [] (some 0)), (7, .ref 1 [] 1 0 (List.length ((List.set x496 (Int.toNat x500) x499)))), (9, .ref 2 [] 1 0 (List.length v551)), (10, .ref 3 [] 1 0 (List.length v552)), (11, .vw [] (.int .i64 ((w64 (x499 + (w64 ((w64 (v553 + v550)) + p0.2.1))))))), (38, .vw [] (.rows 1 (List.map (T.ints .i64) p1))), (39, .vw [] (.int .i64 ((List.length p1 : Int)))), (40, .vw [] (.int .i64 x316)), (44, .vw [] (.ints .i64 v457)), (45, .vw [] (.int .i64 ((List.length v457 : Int)))), (46, .vw [] (.int .i64 ((w64 (x500 + (1 : Int))))))]) (ts := [some (.ptr (.agg [.int .i64 p0.1, .int .i64 p0.2.1, .sh (.ints .i64 p0.2.2)])), some (.ints .i64 ((List.set x496 (Int.toNat x500) x499))), some (.rows 1 (List.map (T.ints .i64) v551)), some (.ints .i64 v552)]) (n := 4) rfl rfl rfl rfl) (loopQ_n rfl))
          · refine wp_cf rfl hc532 ?_
            cases h
            exact wp_exit (gcQ_e (seqQ_e (gcQ_e (loopQ_e (And.intro rfl (gc_to [0, 1, 2, 3] (e := [(2, .ptr 0 [] (some 0)), (7, .ref 1 [] 1 0 (List.length x496)), (9, .ref 2 [] 1 0 (List.length x497)), (10, .ref 3 [] 1 0 (List.length x498)), (11, .vw [] (.int .i64 x499)), (38, .vw [] (.rows 1 (List.map (T.ints .i64) p1))), (39, .vw [] (.int .i64 ((List.length p1 : Int)))), (40, .vw [] (.int .i64 x316))]) (ts := [some (.ptr (.agg [.int .i64 p0.1, .int .i64 p0.2.1, .sh (.ints .i64 p0.2.2)])), some (.ints .i64 x496), some (.rows 1 (List.map (T.ints .i64) x497)), some (.ints .i64 x498)]) (n := 4) rfl rfl rfl rfl))))))
        · intro e st563 hg563
          obtain ⟨x514, x515, x516, x517⟩ := w563
          obtain ⟨rfl, hg563⟩ := hg563
          refine blkQ_h (gcQ_n hg563 (blkQ_n (gcQ_n (gc_to [0, 1, 2, 3] (e := [(2, .ptr 0 [] (some 0)), (7, .ref 1 [] 1 0 (List.length x514)), (9, .ref 2 [] 1 0 (List.length x515)), (10, .ref 3 [] 1 0 (List.length x516)), (11, .vw [] (.int .i64 x517)), (38, .vw [] (.rows 1 (List.map (T.ints .i64) p1))), (39, .vw [] (.int .i64 ((List.length p1 : Int)))), (40, .vw [] (.int .i64 x316))]) (ts := [some (.ptr (.agg [.int .i64 p0.1, .int .i64 p0.2.1, .sh (.ints .i64 p0.2.2)])), some (.ints .i64 x514), some (.rows 1 (List.map (T.ints .i64) x515)), some (.ints .i64 x516)]) (n := 4) rfl rfl rfl rfl) (gcQ_n (gc_to [0, 1, 2, 3] (e := [(2, .ptr 0 [] (some 0)), (7, .ref 1 [] 1 0 (List.length x514)), (9, .ref 2 [] 1 0 (List.length x515)), (10, .ref 3 [] 1 0 (List.length x516)), (11, .vw [] (.int .i64 x517)), (38, .vw [] (.rows 1 (List.map (T.ints .i64) p1))), (39, .vw [] (.int .i64 ((List.length p1 : Int)))), (40, .vw [] (.int .i64 x316))]) (ts := [some (.ptr (.agg [.int .i64 p0.1, .int .i64 p0.2.1, .sh (.ints .i64 p0.2.2)])), some (.ints .i64 x514), some (.rows 1 (List.map (T.ints .i64) x515)), some (.ints .i64 x516)]) (n := 4) rfl rfl rfl rfl) (seqQ_n (?_))))))
          cases h
          exact wp_reg (nx' := 36) rfl (ev_den (.vw _ _) rfl rfl (ev_den (.vw _ _) rfl rfl (ev_nil))) (gcQ_n (gc_to [0, 1, 2, 3] (e := [(2, .ptr 0 [] (some 0)), (7, .ref 1 [] 1 0 (List.length x514)), (9, .ref 2 [] 1 0 (List.length x515)), (10, .ref 3 [] 1 0 (List.length x516)), (11, .vw [] (.int .i64 x517)), (38, .vw [] (.rows 1 (List.map (T.ints .i64) p1))), (39, .vw [] (.int .i64 ((List.length p1 : Int)))), (40, .vw [] (.int .i64 ((w64 (x316 + (1 : Int))))))]) (ts := [some (.ptr (.agg [.int .i64 p0.1, .int .i64 p0.2.1, .sh (.ints .i64 p0.2.2)])), some (.ints .i64 x514), some (.rows 1 (List.map (T.ints .i64) x515)), some (.ints .i64 x516)]) (n := 4) rfl rfl rfl rfl) (loopQ_n rfl))
      · refine wp_cf rfl hc394 ?_
        cases h
        exact wp_exit (gcQ_e (seqQ_e (gcQ_e (loopQ_e (And.intro rfl (gc_to [2, 3] (e := [(9, .ref 0 [] 1 0 (List.length x313)), (10, .ref 1 [] 1 0 (List.length x314))]) (ts := [some (.rows 1 (List.map (T.ints .i64) x313)), some (.ints .i64 x314)]) (n := 2) rfl rfl rfl rfl))))))
    · intro e st571 hg571
      obtain ⟨x354, x355⟩ := w571
      obtain ⟨rfl, hg571⟩ := hg571
      refine blkQ_h (gcQ_n hg571 (gcQ_n (gc_to [0, 1] (e := [(9, .ref 0 [] 1 0 (List.length x354)), (10, .ref 1 [] 1 0 (List.length x355))]) (ts := [some (.rows 1 (List.map (T.ints .i64) x354)), some (.ints .i64 x355)]) (n := 2) rfl rfl rfl rfl) (seqQ_n (?_))))
      refine wp_seq ?_
      refine wp_reg (nx' := 66) rfl (ev_den (.ref 0 _ _ _ _) rfl rfl (ev_den (.ref 1 _ _ _ _) rfl rfl (ev_den (.ref 0 _ _ _ _) rfl rfl (ev_den (.ref 1 _ _ _ _) rfl rfl (ev_nil))))) (seqQ_n (?_))
      cases h
      exact wp_ret (qf_r ((outs_ok (vs := [(.ref 0 _ _ _ _), (.ref 1 _ _ _ _)]) rfl (absW_cons (retT_ref (abs_ref rfl sub_r)) rfl (absW_cons (retT_ref (abs_ref rfl sub_i)) rfl (absW_nil))) rfl rfl)))
/-- loop.example/g01176/spec.TimedVisits -/
noncomputable def spec_TimedVisits (p0 : Int × Int × (List Int)) (p1 : List (List Int)) : Option (((List (List Int)) × Bool)) :=
(spec_boWishes p0 p1).bind fun v6 =>
if (!v6) = true then
some ([], false)
else
(spec_boVisits p0 p1).bind fun v8 =>
some (v8.1, true)
theorem spec_TimedVisits_ok {p0 : Int × Int × (List Int)} {p1 : List (List Int)} {o : ((List (List Int)) × Bool)} (h : spec_TimedVisits p0 p1 = some o) : RN 39 [.agg [.int .i64 p0.1, .int .i64 p0.2.1, .ints .i64 p0.2.2], .rows 1 (List.map (T.ints .i64) p1)] [] = some (.tup [.rows 1 (List.map (T.ints .i64) o.1), .bool o.2], []) := by
  refine fn_run (o := o) (nr := 0) (F := k39) (st := ⟨entry 0 [.agg [.vw [] (.int .i64 p0.1), .vw [] (.int .i64 p0.2.1), .vw [] (.ints .i64 p0.2.2)], .vw [] (.rows 1 (List.map (T.ints .i64) p1))], fun n => ([] : List T)[n]?, 0⟩) (fun (o : ((List (List Int)) × Bool)) => (.tup [.rows 1 (List.map (T.ints .i64) o.1), .bool o.2], [])) rfl fns_39 rfl rfl ?_
  refine wp_seq ?_
  refine wp_reg (nx' := 48) rfl (ev_wr rfl (w_box (sv := (.agg [(.vw _ _), (.vw _ _), (.vw _ _)])) rfl rfl (absW_cons rfl rfl (absW_cons rfl rfl (absW_cons rfl rfl (absW_nil))))) (ev_new (.ref 16 [] 1 0 0) (.rows 1 []) rfl rfl (ev_den (.vw _ _) rfl rfl (ev_nil)))) (seqQ_n (?_))
  refine wp_seq ?_
  refine wp_gc ?_
  refine wp_seq ?_
  obtain ⟨v6, hv6, h⟩ := bs h
  refine wp_reg (nx' := 112) rfl (ev_den (.agg [(.vw _ _), (.vw _ _), (.vw _ _)]) rfl (d_ld_os rfl (rget_of rfl (get_nil)) rfl (cells_cons rfl (cells_cons rfl (cells_cons rfl (cells_nil))))) (ev_den (.vw _ _) rfl rfl (ev_call0 [(.agg [(.vw _ _), (.vw _ _), (.vw _ _)]), (.vw _ _)] rfl (call_ok (rs := []) (rd := []) rfl rfl rfl rfl (argL_cons (argT_a (argL_cons rfl (argL_cons rfl (argL_cons rfl (argL_nil))))) (argL_cons rfl (argL_nil))) rfl rfl (spec_boWishes_ok hv6) rfl rfl rfl rfl rfl) (ev_den (.vw _ _) rfl rfl (ev_nil))))) (seqQ_n (?_))
  rcases its h with ⟨hc7, h⟩ | ⟨hc7, h⟩
  · refine wp_ct rfl hc7 ?_
    refine wp_seq ?_
    refine wp_reg (nx' := 144) rfl (ev_new (.ref 112 [] 1 0 0) (.rows 1 []) rfl rfl (ev_den (.vw _ _) rfl rfl (ev_nil))) (seqQ_n (?_))
    cases h
    exact wp_ret (gcQ_r (seqQ_r (qf_r ((outs_ok (vs := [(.ref 112 _ _ _ _), (.vw _ _)]) rfl (absW_cons (retT_ref (abs_ref rfl sub_r)) rfl (absW_cons rfl rfl (absW_nil))) rfl rfl)))))
  · refine wp_cf rfl hc7 ?_
    refine wp_skip (gcQ_n (gc_to [0] (e := [(1, .vw [] (.rows 1 (List.map (T.ints .i64) p1))), (2, .ptr 0 [] (some 0))]) (ts := [some (.ptr (.agg [.int .i64 p0.1, .int .i64 p0.2.1, .sh (.ints .i64 p0.2.2)]))]) (n := 1) rfl rfl rfl rfl) (seqQ_n (?_)))
    refine wp_seq ?_
    obtain ⟨v8, hv8, h⟩ := bs h
    refine wp_reg (nx' := 129) rfl (ev_den (.agg [(.vw _ _), (.vw _ _), (.vw _ _)]) rfl (d_ld_os rfl (rget_of rfl (get_nil)) rfl (cells_cons rfl (cells_cons rfl (cells_cons rfl (cells_nil))))) (ev_den (.vw _ _) rfl rfl (ev_call0 [(.agg [(.vw _ _), (.vw _ _), (.vw _ _)]), (.vw _ _)] rfl (call_ok (rs := []) (rd := []) rfl rfl rfl rfl (argL_cons (argT_a (argL_cons rfl (argL_cons rfl (argL_cons rfl (argL_nil))))) (argL_cons rfl (argL_nil))) rfl rfl (spec_boVisits_ok hv8) rfl rfl rfl (bindR_t (bindL_cons bindR_r (bindL_cons rfl (bindL_nil)))) rfl) (ev_den (.tup [(.ref 33 _ _ _ _), (.ref 34 _ _ _ _)]) rfl rfl (ev_den (.ref 33 _ _ _ _) rfl rfl (ev_den (.ref 34 _ _ _ _) rfl rfl (ev_den (.ref 33 _ _ _ _) rfl rfl (ev_den (.ref 34 _ _ _ _) rfl rfl (ev_nil))))))))) (seqQ_n (?_))
    refine wp_seq ?_
    refine wp_reg (nx' := 177) rfl (ev_den (.ref 33 _ _ _ _) rfl rfl (ev_den (.ref 33 _ _ _ _) rfl rfl (ev_den (.vw _ _) rfl rfl (ev_nil)))) (seqQ_n (?_))
    cases h
    exact wp_ret (qf_r ((outs_ok (vs := [(.ref 33 _ _ _ _), (.vw _ _)]) rfl (absW_cons (retT_ref (abs_ref rfl sub_r)) rfl (absW_cons rfl rfl (absW_nil))) rfl rfl)))
end Go.Proofs.Ytoeddkfbhjmbmaa.Ev.Q2
