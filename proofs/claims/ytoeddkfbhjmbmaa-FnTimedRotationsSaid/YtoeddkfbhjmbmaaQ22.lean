/- What functions of the program come to, as plain functions; no condition. -/
import Derived.Test.YtoeddkfbhjmbmaaQ21
set_option linter.unusedVariables false
set_option linter.unusedSimpArgs false
set_option maxRecDepth 100000
set_option maxHeartbeats 4000000
set_option linter.unusedVariables false
namespace Go.Proofs.Ytoeddkfbhjmbmaa.Ev.Q2
open Go
/-- loop.example/g01176/impl.IsTimedRing -/
noncomputable def impl_IsTimedRing (p0 : Int × Int × (List Int)) : Option Bool :=
(impl_within ((List.length p0.2.2 : Int)) ((1 : Int)) ((12 : Int))).bind fun v19 =>
if v19 = true then
(impl_within p0.1 ((1 : Int)) ((200 : Int))).bind fun v21 =>
if v21 = true then
(impl_within p0.2.1 ((1 : Int)) ((20 : Int))).bind fun v23 =>
if v23 = true then
(impl_allWithin p0.2.2 ((0 : Int)) ((200 : Int))).bind fun v25 =>
if v25 = true then
(impl_TimedRing_busy p0).bind fun v27 =>
some (decide (v27 ≤ p0.1))
else
some false
else
some false
else
some false
else
some false
theorem impl_IsTimedRing_ok {p0 : Int × Int × (List Int)} {o : Bool} (h : impl_IsTimedRing p0 = some o) : RN 50 [.agg [.int .i64 p0.1, .int .i64 p0.2.1, .ints .i64 p0.2.2]] [] = some (.bool o, []) := by
  refine fn_run (o := o) (nr := 0) (F := k50) (st := ⟨entry 0 [.agg [.vw [] (.int .i64 p0.1), .vw [] (.int .i64 p0.2.1), .vw [] (.ints .i64 p0.2.2)]], fun n => ([] : List T)[n]?, 0⟩) (fun (o : Bool) => (.bool o, [])) rfl fns_50 rfl rfl ?_
  refine wp_seq ?_
  refine wp_reg (nx' := 32) rfl (ev_wr rfl (w_box (sv := (.agg [(.vw _ _), (.vw _ _), (.vw _ _)])) rfl rfl (absW_cons rfl rfl (absW_cons rfl rfl (absW_cons rfl rfl (absW_nil))))) (ev_den (.vw _ _) rfl rfl (ev_nil))) (seqQ_n (?_))
  refine wp_seq ?_
  refine wp_gc ?_
  obtain ⟨v19, hv19, h⟩ := bs h
  rcases its h with ⟨hc20, h⟩ | ⟨hc20, h⟩
  · obtain ⟨v21, hv21, h⟩ := bs h
    rcases its h with ⟨hc22, h⟩ | ⟨hc22, h⟩
    · obtain ⟨v23, hv23, h⟩ := bs h
      rcases its h with ⟨hc24, h⟩ | ⟨hc24, h⟩
      · obtain ⟨v25, hv25, h⟩ := bs h
        rcases its h with ⟨hc26, h⟩ | ⟨hc26, h⟩
        · obtain ⟨v27, hv27, h⟩ := bs h
          refine wp_reg (nx' := 464) rfl (ev_den (.ptr 0 [] (some 2)) rfl rfl (ev_den (.vw _ _) rfl (d_ld_o rfl (rget_of rfl (get_nil)) rfl rfl) (ev_den (.vw _ _) rfl rfl (ev_call0 [(.vw _ _), (.vw _ _), (.vw _ _)] rfl (call_ok (rs := []) (rd := []) rfl rfl rfl rfl (argL_cons rfl (argL_cons rfl (argL_cons rfl (argL_nil)))) rfl rfl (impl_within_ok hv19) rfl rfl rfl rfl rfl) (ev_den (.vw _ _) rfl rfl (ev_on rfl hc20 (ev_den (.ptr 0 [] (some 0)) rfl rfl (ev_on rfl hc20 (ev_den (.vw _ _) rfl (d_ld_o rfl (rget_of rfl (get_nil)) rfl rfl) (ev_on rfl hc20 (ev_call0 [(.vw _ _), (.vw _ _), (.vw _ _)] rfl (call_ok (rs := []) (rd := []) rfl rfl rfl rfl (argL_cons rfl (argL_cons rfl (argL_cons rfl (argL_nil)))) rfl rfl (impl_within_ok hv21) rfl rfl rfl rfl rfl) (ev_den (.vw _ _) rfl (d_pick_t rfl hc20 rfl) (ev_den (.vw _ _) rfl rfl (ev_on rfl hc22 (ev_den (.ptr 0 [] (some 1)) rfl rfl (ev_on rfl hc22 (ev_den (.vw _ _) rfl (d_ld_o rfl (rget_of rfl (get_nil)) rfl rfl) (ev_on rfl hc22 (ev_call0 [(.vw _ _), (.vw _ _), (.vw _ _)] rfl (call_ok (rs := []) (rd := []) rfl rfl rfl rfl (argL_cons rfl (argL_cons rfl (argL_cons rfl (argL_nil)))) rfl rfl (impl_within_ok hv23) rfl rfl rfl rfl rfl) (ev_den (.vw _ _) rfl (d_pick_t rfl hc22 rfl) (ev_den (.vw _ _) rfl rfl (ev_on rfl hc24 (ev_den (.ptr 0 [] (some 2)) rfl rfl (ev_on rfl hc24 (ev_den (.vw _ _) rfl (d_ld_o rfl (rget_of rfl (get_nil)) rfl rfl) (ev_on rfl hc24 (ev_call0 [(.vw _ _), (.vw _ _), (.vw _ _)] rfl (call_ok (rs := []) (rd := []) rfl rfl rfl rfl (argL_cons rfl (argL_cons rfl (argL_cons rfl (argL_nil)))) rfl rfl (impl_allWithin_ok hv25) rfl rfl rfl rfl rfl) (ev_den (.vw _ _) rfl (d_pick_t rfl hc24 rfl) (ev_den (.vw _ _) rfl rfl (ev_on rfl hc26 (ev_den (.agg [(.vw _ _), (.vw _ _), (.vw _ _)]) rfl (d_ld_os rfl (rget_of rfl (get_nil)) rfl (cells_cons rfl (cells_cons rfl (cells_cons rfl (cells_nil))))) (ev_on rfl hc26 (ev_call0 [(.agg [(.vw _ _), (.vw _ _), (.vw _ _)])] rfl (call_ok (rs := []) (rd := []) rfl rfl rfl rfl (argL_cons (argT_a (argL_cons rfl (argL_cons rfl (argL_cons rfl (argL_nil))))) (argL_nil)) rfl rfl (impl_TimedRing_busy_ok hv27) rfl rfl rfl rfl rfl) (ev_on rfl hc26 (ev_den (.ptr 0 [] (some 0)) rfl rfl (ev_on rfl hc26 (ev_den (.vw _ _) rfl (d_ld_o rfl (rget_of rfl (get_nil)) rfl rfl) (ev_on rfl hc26 (ev_den (.vw _ _) rfl rfl (ev_den (.vw _ _) rfl (d_pick_t rfl hc26 rfl) (ev_den (.vw _ _) rfl rfl (ev_nil)))))))))))))))))))))))))))))))))))))))))) (gcQ_n (gc_to [] (e := [(2, .vw [] (.bool ((decide (v27 ≤ p0.1)))))]) (ts := []) (n := 0) rfl rfl rfl rfl) (seqQ_n (?_)))
          cases h
          exact wp_ret (qf_r ((outs_ok (vs := [(.vw _ _)]) rfl (absW_cons rfl rfl (absW_nil)) rfl rfl)))
        · refine wp_reg (nx' := 464) rfl (ev_den (.ptr 0 [] (some 2)) rfl rfl (ev_den (.vw _ _) rfl (d_ld_o rfl (rget_of rfl (get_nil)) rfl rfl) (ev_den (.vw _ _) rfl rfl (ev_call0 [(.vw _ _), (.vw _ _), (.vw _ _)] rfl (call_ok (rs := []) (rd := []) rfl rfl rfl rfl (argL_cons rfl (argL_cons rfl (argL_cons rfl (argL_nil)))) rfl rfl (impl_within_ok hv19) rfl rfl rfl rfl rfl) (ev_den (.vw _ _) rfl rfl (ev_on rfl hc20 (ev_den (.ptr 0 [] (some 0)) rfl rfl (ev_on rfl hc20 (ev_den (.vw _ _) rfl (d_ld_o rfl (rget_of rfl (get_nil)) rfl rfl) (ev_on rfl hc20 (ev_call0 [(.vw _ _), (.vw _ _), (.vw _ _)] rfl (call_ok (rs := []) (rd := []) rfl rfl rfl rfl (argL_cons rfl (argL_cons rfl (argL_cons rfl (argL_nil)))) rfl rfl (impl_within_ok hv21) rfl rfl rfl rfl rfl) (ev_den (.vw _ _) rfl (d_pick_t rfl hc20 rfl) (ev_den (.vw _ _) rfl rfl (ev_on rfl hc22 (ev_den (.ptr 0 [] (some 1)) rfl rfl (ev_on rfl hc22 (ev_den (.vw _ _) rfl (d_ld_o rfl (rget_of rfl (get_nil)) rfl rfl) (ev_on rfl hc22 (ev_call0 [(.vw _ _), (.vw _ _), (.vw _ _)] rfl (call_ok (rs := []) (rd := []) rfl rfl rfl rfl (argL_cons rfl (argL_cons rfl (argL_cons rfl (argL_nil)))) rfl rfl (impl_within_ok hv23) rfl rfl rfl rfl rfl) (ev_den (.vw _ _) rfl (d_pick_t rfl hc22 rfl) (ev_den (.vw _ _) rfl rfl (ev_on rfl hc24 (ev_den (.ptr 0 [] (some 2)) rfl rfl (ev_on rfl hc24 (ev_den (.vw _ _) rfl (d_ld_o rfl (rget_of rfl (get_nil)) rfl rfl) (ev_on rfl hc24 (ev_call0 [(.vw _ _), (.vw _ _), (.vw _ _)] rfl (call_ok (rs := []) (rd := []) rfl rfl rfl rfl (argL_cons rfl (argL_cons rfl (argL_cons rfl (argL_nil)))) rfl rfl (impl_allWithin_ok hv25) rfl rfl rfl rfl rfl) (ev_den (.vw _ _) rfl (d_pick_t rfl hc24 rfl) (ev_den (.vw _ _) rfl rfl (ev_off rfl hc26 (ev_off rfl hc26 (ev_off rfl hc26 (ev_off rfl hc26 (ev_off rfl hc26 (ev_den (.vw _ _) rfl (d_pick_f rfl hc26 rfl) (ev_den (.vw _ _) rfl rfl (ev_nil))))))))))))))))))))))))))))))))))))) (gcQ_n (gc_to [] (e := [(2, .vw [] (.bool false))]) (ts := []) (n := 0) rfl rfl rfl rfl) (seqQ_n (?_)))
          cases h
          exact wp_ret (qf_r ((outs_ok (vs := [(.vw _ _)]) rfl (absW_cons rfl rfl (absW_nil)) rfl rfl)))
      · refine wp_reg (nx' := 464) rfl (ev_den (.ptr 0 [] (some 2)) rfl rfl (ev_den (.vw _ _) rfl (d_ld_o rfl (rget_of rfl (get_nil)) rfl rfl) (ev_den (.vw _ _) rfl rfl (ev_call0 [(.vw _ _), (.vw _ _), (.vw _ _)] rfl (call_ok (rs := []) (rd := []) rfl rfl rfl rfl (argL_cons rfl (argL_cons rfl (argL_cons rfl (argL_nil)))) rfl rfl (impl_within_ok hv19) rfl rfl rfl rfl rfl) (ev_den (.vw _ _) rfl rfl (ev_on rfl hc20 (ev_den (.ptr 0 [] (some 0)) rfl rfl (ev_on rfl hc20 (ev_den (.vw _ _) rfl (d_ld_o rfl (rget_of rfl (get_nil)) rfl rfl) (ev_on rfl hc20 (ev_call0 [(.vw _ _), (.vw _ _), (.vw _ _)] rfl (call_ok (rs := []) (rd := []) rfl rfl rfl rfl (argL_cons rfl (argL_cons rfl (argL_cons rfl (argL_nil)))) rfl rfl (impl_within_ok hv21) rfl rfl rfl rfl rfl) (ev_den (.vw _ _) rfl (d_pick_t rfl hc20 rfl) (ev_den (.vw _ _) rfl rfl (ev_on rfl hc22 (ev_den (.ptr 0 [] (some 1)) rfl rfl (ev_on rfl hc22 (ev_den (.vw _ _) rfl (d_ld_o rfl (rget_of rfl (get_nil)) rfl rfl) (ev_on rfl hc22 (ev_call0 [(.vw _ _), (.vw _ _), (.vw _ _)] rfl (call_ok (rs := []) (rd := []) rfl rfl rfl rfl (argL_cons rfl (argL_cons rfl (argL_cons rfl (argL_nil)))) rfl rfl (impl_within_ok hv23) rfl rfl rfl rfl rfl) (ev_den (.vw _ _) rfl (d_pick_t rfl hc22 rfl) (ev_den (.vw _ _) rfl rfl (ev_off rfl hc24 (ev_off rfl hc24 (ev_off rfl hc24 (ev_den (.vw _ _) rfl (d_pick_f rfl hc24 rfl) (ev_den (.vw _ _) rfl rfl (ev_off rfl rfl (ev_off rfl rfl (ev_off rfl rfl (ev_off rfl rfl (ev_off rfl rfl (ev_den (.vw _ _) rfl (d_pick_f rfl rfl rfl) (ev_den (.vw _ _) rfl rfl (ev_nil)))))))))))))))))))))))))))))))))) (gcQ_n (gc_to [] (e := [(2, .vw [] (.bool false))]) (ts := []) (n := 0) rfl rfl rfl rfl) (seqQ_n (?_)))
        cases h
        exact wp_ret (qf_r ((outs_ok (vs := [(.vw _ _)]) rfl (absW_cons rfl rfl (absW_nil)) rfl rfl)))
    · refine wp_reg (nx' := 464) rfl (ev_den (.ptr 0 [] (some 2)) rfl rfl (ev_den (.vw _ _) rfl (d_ld_o rfl (rget_of rfl (get_nil)) rfl rfl) (ev_den (.vw _ _) rfl rfl (ev_call0 [(.vw _ _), (.vw _ _), (.vw _ _)] rfl (call_ok (rs := []) (rd := []) rfl rfl rfl rfl (argL_cons rfl (argL_cons rfl (argL_cons rfl (argL_nil)))) rfl rfl (impl_within_ok hv19) rfl rfl rfl rfl rfl) (ev_den (.vw _ _) rfl rfl (ev_on rfl hc20 (ev_den (.ptr 0 [] (some 0)) rfl rfl (ev_on rfl hc20 (ev_den (.vw _ _) rfl (d_ld_o rfl (rget_of rfl (get_nil)) rfl rfl) (ev_on rfl hc20 (ev_call0 [(.vw _ _), (.vw _ _), (.vw _ _)] rfl (call_ok (rs := []) (rd := []) rfl rfl rfl rfl (argL_cons rfl (argL_cons rfl (argL_cons rfl (argL_nil)))) rfl rfl (impl_within_ok hv21) rfl rfl rfl rfl rfl) (ev_den (.vw _ _) rfl (d_pick_t rfl hc20 rfl) (ev_den (.vw _ _) rfl rfl (ev_off rfl hc22 (ev_off rfl hc22 (ev_off rfl hc22 (ev_den (.vw _ _) rfl (d_pick_f rfl hc22 rfl) (ev_den (.vw _ _) rfl rfl (ev_off rfl rfl (ev_off rfl rfl (ev_off rfl rfl (ev_den (.vw _ _) rfl (d_pick_f rfl rfl rfl) (ev_den (.vw _ _) rfl rfl (ev_off rfl rfl (ev_off rfl rfl (ev_off rfl rfl (ev_off rfl rfl (ev_off rfl rfl (ev_den (.vw _ _) rfl (d_pick_f rfl rfl rfl) (ev_den (.vw _ _) rfl rfl (ev_nil))))))))))))))))))))))))))))))) (gcQ_n (gc_to [] (e := [(2, .vw [] (.bool false))]) (ts := []) (n := 0) rfl rfl rfl rfl) (seqQ_n (?_)))
      cases h
      exact wp_ret (qf_r ((outs_ok (vs := [(.vw _ _)]) rfl (absW_cons rfl rfl (absW_nil)) rfl rfl)))
  · refine wp_reg (nx' := 464) rfl (ev_den (.ptr 0 [] (some 2)) rfl rfl (ev_den (.vw _ _) rfl (d_ld_o rfl (rget_of rfl (get_nil)) rfl rfl) (ev_den (.vw _ _) rfl rfl (ev_call0 [(.vw _ _), (.vw _ _), (.vw _ _)] rfl (call_ok (rs := []) (rd := []) rfl rfl rfl rfl (argL_cons rfl (argL_cons rfl (argL_cons rfl (argL_nil)))) rfl rfl (impl_within_ok hv19) rfl rfl rfl rfl rfl) (ev_den (.vw _ _) rfl rfl (ev_off rfl hc20 (ev_off rfl hc20 (ev_off rfl hc20 (ev_den (.vw _ _) rfl (d_pick_f rfl hc20 rfl) (ev_den (.vw _ _) rfl rfl (ev_off rfl rfl (ev_off rfl rfl (ev_off rfl rfl (ev_den (.vw _ _) rfl (d_pick_f rfl rfl rfl) (ev_den (.vw _ _) rfl rfl (ev_off rfl rfl (ev_off rfl rfl (ev_off rfl rfl (ev_den (.vw _ _) rfl (d_pick_f rfl rfl rfl) (ev_den (.vw _ _) rfl rfl (ev_off rfl rfl (ev_off rfl rfl (ev_off rfl rfl (ev_off rfl rfl (ev_off rfl rfl (ev_den (.vw _ _) rfl (d_pick_f rfl rfl rfl) (ev_den (.vw _ _) rfl rfl (ev_nil)))))))))))))))))))))))))))) (gcQ_n (gc_to [] (e := [(2, .vw [] (.bool false))]) (ts := []) (n := 0) rfl rfl rfl rfl) (seqQ_n (?_)))
    cases h
    exact wp_ret (qf_r ((outs_ok (vs := [(.vw _ _)]) rfl (absW_cons rfl rfl (absW_nil)) rfl rfl)))
noncomputable def impl_isWished_j2 (x51 : Int) : Bool → Option (Int ⊕ (Unit ⊕ Bool)) := fun x81 =>
if x81 = true then
some (.inr (.inr false))
else
some (.inl ((w64 (x51 + (1 : Int)))))
noncomputable def impl_isWished_s1 (p0 : Int × Int × (List Int)) (p1 : List (List Int)) : Int → Option (Int ⊕ (Unit ⊕ Bool)) := fun x51 =>
if (decide (x51 < (List.length p1 : Int))) = true then
(at? p1 x51).bind fun v78 =>
if ((List.length v78 : Int) != (List.length p0.2.2 : Int)) = true then
impl_isWished_j2 x51 true
else
(impl_allWithin v78 ((0 : Int)) ((200 : Int))).bind fun v86 =>
impl_isWished_j2 x51 (!v86)
else
some (.inr (.inl ()))
noncomputable def impl_isWished_l1 (p0 : Int × Int × (List Int)) (p1 : List (List Int)) : Int → Option (Unit ⊕ Bool) := iter (impl_isWished_s1 p0 p1)
/-- loop.example/g01176/impl.isWished -/
noncomputable def impl_isWished (p0 : Int × Int × (List Int)) (p1 : List (List Int)) : Option Bool :=
(impl_isWished_l1 p0 p1 (0 : Int)).bind fun w => match w with
| .inl _ =>
(impl_IsTimedRing p0).bind fun v91 =>
if v91 = true then
some (decide ((List.length p1 : Int) ≤ (20 : Int)))
else
some false
| .inr r93 =>
some r93
theorem impl_isWished_ok {p0 : Int × Int × (List Int)} {p1 : List (List Int)} {o : Bool} (h : impl_isWished p0 p1 = some o) : RN 86 [.agg [.int .i64 p0.1, .int .i64 p0.2.1, .ints .i64 p0.2.2], .rows 1 (List.map (T.ints .i64) p1)] [] = some (.bool o, []) := by
  refine fn_run (o := o) (nr := 0) (F := k86) (st := ⟨entry 0 [.agg [.vw [] (.int .i64 p0.1), .vw [] (.int .i64 p0.2.1), .vw [] (.ints .i64 p0.2.2)], .vw [] (.rows 1 (List.map (T.ints .i64) p1))], fun n => ([] : List T)[n]?, 0⟩) (fun (o : Bool) => (.bool o, [])) rfl fns_86 rfl rfl ?_
  refine wp_seq ?_
  refine wp_reg (nx' := 32) rfl (ev_wr rfl (w_box (sv := (.agg [(.vw _ _), (.vw _ _), (.vw _ _)])) rfl rfl (absW_cons rfl rfl (absW_cons rfl rfl (absW_cons rfl rfl (absW_nil))))) (ev_den (.vw _ _) rfl rfl (ev_nil))) (seqQ_n (?_))
  refine wp_seq ?_
  refine wp_gc ?_
  refine wp_seq ?_
  refine wp_gc ?_
  refine wp_reg (nx' := 80) rfl (ev_den (.vw _ _) rfl rfl (ev_den (.vw _ _) rfl (d_len_vr (e := (T.ints .i64)) rfl) (ev_den (.vw _ _) rfl rfl (ev_nil)))) (gcQ_n (gc_to [0] (e := [(1, .vw [] (.rows 1 (List.map (T.ints .i64) p1))), (2, .ptr 0 [] (some 0)), (7, .vw [] (.rows 1 (List.map (T.ints .i64) p1))), (8, .vw [] (.int .i64 ((List.length p1 : Int)))), (9, .vw [] (.int .i64 ((0 : Int))))]) (ts := [some (.ptr (.agg [.int .i64 p0.1, .int .i64 p0.2.1, .sh (.ints .i64 p0.2.2)]))]) (n := 1) rfl rfl rfl rfl) (seqQ_n (?_)))
  refine wp_gc ?_
  refine wp_blk ?_
  obtain ⟨w88, hw88, h⟩ := bs h
  refine wp_mono (wp_loop (fun (x51 : Int) => (⟨al .dead [(1, .vw [] (.rows 1 (List.map (T.ints .i64) p1))), (2, .ptr 0 [] (some 0)), (7, .vw [] (.rows 1 (List.map (T.ints .i64) p1))), (8, .vw [] (.int .i64 ((List.length p1 : Int)))), (9, .vw [] (.int .i64 x51))], hl [some (.ptr (.agg [.int .i64 p0.1, .int .i64 p0.2.1, .sh (.ints .i64 p0.2.2)]))], 1⟩ : St)) (fun (v : Unit ⊕ Bool) e st => match v with | .inl _ => e = .exit 0 ∧ gc 0 [1, 2] st = ⟨al .dead [(1, .vw [] (.rows 1 (List.map (T.ints .i64) p1))), (2, .ptr 0 [] (some 0))], hl [some (.ptr (.agg [.int .i64 p0.1, .int .i64 p0.2.1, .sh (.ints .i64 p0.2.2)]))], 1⟩ | .inr rr => e = .ret ∧ outs 0 k86 st = some (.bool rr, [])) hw88 ?_) ?_
  · rintro x51 o h
    refine wp_gc ?_
    refine wp_seq ?_
    refine wp_reg (nx' := 17) rfl (ev_den (.vw _ _) rfl rfl (ev_nil)) (seqQ_n (?_))
    refine wp_seq ?_
    refine wp_gc ?_
    rcases its h with ⟨hc67, h⟩ | ⟨hc67, h⟩
    · refine wp_ct rfl hc67 ?_
      refine wp_skip (gcQ_n (gc_to [0] (e := [(1, .vw [] (.rows 1 (List.map (T.ints .i64) p1))), (2, .ptr 0 [] (some 0)), (7, .vw [] (.rows 1 (List.map (T.ints .i64) p1))), (8, .vw [] (.int .i64 ((List.length p1 : Int)))), (9, .vw [] (.int .i64 x51))]) (ts := [some (.ptr (.agg [.int .i64 p0.1, .int .i64 p0.2.1, .sh (.ints .i64 p0.2.2)]))]) (n := 1) rfl rfl rfl rfl) (seqQ_n (?_)))
      refine wp_seq ?_
      refine wp_gc ?_
      refine wp_gc ?_
      refine wp_blk ?_
      refine wp_seq ?_
      obtain ⟨v78, hv78, h⟩ := bs h
      refine wp_reg (nx' := 49) rfl (ev_den (.pv _ _) rfl (d_idx_vr (T.ints .i64) rfl rfl hv78) (ev_den (.vw _ _) rfl rfl (ev_den (.vw _ _) rfl rfl (ev_nil)))) (seqQ_n (?_))
      refine wp_seq ?_
      refine wp_join (impl_isWished_j2 x51) (fun (x81 : Bool) => (⟨al .dead [(1, .vw [] (.rows 1 (List.map (T.ints .i64) p1))), (2, .ptr 0 [] (some 0)), (7, .vw [] (.rows 1 (List.map (T.ints .i64) p1))), (8, .vw [] (.int .i64 ((List.length p1 : Int)))), (9, .vw [] (.int .i64 x51)), (23, .vw [] (.bool x81))], hl [some (.ptr (.agg [.int .i64 p0.1, .int .i64 p0.2.1, .sh (.ints .i64 p0.2.2)]))], 1⟩ : St)) ?_ ?_
      · rintro x81 o h
        refine seqQ_n (?_)
        rcases its h with ⟨hc82, h⟩ | ⟨hc82, h⟩
        · refine wp_ct rfl hc82 ?_
          refine wp_seq ?_
          refine wp_reg (nx' := 17) rfl (ev_den (.vw _ _) rfl rfl (ev_nil)) (seqQ_n (?_))
          cases h
          exact wp_ret (blkQ_r (gcQ_r (gcQ_r (seqQ_r (gcQ_r (loopQ_r (And.intro rfl (outs_ok (vs := [(.vw _ _)]) rfl (absW_cons rfl rfl (absW_nil)) rfl rfl))))))))
        · refine wp_cf rfl hc82 ?_
          refine wp_skip (blkQ_n (gcQ_n (gc_to [0] (e := [(1, .vw [] (.rows 1 (List.map (T.ints .i64) p1))), (2, .ptr 0 [] (some 0)), (7, .vw [] (.rows 1 (List.map (T.ints .i64) p1))), (8, .vw [] (.int .i64 ((List.length p1 : Int)))), (9, .vw [] (.int .i64 x51))]) (ts := [some (.ptr (.agg [.int .i64 p0.1, .int .i64 p0.2.1, .sh (.ints .i64 p0.2.2)]))]) (n := 1) rfl rfl rfl rfl) (gcQ_n (gc_to [0] (e := [(1, .vw [] (.rows 1 (List.map (T.ints .i64) p1))), (2, .ptr 0 [] (some 0)), (7, .vw [] (.rows 1 (List.map (T.ints .i64) p1))), (8, .vw [] (.int .i64 ((List.length p1 : Int)))), (9, .vw [] (.int .i64 x51))]) (ts := [some (.ptr (.agg [.int .i64 p0.1, .int .i64 p0.2.1, .sh (.ints .i64 p0.2.2)]))]) (n := 1) rfl rfl rfl rfl) (seqQ_n (?_)))))
          cases h
          exact wp_reg (nx' := 33) rfl (ev_den (.vw _ _) rfl rfl (ev_den (.vw _ _) rfl rfl (ev_nil))) (gcQ_n (gc_to [0] (e := [(1, .vw [] (.rows 1 (List.map (T.ints .i64) p1))), (2, .ptr 0 [] (some 0)), (7, .vw [] (.rows 1 (List.map (T.ints .i64) p1))), (8, .vw [] (.int .i64 ((List.length p1 : Int)))), (9, .vw [] (.int .i64 ((w64 (x51 + (1 : Int))))))]) (ts := [some (.ptr (.agg [.int .i64 p0.1, .int .i64 p0.2.1, .sh (.ints .i64 p0.2.2)]))]) (n := 1) rfl rfl rfl rfl) (loopQ_n rfl))
      · rcases its h with ⟨hc84, h⟩ | ⟨hc84, h⟩
        · exact wp_reg (nx' := 225) rfl (ev_den (.vw _ _) rfl rfl (ev_den (.vw _ _) rfl rfl (ev_den (.ptr 0 [] (some 2)) rfl rfl (ev_den (.vw _ _) rfl (d_ld_o rfl (rget_of rfl (get_nil)) rfl rfl) (ev_den (.vw _ _) rfl rfl (ev_den (.vw _ _) rfl rfl (ev_den (.vw _ _) rfl rfl (ev_off rfl hc84 (ev_off rfl hc84 (ev_off rfl hc84 (ev_den (.vw _ _) rfl (d_pick_t rfl hc84 rfl) (ev_nil)))))))))))) (joinQ_n true h (gc_to [0] rfl rfl rfl rfl))
        · obtain ⟨v86, hv86, h⟩ := bs h
          exact wp_reg (nx' := 225) rfl (ev_den (.vw _ _) rfl rfl (ev_den (.vw _ _) rfl rfl (ev_den (.ptr 0 [] (some 2)) rfl rfl (ev_den (.vw _ _) rfl (d_ld_o rfl (rget_of rfl (get_nil)) rfl rfl) (ev_den (.vw _ _) rfl rfl (ev_den (.vw _ _) rfl rfl (ev_den (.vw _ _) rfl rfl (ev_on rfl hc84 (ev_den (.vw _ _) rfl rfl (ev_on rfl hc84 (ev_call0 [(.vw _ _), (.vw _ _), (.vw _ _)] rfl (call_ok (rs := []) (rd := []) rfl rfl rfl rfl (argL_cons rfl (argL_cons rfl (argL_cons rfl (argL_nil)))) rfl rfl (impl_allWithin_ok hv86) rfl rfl rfl rfl rfl) (ev_on rfl hc84 (ev_den (.vw _ _) rfl rfl (ev_den (.vw _ _) rfl (d_pick_f rfl hc84 rfl) (ev_nil))))))))))))))) (joinQ_n (!v86) h (gc_to [0] rfl rfl rfl rfl))
    · refine wp_cf rfl hc67 ?_
      cases h
      exact wp_exit (gcQ_e (seqQ_e (gcQ_e (loopQ_e (And.intro rfl (gc_to [0] (e := [(1, .vw [] (.rows 1 (List.map (T.ints .i64) p1))), (2, .ptr 0 [] (some 0))]) (ts := [some (.ptr (.agg [.int .i64 p0.1, .int .i64 p0.2.1, .sh (.ints .i64 p0.2.2)]))]) (n := 1) rfl rfl rfl rfl))))))
  · intro e st88 hg88
    rcases w88 with _ | r93
    · obtain ⟨rfl, hg88⟩ := hg88
      refine blkQ_h (gcQ_n hg88 (gcQ_n (gc_to [0] (e := [(1, .vw [] (.rows 1 (List.map (T.ints .i64) p1))), (2, .ptr 0 [] (some 0))]) (ts := [some (.ptr (.agg [.int .i64 p0.1, .int .i64 p0.2.1, .sh (.ints .i64 p0.2.2)]))]) (n := 1) rfl rfl rfl rfl) (seqQ_n (?_))))
      refine wp_seq ?_
      refine wp_gc ?_
      obtain ⟨v91, hv91, h⟩ := bs h
      rcases its h with ⟨hc92, h⟩ | ⟨hc92, h⟩
      · refine wp_reg (nx' := 129) rfl (ev_den (.agg [(.vw _ _), (.vw _ _), (.vw _ _)]) rfl (d_ld_os rfl (rget_of rfl (get_nil)) rfl (cells_cons rfl (cells_cons rfl (cells_cons rfl (cells_nil))))) (ev_call0 [(.agg [(.vw _ _), (.vw _ _), (.vw _ _)])] rfl (call_ok (rs := []) (rd := []) rfl rfl rfl rfl (argL_cons (argT_a (argL_cons rfl (argL_cons rfl (argL_cons rfl (argL_nil))))) (argL_nil)) rfl rfl (impl_IsTimedRing_ok hv91) rfl rfl rfl rfl rfl) (ev_den (.vw _ _) rfl rfl (ev_on rfl hc92 (ev_den (.vw _ _) rfl rfl (ev_on rfl hc92 (ev_den (.vw _ _) rfl (d_len_vr (e := (T.ints .i64)) rfl) (ev_on rfl hc92 (ev_den (.vw _ _) rfl rfl (ev_den (.vw _ _) rfl (d_pick_t rfl hc92 rfl) (ev_den (.vw _ _) rfl rfl (ev_nil)))))))))))) (gcQ_n (gc_to [] (e := [(4, .vw [] (.bool ((decide ((List.length p1 : Int) ≤ (20 : Int))))))]) (ts := []) (n := 0) rfl rfl rfl rfl) (seqQ_n (?_)))
        cases h
        exact wp_ret (qf_r ((outs_ok (vs := [(.vw _ _)]) rfl (absW_cons rfl rfl (absW_nil)) rfl rfl)))
      · refine wp_reg (nx' := 129) rfl (ev_den (.agg [(.vw _ _), (.vw _ _), (.vw _ _)]) rfl (d_ld_os rfl (rget_of rfl (get_nil)) rfl (cells_cons rfl (cells_cons rfl (cells_cons rfl (cells_nil))))) (ev_call0 [(.agg [(.vw _ _), (.vw _ _), (.vw _ _)])] rfl (call_ok (rs := []) (rd := []) rfl rfl rfl rfl (argL_cons (argT_a (argL_cons rfl (argL_cons rfl (argL_cons rfl (argL_nil))))) (argL_nil)) rfl rfl (impl_IsTimedRing_ok hv91) rfl rfl rfl rfl rfl) (ev_den (.vw _ _) rfl rfl (ev_off rfl hc92 (ev_off rfl hc92 (ev_off rfl hc92 (ev_den (.vw _ _) rfl (d_pick_f rfl hc92 rfl) (ev_den (.vw _ _) rfl rfl (ev_nil))))))))) (gcQ_n (gc_to [] (e := [(4, .vw [] (.bool false))]) (ts := []) (n := 0) rfl rfl rfl rfl) (seqQ_n (?_)))
        cases h
        exact wp_ret (qf_r ((outs_ok (vs := [(.vw _ _)]) rfl (absW_cons rfl rfl (absW_nil)) rfl rfl)))
    · obtain ⟨rfl, hg88⟩ := hg88
      cases h
      exact blkQ_r (gcQ_r (gcQ_r (seqQ_r (qf_r (hg88)))))
noncomputable def impl_TimedRing_visits_s1 (p0 : Int × Int × (List Int)) : ((List Int) × Int) → Option (((List Int) × Int) ⊕ ((List Int))) := fun (x89, x90) =>
if (decide (x90 < (List.length p0.2.2 : Int))) = true then
(app? x89 (([(w64 ((w64 (x90 - (List.length p0.2.2 : Int))) * p0.2.1))] : List Int))).bind fun v104 =>
some (.inl (v104, (w64 (x90 + (1 : Int)))))
else
some (.inr x89)
noncomputable def impl_TimedRing_visits_l1 (p0 : Int × Int × (List Int)) : ((List Int) × Int) → Option ((List Int)) := iter (impl_TimedRing_visits_s1 p0)
noncomputable def impl_TimedRing_visits_s3 (p0 : Int × Int × (List Int)) (v365 : List Int) : ((List (List Int)) × (List Int) × Int × Int) → Option (((List (List Int)) × (List Int) × Int × Int) ⊕ ((List (List Int)) × (List Int) × Int)) := fun (x395, x396, x397, x398) =>
if (decide (x398 < (List.length v365 : Int))) = true then
(at? v365 x398).bind fun v434 =>
(at? x396 x398).bind fun v435 =>
(some ((if (w64 (p0.1 - (w64 (x397 - v435)))) > (0 : Int) then (w64 (p0.1 - (w64 (x397 - v435)))) else (0 : Int)))).bind fun v436 =>
(app? x395 (([([x397, x398, (if v436 < v434 then v436 else v434)] : List Int)] : List (List Int)))).bind fun v437 =>
(at? p0.2.2 x398).bind fun v438 =>
some (.inl (v437, (List.set x396 (Int.toNat x398) x397), (w64 (x397 + (w64 ((w64 (v438 + (if v436 < v434 then v436 else v434))) + p0.2.1)))), (w64 (x398 + (1 : Int)))))
else
some (.inr (x395, x396, x397))
noncomputable def impl_TimedRing_visits_l3 (p0 : Int × Int × (List Int)) (v365 : List Int) : ((List (List Int)) × (List Int) × Int × Int) → Option ((List (List Int)) × (List Int) × Int) := iter (impl_TimedRing_visits_s3 p0 v365)
noncomputable def impl_TimedRing_visits_s2 (p0 : Int × Int × (List Int)) (p1 : List (List Int)) : ((List (List Int)) × (List Int) × Int × Int) → Option (((List (List Int)) × (List Int) × Int × Int) ⊕ ((List (List Int)))) := fun (x252, x253, x254, x255) =>
if (decide (x255 < (List.length p1 : Int))) = true then
(at? p1 x255).bind fun v365 =>
(impl_TimedRing_visits_l3 p0 v365 (x252, x253, x254, (0 : Int))).bind fun (x409, x410, x411) =>
some (.inl (x409, x410, x411, (w64 (x255 + (1 : Int)))))
else
some (.inr x252)
noncomputable def impl_TimedRing_visits_l2 (p0 : Int × Int × (List Int)) (p1 : List (List Int)) : ((List (List Int)) × (List Int) × Int × Int) → Option ((List (List Int))) := iter (impl_TimedRing_visits_s2 p0 p1)
/-- (loop.example/g01176/impl.TimedRing).visits -/
noncomputable def impl_TimedRing_visits (p0 : Int × Int × (List Int)) (p1 : List (List Int)) : Option ((List (List Int))) :=
(impl_TimedRing_visits_l1 p0 (([] : List Int), (0 : Int))).bind fun x95 =>
(impl_TimedRing_visits_l2 p0 p1 (([] : List (List Int)), x95, (0 : Int), (0 : Int))).bind fun x285 =>
some x285
theorem impl_TimedRing_visits_ok {p0 : Int × Int × (List Int)} {p1 : List (List Int)} {o : (List (List Int))} (h : impl_TimedRing_visits p0 p1 = some o) : RN 87 [.agg [.int .i64 p0.1, .int .i64 p0.2.1, .ints .i64 p0.2.2], .rows 1 (List.map (T.ints .i64) p1)] [] = some (.rows 1 (List.map (T.ints .i64) o), []) := by
  refine fn_run (o := o) (nr := 0) (F := k87) (st := ⟨entry 0 [.agg [.vw [] (.int .i64 p0.1), .vw [] (.int .i64 p0.2.1), .vw [] (.ints .i64 p0.2.2)], .vw [] (.rows 1 (List.map (T.ints .i64) p1))], fun n => ([] : List T)[n]?, 0⟩) (fun (o : (List (List Int))) => (.rows 1 (List.map (T.ints .i64) o), [])) rfl fns_87 rfl rfl ?_
  refine wp_seq ?_
  refine wp_reg (nx' := 32) rfl (ev_wr rfl (w_box (sv := (.agg [(.vw _ _), (.vw _ _), (.vw _ _)])) rfl rfl (absW_cons rfl rfl (absW_cons rfl rfl (absW_cons rfl rfl (absW_nil))))) (ev_new (.ref 16 [] 1 0 0) (.rows 1 []) rfl rfl (ev_nil))) (seqQ_n (?_))
  refine wp_seq ?_
  refine wp_reg (nx' := 112) rfl (ev_wr rfl (w_bsl [] rfl rfl (absW_nil)) (ev_new (.ref 48 [] 1 0 0) (.ints .i64 (([] : List Int))) rfl rfl (ev_den (.ref 32 _ _ _ _) rfl rfl (ev_den (.vw _ _) rfl rfl (ev_den (.ref 48 _ _ _ _) rfl rfl (ev_nil)))))) (seqQ_n (?_))
  refine wp_seq ?_
  refine wp_gc ?_
  refine wp_seq ?_
  refine wp_gc ?_
  refine wp_reg (nx' := 176) rfl (ev_den (.ptr 0 [] (some 2)) rfl rfl (ev_den (.vw _ _) rfl (d_ld_o rfl (rget_of rfl (get_nil)) rfl rfl) (ev_den (.vw _ _) rfl rfl (ev_den (.vw _ _) rfl rfl (ev_nil))))) (gcQ_n (gc_to [0, 32, 48] (e := [(1, .vw [] (.rows 1 (List.map (T.ints .i64) p1))), (2, .ptr 0 [] (some 0)), (5, .ref 1 [] 1 0 (List.length (([] : List (List Int))))), (6, .vw [] (.int .i64 ((0 : Int)))), (7, .ref 2 [] 1 0 (List.length (([] : List Int)))), (18, .vw [] (.int .i64 ((List.length p0.2.2 : Int)))), (19, .vw [] (.int .i64 ((0 : Int))))]) (ts := [some (.ptr (.agg [.int .i64 p0.1, .int .i64 p0.2.1, .sh (.ints .i64 p0.2.2)])), some (.rows 1 (List.map (T.ints .i64) (([] : List (List Int))))), some (.ints .i64 (([] : List Int)))]) (n := 3) rfl rfl rfl rfl) (seqQ_n (?_)))
  refine wp_gc ?_
  refine wp_blk ?_
  obtain ⟨x95, hw108, h⟩ := bs h
  refine wp_mono (wp_loop (fun ((x89, x90) : (List Int) × Int) => (⟨al .dead [(1, .vw [] (.rows 1 (List.map (T.ints .i64) p1))), (2, .ptr 0 [] (some 0)), (5, .ref 1 [] 1 0 (List.length (([] : List (List Int))))), (6, .vw [] (.int .i64 ((0 : Int)))), (7, .ref 2 [] 1 0 (List.length x89)), (18, .vw [] (.int .i64 ((List.length p0.2.2 : Int)))), (19, .vw [] (.int .i64 x90))], hl [some (.ptr (.agg [.int .i64 p0.1, .int .i64 p0.2.1, .sh (.ints .i64 p0.2.2)])), some (.rows 1 (List.map (T.ints .i64) (([] : List (List Int))))), some (.ints .i64 x89)], 3⟩ : St)) (fun (x95 : (List Int)) e st => e = .exit 0 ∧ gc 0 [1, 2, 5, 6, 7] st = ⟨al .dead [(1, .vw [] (.rows 1 (List.map (T.ints .i64) p1))), (2, .ptr 0 [] (some 0)), (5, .ref 1 [] 1 0 (List.length (([] : List (List Int))))), (6, .vw [] (.int .i64 ((0 : Int)))), (7, .ref 2 [] 1 0 (List.length x95))], hl [some (.ptr (.agg [.int .i64 p0.1, .int .i64 p0.2.1, .sh (.ints .i64 p0.2.2)])), some (.rows 1 (List.map (T.ints .i64) (([] : List (List Int))))), some (.ints .i64 x95)], 3⟩) hw108 ?_) ?_
  · rintro ⟨x89, x90⟩ o h
    refine wp_gc ?_
    refine wp_seq ?_
    refine wp_reg (nx' := 19) rfl (ev_den (.vw _ _) rfl rfl (ev_nil)) (seqQ_n (?_))
    refine wp_seq ?_
    refine wp_gc ?_
    rcases its h with ⟨hc101, h⟩ | ⟨hc101, h⟩
    · refine wp_ct rfl hc101 ?_
      refine wp_skip (gcQ_n (gc_to [0, 1, 2] (e := [(1, .vw [] (.rows 1 (List.map (T.ints .i64) p1))), (2, .ptr 0 [] (some 0)), (5, .ref 1 [] 1 0 (List.length (([] : List (List Int))))), (6, .vw [] (.int .i64 ((0 : Int)))), (7, .ref 2 [] 1 0 (List.length x89)), (18, .vw [] (.int .i64 ((List.length p0.2.2 : Int)))), (19, .vw [] (.int .i64 x90))]) (ts := [some (.ptr (.agg [.int .i64 p0.1, .int .i64 p0.2.1, .sh (.ints .i64 p0.2.2)])), some (.rows 1 (List.map (T.ints .i64) (([] : List (List Int))))), some (.ints .i64 x89)]) (n := 3) rfl rfl rfl rfl) (seqQ_n (?_)))
      refine wp_seq ?_
      refine wp_gc ?_
      refine wp_gc ?_
      refine wp_blk ?_
      refine wp_seq ?_
      refine wp_reg (nx' := 35) rfl (ev_den (.vw _ _) rfl rfl (ev_den (.vw _ _) rfl rfl (ev_nil))) (seqQ_n (?_))
      obtain ⟨v104, hv104, h⟩ := bs h
      refine wp_reg (nx' := 227) rfl (ev_den (.ref 2 _ _ _ _) rfl rfl (ev_den (.vw _ _) rfl rfl (ev_den (.ptr 0 [] (some 2)) rfl rfl (ev_den (.vw _ _) rfl (d_ld_o rfl (rget_of rfl (get_nil)) rfl rfl) (ev_den (.vw _ _) rfl rfl (ev_den (.vw _ _) rfl rfl (ev_den (.ptr 0 [] (some 1)) rfl rfl (ev_den (.vw _ _) rfl (d_ld_o rfl (rget_of rfl (get_nil)) rfl rfl) (ev_den (.vw _ _) rfl rfl (ev_den (.vw _ _) rfl rfl (ev_wr rfl (w_app_i (xv := (.ref 2 _ _ _ _)) 2 rfl rfl (abs_ref rfl sub_i) hv104 rfl) (ev_den (.ref 2 _ _ _ _) rfl rfl (ev_nil))))))))))))) (blkQ_n (gcQ_n (gc_to [0, 1, 2] (e := [(1, .vw [] (.rows 1 (List.map (T.ints .i64) p1))), (2, .ptr 0 [] (some 0)), (5, .ref 1 [] 1 0 (List.length (([] : List (List Int))))), (6, .vw [] (.int .i64 ((0 : Int)))), (7, .ref 2 [] 1 0 (List.length v104)), (18, .vw [] (.int .i64 ((List.length p0.2.2 : Int)))), (19, .vw [] (.int .i64 x90))]) (ts := [some (.ptr (.agg [.int .i64 p0.1, .int .i64 p0.2.1, .sh (.ints .i64 p0.2.2)])), some (.rows 1 (List.map (T.ints .i64) (([] : List (List Int))))), some (.ints .i64 v104)]) (n := 3) rfl rfl rfl rfl) (gcQ_n (gc_to [0, 1, 2] (e := [(1, .vw [] (.rows 1 (List.map (T.ints .i64) p1))), (2, .ptr 0 [] (some 0)), (5, .ref 1 [] 1 0 (List.length (([] : List (List Int))))), (6, .vw [] (.int .i64 ((0 : Int)))), (7, .ref 2 [] 1 0 (List.length v104)), (18, .vw [] (.int .i64 ((List.length p0.2.2 : Int)))), (19, .vw [] (.int .i64 x90))]) (ts := [some (.ptr (.agg [.int .i64 p0.1, .int .i64 p0.2.1, .sh (.ints .i64 p0.2.2)])), some (.rows 1 (List.map (T.ints .i64) (([] : List (List Int))))), some (.ints .i64 v104)]) (n := 3) rfl rfl rfl rfl) (seqQ_n (?_)))))
      cases h
      exact wp_reg (nx' := 35) rfl (ev_den (.vw _ _) rfl rfl (ev_den (.vw _ _) rfl rfl (ev_nil))) (gcQ_n (gc_to [0, 1, 2] (e := [(1, .vw [] (.rows 1 (List.map (T.ints .i64) p1))), (2, .ptr 0 [] (some 0)), (5, .ref 1 [] 1 0 (List.length (([] : List (List Int))))), (6, .vw [] (.int .i64 ((0 : Int)))), (7, .ref 2 [] 1 0 (List.length v104)), (18, .vw [] (.int .i64 ((List.length p0.2.2 : Int)))), (19, .vw [] (.int .i64 ((w64 (x90 + (1 : Int))))))]) (ts := [some (.ptr (.agg [.int .i64 p0.1, .int .i64 p0.2.1, .sh (.ints .i64 p0.2.2)])), some (.rows 1 (List.map (T.ints .i64) (([] : List (List Int))))), some (.ints .i64 v104)]) (n := 3) rfl rfl rfl rfl) (loopQ_n rfl))
    · refine wp_cf rfl hc101 ?_
      cases h
      exact wp_exit (gcQ_e (seqQ_e (gcQ_e (loopQ_e (And.intro rfl (gc_to [0, 1, 2] (e := [(1, .vw [] (.rows 1 (List.map (T.ints .i64) p1))), (2, .ptr 0 [] (some 0)), (5, .ref 1 [] 1 0 (List.length (([] : List (List Int))))), (6, .vw [] (.int .i64 ((0 : Int)))), (7, .ref 2 [] 1 0 (List.length x89))]) (ts := [some (.ptr (.agg [.int .i64 p0.1, .int .i64 p0.2.1, .sh (.ints .i64 p0.2.2)])), some (.rows 1 (List.map (T.ints .i64) (([] : List (List Int))))), some (.ints .i64 x89)]) (n := 3) rfl rfl rfl rfl))))))
  · intro e st108 hg108
    obtain ⟨rfl, hg108⟩ := hg108
    refine blkQ_h (gcQ_n hg108 (gcQ_n (gc_to [0, 1, 2] (e := [(1, .vw [] (.rows 1 (List.map (T.ints .i64) p1))), (2, .ptr 0 [] (some 0)), (5, .ref 1 [] 1 0 (List.length (([] : List (List Int))))), (6, .vw [] (.int .i64 ((0 : Int)))), (7, .ref 2 [] 1 0 (List.length x95))]) (ts := [some (.ptr (.agg [.int .i64 p0.1, .int .i64 p0.2.1, .sh (.ints .i64 p0.2.2)])), some (.rows 1 (List.map (T.ints .i64) (([] : List (List Int))))), some (.ints .i64 x95)]) (n := 3) rfl rfl rfl rfl) (seqQ_n (?_))))
    refine wp_seq ?_
    refine wp_gc ?_
    refine wp_seq ?_
    refine wp_gc ?_
    refine wp_reg (nx' := 51) rfl (ev_den (.vw _ _) rfl rfl (ev_den (.vw _ _) rfl (d_len_vr (e := (T.ints .i64)) rfl) (ev_den (.vw _ _) rfl rfl (ev_nil)))) (gcQ_n (gc_to [0, 1, 2] (e := [(2, .ptr 0 [] (some 0)), (5, .ref 1 [] 1 0 (List.length (([] : List (List Int))))), (6, .vw [] (.int .i64 ((0 : Int)))), (7, .ref 2 [] 1 0 (List.length x95)), (34, .vw [] (.rows 1 (List.map (T.ints .i64) p1))), (35, .vw [] (.int .i64 ((List.length p1 : Int)))), (36, .vw [] (.int .i64 ((0 : Int))))]) (ts := [some (.ptr (.agg [.int .i64 p0.1, .int .i64 p0.2.1, .sh (.ints .i64 p0.2.2)])), some (.rows 1 (List.map (T.ints .i64) (([] : List (List Int))))), some (.ints .i64 x95)]) (n := 3) rfl rfl rfl rfl) (seqQ_n (?_)))
    refine wp_gc ?_
    refine wp_blk ?_
    obtain ⟨x285, hw452, h⟩ := bs h
    refine wp_mono (wp_loop (fun ((x252, x253, x254, x255) : (List (List Int)) × (List Int) × Int × Int) => (⟨al .dead [(2, .ptr 0 [] (some 0)), (5, .ref 1 [] 1 0 (List.length x252)), (6, .vw [] (.int .i64 x254)), (7, .ref 2 [] 1 0 (List.length x253)), (34, .vw [] (.rows 1 (List.map (T.ints .i64) p1))), (35, .vw [] (.int .i64 ((List.length p1 : Int)))), (36, .vw [] (.int .i64 x255))], hl [some (.ptr (.agg [.int .i64 p0.1, .int .i64 p0.2.1, .sh (.ints .i64 p0.2.2)])), some (.rows 1 (List.map (T.ints .i64) x252)), some (.ints .i64 x253)], 3⟩ : St)) (fun (x285 : (List (List Int))) e st => e = .exit 2 ∧ gc 0 [5] st = ⟨al .dead [(5, .ref 0 [] 1 0 (List.length x285))], hl [some (.rows 1 (List.map (T.ints .i64) x285))], 1⟩) hw452 ?_) ?_
    · rintro ⟨x252, x253, x254, x255⟩ o h
      refine wp_gc ?_
      refine wp_seq ?_
      refine wp_reg (nx' := 19) rfl (ev_den (.vw _ _) rfl rfl (ev_nil)) (seqQ_n (?_))
      refine wp_seq ?_
      refine wp_gc ?_
      rcases its h with ⟨hc316, h⟩ | ⟨hc316, h⟩
      · refine wp_ct rfl hc316 ?_
        refine wp_skip (gcQ_n (gc_to [0, 1, 2] (e := [(2, .ptr 0 [] (some 0)), (5, .ref 1 [] 1 0 (List.length x252)), (6, .vw [] (.int .i64 x254)), (7, .ref 2 [] 1 0 (List.length x253)), (34, .vw [] (.rows 1 (List.map (T.ints .i64) p1))), (35, .vw [] (.int .i64 ((List.length p1 : Int)))), (36, .vw [] (.int .i64 x255))]) (ts := [some (.ptr (.agg [.int .i64 p0.1, .int .i64 p0.2.1, .sh (.ints .i64 p0.2.2)])), some (.rows 1 (List.map (T.ints .i64) x252)), some (.ints .i64 x253)]) (n := 3) rfl rfl rfl rfl) (seqQ_n (?_)))
        refine wp_seq ?_
        refine wp_gc ?_
        refine wp_gc ?_
        refine wp_blk ?_
        refine wp_seq ?_
        obtain ⟨v365, hv365, h⟩ := bs h
        refine wp_reg (nx' := 51) rfl (ev_den (.pv _ _) rfl (d_idx_vr (T.ints .i64) rfl rfl hv365) (ev_den (.vw _ _) rfl rfl (ev_den (.vw _ _) rfl rfl (ev_nil)))) (seqQ_n (?_))
        refine wp_seq ?_
        refine wp_gc ?_
        refine wp_reg (nx' := 99) rfl (ev_den (.vw _ _) rfl rfl (ev_den (.vw _ _) rfl rfl (ev_den (.vw _ _) rfl rfl (ev_nil)))) (gcQ_n (gc_to [0, 1, 2] (e := [(2, .ptr 0 [] (some 0)), (5, .ref 1 [] 1 0 (List.length x252)), (6, .vw [] (.int .i64 x254)), (7, .ref 2 [] 1 0 (List.length x253)), (34, .vw [] (.rows 1 (List.map (T.ints .i64) p1))), (35, .vw [] (.int .i64 ((List.length p1 : Int)))), (36, .vw [] (.int .i64 x255)), (40, .vw [] (.ints .i64 v365)), (41, .vw [] (.int .i64 ((List.length v365 : Int)))), (42, .vw [] (.int .i64 ((0 : Int))))]) (ts := [some (.ptr (.agg [.int .i64 p0.1, .int .i64 p0.2.1, .sh (.ints .i64 p0.2.2)])), some (.rows 1 (List.map (T.ints .i64) x252)), some (.ints .i64 x253)]) (n := 3) rfl rfl rfl rfl) (seqQ_n (?_)))
        refine wp_gc ?_
        refine wp_blk ?_
        obtain ⟨w446, hw446, h⟩ := bs h
        refine wp_mono (wp_loop (fun ((x395, x396, x397, x398) : (List (List Int)) × (List Int) × Int × Int) => (⟨al .dead [(2, .ptr 0 [] (some 0)), (5, .ref 1 [] 1 0 (List.length x395)), (6, .vw [] (.int .i64 x397)), (7, .ref 2 [] 1 0 (List.length x396)), (34, .vw [] (.rows 1 (List.map (T.ints .i64) p1))), (35, .vw [] (.int .i64 ((List.length p1 : Int)))), (36, .vw [] (.int .i64 x255)), (40, .vw [] (.ints .i64 v365)), (41, .vw [] (.int .i64 ((List.length v365 : Int)))), (42, .vw [] (.int .i64 x398))], hl [some (.ptr (.agg [.int .i64 p0.1, .int .i64 p0.2.1, .sh (.ints .i64 p0.2.2)])), some (.rows 1 (List.map (T.ints .i64) x395)), some (.ints .i64 x396)], 3⟩ : St)) (fun ((x409, x410, x411) : (List (List Int)) × (List Int) × Int) e st => e = .exit 4 ∧ gc 0 [2, 5, 6, 7, 34, 35, 36] st = ⟨al .dead [(2, .ptr 0 [] (some 0)), (5, .ref 1 [] 1 0 (List.length x409)), (6, .vw [] (.int .i64 x411)), (7, .ref 2 [] 1 0 (List.length x410)), (34, .vw [] (.rows 1 (List.map (T.ints .i64) p1))), (35, .vw [] (.int .i64 ((List.length p1 : Int)))), (36, .vw [] (.int .i64 x255))], hl [some (.ptr (.agg [.int .i64 p0.1, .int .i64 p0.2.1, .sh (.ints .i64 p0.2.2)])), some (.rows 1 (List.map (T.ints .i64) x409)), some (.ints .i64 x410)], 3⟩) hw446 ?_) ?_
        · rintro ⟨x395, x396, x397, x398⟩ o h
          refine wp_gc ?_
          refine wp_seq ?_
          refine wp_reg (nx' := 19) rfl (ev_den (.vw _ _) rfl rfl (ev_nil)) (seqQ_n (?_))
          refine wp_seq ?_
          refine wp_gc ?_
          rcases its h with ⟨hc423, h⟩ | ⟨hc423, h⟩
          · refine wp_ct rfl hc423 ?_
            refine wp_skip (gcQ_n (gc_to [0, 1, 2] (e := [(2, .ptr 0 [] (some 0)), (5, .ref 1 [] 1 0 (List.length x395)), (6, .vw [] (.int .i64 x397)), (7, .ref 2 [] 1 0 (List.length x396)), (34, .vw [] (.rows 1 (List.map (T.ints .i64) p1))), (35, .vw [] (.int .i64 ((List.length p1 : Int)))), (36, .vw [] (.int .i64 x255)), (40, .vw [] (.ints .i64 v365)), (41, .vw [] (.int .i64 ((List.length v365 : Int)))), (42, .vw [] (.int .i64 x398))]) (ts := [some (.ptr (.agg [.int .i64 p0.1, .int .i64 p0.2.1, .sh (.ints .i64 p0.2.2)])), some (.rows 1 (List.map (T.ints .i64) x395)), some (.ints .i64 x396)]) (n := 3) rfl rfl rfl rfl) (seqQ_n (?_)))
            refine wp_seq ?_
            refine wp_gc ?_
            refine wp_gc ?_
            refine wp_blk ?_
            refine wp_seq ?_
            obtain ⟨v434, hv434, h⟩ := bs h
            refine wp_reg (nx' := 83) rfl (ev_den (.vw _ _) rfl rfl (ev_den (.pv _ _) rfl (d_idx_vi rfl rfl hv434) (ev_den (.vw _ _) rfl rfl (ev_den (.vw _ _) rfl rfl (ev_den (.vw _ _) rfl rfl (ev_nil)))))) (seqQ_n (?_))
            refine wp_seq ?_
            obtain ⟨v435, hv435, h⟩ := bs h
            obtain ⟨v436, hv436, h⟩ := bs h
            refine wp_reg (nx' := 291) rfl (ev_den (.vw _ _) rfl rfl (ev_den (.ptr 0 [] (some 0)) rfl rfl (ev_den (.vw _ _) rfl (d_ld_o rfl (rget_of rfl (get_nil)) rfl rfl) (ev_den (.vw _ _) rfl rfl (ev_den (.ref 2 _ _ _ _) rfl rfl (ev_den (.vw _ _) rfl rfl (ev_den (.ptr 2 [.e (Int.toNat x398)] none) rfl (d_idx_r (p := []) rfl rfl hv435) (ev_den (.vw _ _) rfl (d_ld_p rfl (rget_of rfl (get_i hv435)) rfl) (ev_den (.vw _ _) rfl rfl (ev_den (.vw _ _) rfl rfl (ev_den (.vw [] (.int .i64 v436)) rfl (d_as_i rfl (Option.some.inj hv436)) (ev_den (.vw _ _) rfl rfl (ev_den (.vw _ _) rfl rfl (ev_nil)))))))))))))) (seqQ_n (?_))
            refine wp_seq ?_
            obtain ⟨v437, hv437, h⟩ := bs h
            refine wp_reg (nx' := 419) rfl (ev_den (.ref 1 _ _ _ _) rfl rfl (ev_den (.vw _ _) rfl rfl (ev_den (.vw _ _) rfl rfl (ev_den (.vw _ _) rfl rfl (ev_new (.ref 355 [] 1 0 3) (.ints .i64 (([x397, x398, (if v436 < v434 then v436 else v434)] : List Int))) rfl rfl (ev_wr rfl (w_bsl [(.ref 355 _ _ _ _)] rfl rfl (absW_cons (absA_ref (abs_ref rfl (sub_i (xs := ([x397, x398, (if v436 < v434 then v436 else v434)] : List Int))))) rfl (absW_nil))) (ev_wr rfl (w_app_r (xs := x395) (ys := (([([x397, x398, (if v436 < v434 then v436 else v434)] : List Int)] : List (List Int)))) (e := (T.ints .i64)) (xv := (.ref 1 _ _ _ _)) (yv := (.ref 371 _ _ _ _)) 1 rfl rfl rfl (abs_ref rfl (sub_r (xs := ([([x397, x398, (if v436 < v434 then v436 else v434)] : List Int)] : List (List Int))))) rfl (abs_ref rfl sub_r) hv437 rfl) (ev_den (.ref 1 _ _ _ _) rfl rfl (ev_nil))))))))) (seqQ_n (?_))
            refine wp_seq ?_
            refine wp_reg (nx' := 499) rfl (ev_den (.ref 2 _ _ _ _) rfl rfl (ev_den (.vw _ _) rfl rfl (ev_den (.vw _ _) rfl rfl (ev_den (.ptr 2 [.e (Int.toNat x398)] none) rfl (d_idx_r (p := []) rfl rfl hv435) (ev_wr0 rfl (w_st_p rfl (st1_of rfl rfl rfl (get_i hv435) rfl (rput_i (put_i hv435)))) (ev_relen (b := (List.length ((List.set x396 (Int.toNat x398) x397)))) 7 rfl List.length_set.symm (ev_nil))))))) (seqQ_n (?_))
            obtain ⟨v438, hv438, h⟩ := bs h
            refine wp_reg (nx' := 707) rfl (ev_den (.vw _ _) rfl rfl (ev_den (.ptr 0 [] (some 2)) rfl rfl (ev_den (.vw _ _) rfl (d_ld_o rfl (rget_of rfl (get_nil)) rfl rfl) (ev_den (.vw _ _) rfl rfl (ev_den (.pv _ _) rfl (d_idx_vi rfl rfl hv438) (ev_den (.vw _ _) rfl rfl (ev_den (.vw _ _) rfl rfl (ev_den (.vw _ _) rfl rfl (ev_den (.ptr 0 [] (some 1)) rfl rfl (ev_den (.vw _ _) rfl (d_ld_o rfl (rget_of rfl (get_nil)) rfl rfl) (ev_den (.vw _ _) rfl rfl (ev_den (.vw _ _) rfl rfl (ev_den (.vw _ _) rfl rfl (ev_nil)))))))))))))) (blkQ_n (gcQ_n (gc_to [0, 1, 2] (e := [(2, .ptr 0 [] (some 0)), (5, .ref 1 [] 1 0 (List.length v437)), (6, .vw [] (.int .i64 ((w64 (x397 + (w64 ((w64 (v438 + (if v436 < v434 then v436 else v434))) + p0.2.1))))))), (7, .ref 2 [] 1 0 (List.length ((List.set x396 (Int.toNat x398) x397)))), (34, .vw [] (.rows 1 (List.map (T.ints .i64) p1))), (35, .vw [] (.int .i64 ((List.length p1 : Int)))), (36, .vw [] (.int .i64 x255)), (40, .vw [] (.ints .i64 v365)), (41, .vw [] (.int .i64 ((List.length v365 : Int)))), (42, .vw [] (.int .i64 x398))]) (ts := [some (.ptr (.agg [.int .i64 p0.1, .int .i64 p0.2.1, .sh (.ints .i64 p0.2.2)])), some (.rows 1 (List.map (T.ints .i64) v437)), some (.ints .i64 ((List.set x396 (Int.toNat x398) x397)))]) (n := 3) rfl rfl rfl rfl) (gcQ_n (gc_to [0, 1, 2] (e := [(2, .ptr 0 [] (some 0)), (5, .ref 1 [] 1 0 (List.length v437)), (6, .vw [] (.int .i64 ((w64 (x397 + (w64 ((w64 (v438 + (if v436 < v434 then v436 else v434))) + p0.2.1))))))), (7, .ref 2 [] 1 0 (List.length ((List.set x396 (Int.toNat x398) x397)))), (34, .vw [] (.rows 1 (List.map (T.ints .i64) p1))), (35, .vw [] (.int .i64 ((List.length p1 : Int)))), (36, .vw [] (.int .i64 x255)), (40, .vw [] (.ints .i64 v365)), (41, .vw [] (.int .i64 ((List.length v365 : Int)))), (42, .vw [] (.int .i64 x398))]) (ts := [some (.ptr (.agg [.int .i64 p0.1, .int .i64 p0.2.1, .sh (.ints .i64 p0.2.2)])), some (.rows 1 (List.map (T.ints .i64) v437)), some (.ints .i64 ((List.set x396 (Int.toNat x398) x397)))]) (n := 3) rfl rfl rfl rfl) (seqQ_n (?_)))))
            cases h
            exact wp_reg (nx' := 35) rfl (ev_den (.vw _ _) rfl rfl (ev_den (.vw _ _) rfl rfl (ev_nil))) (gcQ_n (gc_to [0, 1, 2] (e := [(2, .ptr 0 [] (some 0)), (5, .ref 1 [] 1 0 (List.length v437)), (6, .vw [] (.int .i64 ((w64 (x397 + (w64 ((w64 (v438 + (if v436 < v434 then v436 else v434))) + p0.2.1))))))), (7, .ref 2 [] 1 0 (List.length ((List.set x396 (Int.toNat x398) x397)))), (34, .vw [] (.rows 1 (List.map (T.ints .i64) p1))), (35, .vw [] (.int .i64 ((List.length p1 : Int)))), (36, .vw [] (.int .i64 x255)), (40, .vw [] (.ints .i64 v365)), (41, .vw [] (.int .i64 ((List.length v365 : Int)))), (42, .vw [] (.int .i64 ((w64 (x398 + (1 : Int))))))]) (ts := [some (.ptr (.agg [.int .i64 p0.1, .int .i64 p0.2.1, .sh (.ints .i64 p0.2.2)])), some (.rows 1 (List.map (T.ints .i64) v437)), some (.ints .i64 ((List.set x396 (Int.toNat x398) x397)))]) (n := 3) rfl rfl rfl rfl) (loopQ_n rfl))
          · refine wp_cf rfl hc423 ?_
            cases h
            exact wp_exit (gcQ_e (seqQ_e (gcQ_e (loopQ_e (And.intro rfl (gc_to [0, 1, 2] (e := [(2, .ptr 0 [] (some 0)), (5, .ref 1 [] 1 0 (List.length x395)), (6, .vw [] (.int .i64 x397)), (7, .ref 2 [] 1 0 (List.length x396)), (34, .vw [] (.rows 1 (List.map (T.ints .i64) p1))), (35, .vw [] (.int .i64 ((List.length p1 : Int)))), (36, .vw [] (.int .i64 x255))]) (ts := [some (.ptr (.agg [.int .i64 p0.1, .int .i64 p0.2.1, .sh (.ints .i64 p0.2.2)])), some (.rows 1 (List.map (T.ints .i64) x395)), some (.ints .i64 x396)]) (n := 3) rfl rfl rfl rfl))))))
        · intro e st446 hg446
          obtain ⟨x409, x410, x411⟩ := w446
          obtain ⟨rfl, hg446⟩ := hg446
          refine blkQ_h (gcQ_n hg446 (blkQ_n (gcQ_n (gc_to [0, 1, 2] (e := [(2, .ptr 0 [] (some 0)), (5, .ref 1 [] 1 0 (List.length x409)), (6, .vw [] (.int .i64 x411)), (7, .ref 2 [] 1 0 (List.length x410)), (34, .vw [] (.rows 1 (List.map (T.ints .i64) p1))), (35, .vw [] (.int .i64 ((List.length p1 : Int)))), (36, .vw [] (.int .i64 x255))]) (ts := [some (.ptr (.agg [.int .i64 p0.1, .int .i64 p0.2.1, .sh (.ints .i64 p0.2.2)])), some (.rows 1 (List.map (T.ints .i64) x409)), some (.ints .i64 x410)]) (n := 3) rfl rfl rfl rfl) (gcQ_n (gc_to [0, 1, 2] (e := [(2, .ptr 0 [] (some 0)), (5, .ref 1 [] 1 0 (List.length x409)), (6, .vw [] (.int .i64 x411)), (7, .ref 2 [] 1 0 (List.length x410)), (34, .vw [] (.rows 1 (List.map (T.ints .i64) p1))), (35, .vw [] (.int .i64 ((List.length p1 : Int)))), (36, .vw [] (.int .i64 x255))]) (ts := [some (.ptr (.agg [.int .i64 p0.1, .int .i64 p0.2.1, .sh (.ints .i64 p0.2.2)])), some (.rows 1 (List.map (T.ints .i64) x409)), some (.ints .i64 x410)]) (n := 3) rfl rfl rfl rfl) (seqQ_n (?_))))))
          cases h
          exact wp_reg (nx' := 35) rfl (ev_den (.vw _ _) rfl rfl (ev_den (.vw _ _) rfl rfl (ev_nil))) (gcQ_n (gc_to [0, 1, 2] (e := [(2, .ptr 0 [] (some 0)), (5, .ref 1 [] 1 0 (List.length x409)), (6, .vw [] (.int .i64 x411)), (7, .ref 2 [] 1 0 (List.length x410)), (34, .vw [] (.rows 1 (List.map (T.ints .i64) p1))), (35, .vw [] (.int .i64 ((List.length p1 : Int)))), (36, .vw [] (.int .i64 ((w64 (x255 + (1 : Int))))))]) (ts := [some (.ptr (.agg [.int .i64 p0.1, .int .i64 p0.2.1, .sh (.ints .i64 p0.2.2)])), some (.rows 1 (List.map (T.ints .i64) x409)), some (.ints .i64 x410)]) (n := 3) rfl rfl rfl rfl) (loopQ_n rfl))
      · refine wp_cf rfl hc316 ?_
        cases h
        exact wp_exit (gcQ_e (seqQ_e (gcQ_e (loopQ_e (And.intro rfl (gc_to [1] (e := [(5, .ref 0 [] 1 0 (List.length x252))]) (ts := [some (.rows 1 (List.map (T.ints .i64) x252))]) (n := 1) rfl rfl rfl rfl))))))
    · intro e st452 hg452
      obtain ⟨rfl, hg452⟩ := hg452
      refine blkQ_h (gcQ_n hg452 (gcQ_n (gc_to [0] (e := [(5, .ref 0 [] 1 0 (List.length x285))]) (ts := [some (.rows 1 (List.map (T.ints .i64) x285))]) (n := 1) rfl rfl rfl rfl) (seqQ_n (?_))))
      refine wp_seq ?_
      refine wp_reg (nx' := 33) rfl (ev_den (.ref 0 _ _ _ _) rfl rfl (ev_den (.ref 0 _ _ _ _) rfl rfl (ev_nil))) (seqQ_n (?_))
      cases h
      exact wp_ret (qf_r ((outs_ok (vs := [(.ref 0 _ _ _ _)]) rfl (absW_cons (retT_ref (abs_ref rfl sub_r)) rfl (absW_nil)) rfl rfl)))
/-- loop.example/g01176/impl.TimedVisits -/
noncomputable def impl_TimedVisits (p0 : Int × Int × (List Int)) (p1 : List (List Int)) : Option (((List (List Int)) × Bool)) :=
(impl_isWished p0 p1).bind fun v6 =>
if (!v6) = true then
some ([], false)
else
(impl_TimedRing_visits p0 p1).bind fun v8 =>
some (v8, true)
theorem impl_TimedVisits_ok {p0 : Int × Int × (List Int)} {p1 : List (List Int)} {o : ((List (List Int)) × Bool)} (h : impl_TimedVisits p0 p1 = some o) : RN 40 [.agg [.int .i64 p0.1, .int .i64 p0.2.1, .ints .i64 p0.2.2], .rows 1 (List.map (T.ints .i64) p1)] [] = some (.tup [.rows 1 (List.map (T.ints .i64) o.1), .bool o.2], []) := by
  refine fn_run (o := o) (nr := 0) (F := k40) (st := ⟨entry 0 [.agg [.vw [] (.int .i64 p0.1), .vw [] (.int .i64 p0.2.1), .vw [] (.ints .i64 p0.2.2)], .vw [] (.rows 1 (List.map (T.ints .i64) p1))], fun n => ([] : List T)[n]?, 0⟩) (fun (o : ((List (List Int)) × Bool)) => (.tup [.rows 1 (List.map (T.ints .i64) o.1), .bool o.2], [])) rfl fns_40 rfl rfl ?_
  refine wp_seq ?_
  refine wp_reg (nx' := 48) rfl (ev_wr rfl (w_box (sv := (.agg [(.vw _ _), (.vw _ _), (.vw _ _)])) rfl rfl (absW_cons rfl rfl (absW_cons rfl rfl (absW_cons rfl rfl (absW_nil))))) (ev_new (.ref 16 [] 1 0 0) (.rows 1 []) rfl rfl (ev_den (.vw _ _) rfl rfl (ev_nil)))) (seqQ_n (?_))
  refine wp_seq ?_
  refine wp_gc ?_
  refine wp_seq ?_
  obtain ⟨v6, hv6, h⟩ := bs h
  refine wp_reg (nx' := 112) rfl (ev_den (.agg [(.vw _ _), (.vw _ _), (.vw _ _)]) rfl (d_ld_os rfl (rget_of rfl (get_nil)) rfl (cells_cons rfl (cells_cons rfl (cells_cons rfl (cells_nil))))) (ev_den (.vw _ _) rfl rfl (ev_call0 [(.agg [(.vw _ _), (.vw _ _), (.vw _ _)]), (.vw _ _)] rfl (call_ok (rs := []) (rd := []) rfl rfl rfl rfl (argL_cons (argT_a (argL_cons rfl (argL_cons rfl (argL_cons rfl (argL_nil))))) (argL_cons rfl (argL_nil))) rfl rfl (impl_isWished_ok hv6) rfl rfl rfl rfl rfl) (ev_den (.vw _ _) rfl rfl (ev_nil))))) (seqQ_n (?_))
  rcases its h with ⟨hc7, h⟩ | ⟨hc7, h⟩
  · refine wp_ct rfl hc7 ?_
    refine wp_seq ?_
    refine wp_reg (nx' := 144) rfl (ev_new (.ref 112 [] 1 0 0) (.rows 1 []) rfl rfl (ev_den (.vw _ _) rfl rfl (ev_nil))) (seqQ_n (?_))
    cases h
    exact wp_ret (gcQ_r (seqQ_r (qf_r ((outs_ok (vs := [(.ref 112 _ _ _ _), (.vw _ _)]) rfl (absW_cons (retT_ref (abs_ref rfl sub_r)) rfl (absW_cons rfl rfl (absW_nil))) rfl rfl)))))
  · refine wp_cf rfl hc7 ?_
    refine wp_skip (gcQ_n (gc_to [0] (e := [(1, .vw [] (.rows 1 (List.map (T.ints .i64) p1))), (2, .ptr 0 [] (some 0))]) (ts := [some (.ptr (.agg [.int .i64 p0.1, .int .i64 p0.2.1, .sh (.ints .i64 p0.2.2)]))]) (n := 1) rfl rfl rfl rfl) (seqQ_n (?_)))
    refine wp_seq ?_
    obtain ⟨v8, hv8, h⟩ := bs h
    refine wp_reg (nx' := 81) rfl (ev_den (.agg [(.vw _ _), (.vw _ _), (.vw _ _)]) rfl (d_ld_os rfl (rget_of rfl (get_nil)) rfl (cells_cons rfl (cells_cons rfl (cells_cons rfl (cells_nil))))) (ev_den (.vw _ _) rfl rfl (ev_call0 [(.agg [(.vw _ _), (.vw _ _), (.vw _ _)]), (.vw _ _)] rfl (call_ok (rs := []) (rd := []) rfl rfl rfl rfl (argL_cons (argT_a (argL_cons rfl (argL_cons rfl (argL_cons rfl (argL_nil))))) (argL_cons rfl (argL_nil))) rfl rfl (impl_TimedRing_visits_ok hv8) rfl rfl rfl bindR_r rfl) (ev_den (.ref 33 _ _ _ _) rfl rfl (ev_den (.vw _ _) rfl rfl (ev_nil)))))) (seqQ_n (?_))
    cases h
    exact wp_ret (qf_r ((outs_ok (vs := [(.ref 33 _ _ _ _), (.vw _ _)]) rfl (absW_cons (retT_ref (abs_ref rfl sub_r)) rfl (absW_cons rfl rfl (absW_nil))) rfl rfl)))
/-- loop.example/g01176/spec.l1In -/
noncomputable def spec_l1In (p0 : Int) (p1 : Int) (p2 : Int) : Option Bool :=
if (decide (p0 ≥ p1)) = true then
some (decide (p0 ≤ p2))
else
some false
theorem spec_l1In_ok {p0 : Int} {p1 : Int} {p2 : Int} {o : Bool} (h : spec_l1In p0 p1 p2 = some o) : RN 73 [.int .i64 p0, .int .i64 p1, .int .i64 p2] [] = some (.bool o, []) := by
  refine fn_run (o := o) (nr := 0) (F := k73) (st := ⟨entry 0 [.vw [] (.int .i64 p0), .vw [] (.int .i64 p1), .vw [] (.int .i64 p2)], fun n => ([] : List T)[n]?, 0⟩) (fun (o : Bool) => (.bool o, [])) rfl fns_73 rfl rfl ?_
  refine wp_seq ?_
  refine wp_reg (nx' := 16) rfl (ev_den (.vw _ _) rfl rfl (ev_nil)) (seqQ_n (?_))
  refine wp_seq ?_
  refine wp_gc ?_
  rcases its h with ⟨hc3, h⟩ | ⟨hc3, h⟩
  · refine wp_reg (nx' := 160) rfl (ev_den (.vw _ _) rfl rfl (ev_den (.vw _ _) rfl rfl (ev_den (.vw _ _) rfl rfl (ev_den (.vw _ _) rfl rfl (ev_on rfl hc3 (ev_den (.vw _ _) rfl rfl (ev_on rfl hc3 (ev_den (.vw _ _) rfl rfl (ev_on rfl hc3 (ev_den (.vw _ _) rfl rfl (ev_den (.vw _ _) rfl (d_pick_t rfl hc3 rfl) (ev_den (.vw _ _) rfl rfl (ev_nil))))))))))))) (gcQ_n (gc_to [] (e := [(6, .vw [] (.bool ((decide (p0 ≤ p2)))))]) (ts := []) (n := 0) rfl rfl rfl rfl) (seqQ_n (?_)))
    cases h
    exact wp_ret (qf_r ((outs_ok (vs := [(.vw _ _)]) rfl (absW_cons rfl rfl (absW_nil)) rfl rfl)))
  · refine wp_reg (nx' := 160) rfl (ev_den (.vw _ _) rfl rfl (ev_den (.vw _ _) rfl rfl (ev_den (.vw _ _) rfl rfl (ev_den (.vw _ _) rfl rfl (ev_off rfl hc3 (ev_off rfl hc3 (ev_off rfl hc3 (ev_den (.vw _ _) rfl (d_pick_f rfl hc3 rfl) (ev_den (.vw _ _) rfl rfl (ev_nil)))))))))) (gcQ_n (gc_to [] (e := [(6, .vw [] (.bool false))]) (ts := []) (n := 0) rfl rfl rfl rfl) (seqQ_n (?_)))
    cases h
    exact wp_ret (qf_r ((outs_ok (vs := [(.vw _ _)]) rfl (absW_cons rfl rfl (absW_nil)) rfl rfl)))
noncomputable def spec_l1All_s1 (p0 : List Int) (p1 : Int) (p2 : Int) : Int → Option (Int ⊕ (Unit ⊕ Bool)) := fun x35 =>
if (decide (x35 < (List.length p0 : Int))) = true then
(at? p0 x35).bind fun v54 =>
(spec_l1In v54 p1 p2).bind fun v55 =>
if (!v55) = true then
some (.inr (.inr false))
else
some (.inl ((w64 (x35 + (1 : Int)))))
else
some (.inr (.inl ()))
noncomputable def spec_l1All_l1 (p0 : List Int) (p1 : Int) (p2 : Int) : Int → Option (Unit ⊕ Bool) := iter (spec_l1All_s1 p0 p1 p2)
/-- loop.example/g01176/spec.l1All -/
noncomputable def spec_l1All (p0 : List Int) (p1 : Int) (p2 : Int) : Option Bool :=
(spec_l1All_l1 p0 p1 p2 (0 : Int)).bind fun w => match w with
| .inl _ =>
some true
| .inr r59 =>
some r59
theorem spec_l1All_ok {p0 : List Int} {p1 : Int} {p2 : Int} {o : Bool} (h : spec_l1All p0 p1 p2 = some o) : RN 107 [.ints .i64 p0, .int .i64 p1, .int .i64 p2] [] = some (.bool o, []) := by
  refine fn_run (o := o) (nr := 0) (F := k107) (st := ⟨entry 0 [.vw [] (.ints .i64 p0), .vw [] (.int .i64 p1), .vw [] (.int .i64 p2)], fun n => ([] : List T)[n]?, 0⟩) (fun (o : Bool) => (.bool o, [])) rfl fns_107 rfl rfl ?_
  refine wp_seq ?_
  refine wp_reg (nx' := 16) rfl (ev_den (.vw _ _) rfl rfl (ev_nil)) (seqQ_n (?_))
  refine wp_seq ?_
  refine wp_gc ?_
  refine wp_seq ?_
  refine wp_gc ?_
  refine wp_reg (nx' := 64) rfl (ev_den (.vw _ _) rfl rfl (ev_den (.vw _ _) rfl rfl (ev_den (.vw _ _) rfl rfl (ev_nil)))) (gcQ_n (gc_to [] (e := [(1, .vw [] (.int .i64 p1)), (2, .vw [] (.int .i64 p2)), (9, .vw [] (.ints .i64 p0)), (10, .vw [] (.int .i64 ((List.length p0 : Int)))), (11, .vw [] (.int .i64 ((0 : Int))))]) (ts := []) (n := 0) rfl rfl rfl rfl) (seqQ_n (?_)))
  refine wp_gc ?_
  refine wp_blk ?_
  obtain ⟨w58, hw58, h⟩ := bs h
  refine wp_mono (wp_loop (fun (x35 : Int) => (⟨al .dead [(1, .vw [] (.int .i64 p1)), (2, .vw [] (.int .i64 p2)), (9, .vw [] (.ints .i64 p0)), (10, .vw [] (.int .i64 ((List.length p0 : Int)))), (11, .vw [] (.int .i64 x35))], hl [], 0⟩ : St)) (fun (v : Unit ⊕ Bool) e st => match v with | .inl _ => e = .exit 0 ∧ gc 0 [] st = ⟨al .dead [], hl [], 0⟩ | .inr rr => e = .ret ∧ outs 0 k107 st = some (.bool rr, [])) hw58 ?_) ?_
  · rintro x35 o h
    refine wp_gc ?_
    refine wp_seq ?_
    refine wp_reg (nx' := 16) rfl (ev_den (.vw _ _) rfl rfl (ev_nil)) (seqQ_n (?_))
    refine wp_seq ?_
    refine wp_gc ?_
    rcases its h with ⟨hc47, h⟩ | ⟨hc47, h⟩
    · refine wp_ct rfl hc47 ?_
      refine wp_skip (gcQ_n (gc_to [] (e := [(1, .vw [] (.int .i64 p1)), (2, .vw [] (.int .i64 p2)), (9, .vw [] (.ints .i64 p0)), (10, .vw [] (.int .i64 ((List.length p0 : Int)))), (11, .vw [] (.int .i64 x35))]) (ts := []) (n := 0) rfl rfl rfl rfl) (seqQ_n (?_)))
      refine wp_seq ?_
      refine wp_gc ?_
      refine wp_gc ?_
      refine wp_blk ?_
      refine wp_seq ?_
      obtain ⟨v54, hv54, h⟩ := bs h
      refine wp_reg (nx' := 48) rfl (ev_den (.pv _ _) rfl (d_idx_vi rfl rfl hv54) (ev_den (.vw _ _) rfl rfl (ev_den (.vw _ _) rfl rfl (ev_nil)))) (seqQ_n (?_))
      refine wp_seq ?_
      obtain ⟨v55, hv55, h⟩ := bs h
      refine wp_reg (nx' := 128) rfl (ev_den (.vw _ _) rfl rfl (ev_den (.vw _ _) rfl rfl (ev_den (.vw _ _) rfl rfl (ev_call0 [(.vw _ _), (.vw _ _), (.vw _ _)] rfl (call_ok (rs := []) (rd := []) rfl rfl rfl rfl (argL_cons rfl (argL_cons rfl (argL_cons rfl (argL_nil)))) rfl rfl (spec_l1In_ok hv55) rfl rfl rfl rfl rfl) (ev_den (.vw _ _) rfl rfl (ev_nil)))))) (seqQ_n (?_))
      rcases its h with ⟨hc56, h⟩ | ⟨hc56, h⟩
      · refine wp_ct rfl hc56 ?_
        refine wp_seq ?_
        refine wp_reg (nx' := 144) rfl (ev_den (.vw _ _) rfl rfl (ev_nil)) (seqQ_n (?_))
        cases h
        exact wp_ret (blkQ_r (gcQ_r (gcQ_r (seqQ_r (gcQ_r (loopQ_r (And.intro rfl (outs_ok (vs := [(.vw _ _)]) rfl (absW_cons rfl rfl (absW_nil)) rfl rfl))))))))
      · refine wp_cf rfl hc56 ?_
        refine wp_skip (blkQ_n (gcQ_n (gc_to [] (e := [(1, .vw [] (.int .i64 p1)), (2, .vw [] (.int .i64 p2)), (9, .vw [] (.ints .i64 p0)), (10, .vw [] (.int .i64 ((List.length p0 : Int)))), (11, .vw [] (.int .i64 x35))]) (ts := []) (n := 0) rfl rfl rfl rfl) (gcQ_n (gc_to [] (e := [(1, .vw [] (.int .i64 p1)), (2, .vw [] (.int .i64 p2)), (9, .vw [] (.ints .i64 p0)), (10, .vw [] (.int .i64 ((List.length p0 : Int)))), (11, .vw [] (.int .i64 x35))]) (ts := []) (n := 0) rfl rfl rfl rfl) (seqQ_n (?_)))))
        cases h
        exact wp_reg (nx' := 32) rfl (ev_den (.vw _ _) rfl rfl (ev_den (.vw _ _) rfl rfl (ev_nil))) (gcQ_n (gc_to [] (e := [(1, .vw [] (.int .i64 p1)), (2, .vw [] (.int .i64 p2)), (9, .vw [] (.ints .i64 p0)), (10, .vw [] (.int .i64 ((List.length p0 : Int)))), (11, .vw [] (.int .i64 ((w64 (x35 + (1 : Int))))))]) (ts := []) (n := 0) rfl rfl rfl rfl) (loopQ_n rfl))
    · refine wp_cf rfl hc47 ?_
      cases h
      exact wp_exit (gcQ_e (seqQ_e (gcQ_e (loopQ_e (And.intro rfl (gc_to [] (e := []) (ts := []) (n := 0) rfl rfl rfl rfl))))))
  · intro e st58 hg58
    rcases w58 with _ | r59
    · obtain ⟨rfl, hg58⟩ := hg58
      refine blkQ_h (gcQ_n hg58 (gcQ_n (gc_to [] (e := []) (ts := []) (n := 0) rfl rfl rfl rfl) (seqQ_n (?_))))
      refine wp_seq ?_
      refine wp_reg (nx' := 16) rfl (ev_den (.vw _ _) rfl rfl (ev_nil)) (seqQ_n (?_))
      cases h
      exact wp_ret (qf_r ((outs_ok (vs := [(.vw _ _)]) rfl (absW_cons rfl rfl (absW_nil)) rfl rfl)))
    · obtain ⟨rfl, hg58⟩ := hg58
      cases h
      exact blkQ_r (gcQ_r (gcQ_r (seqQ_r (qf_r (hg58)))))
end Go.Proofs.Ytoeddkfbhjmbmaa.Ev.Q2
