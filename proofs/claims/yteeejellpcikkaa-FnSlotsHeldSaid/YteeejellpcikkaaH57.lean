/- What functions of the program come to, as plain functions; no condition. -/
import Derived.Test.YteeejellpcikkaaH56
set_option linter.unusedVariables false
set_option linter.unusedSimpArgs false
set_option maxRecDepth 100000
set_option maxHeartbeats 4000000
set_option linter.unusedVariables false
namespace Go.Proofs.Yteeejellpcikkaa.Ev.H5
open Go
noncomputable def spec_TurnMessages_s2 (p0 : Int × Bool) (p1 : List (Int × Int × Int)) (p2 : Int) : ((List (Int × Int × Int)) × Int) → Option (((List (Int × Int × Int)) × Int) ⊕ ((List (Int × Int × Int)))) := fun (x59, x60) =>
if (decide (x60 < (List.length p1 : Int))) = true then
(at? p1 x60).bind fun v82 =>
(nz? p0.1).bind fun u83 =>
(app? x59 (([(v82.1, (Int.tmod (w64 (v82.2.1 + p2)) p0.1), (Int.tmod (w64 (v82.2.2 + p2)) p0.1))] : List (Int × Int × Int)))).bind fun v84 =>
some (.inl (v84, (w64 (x60 + (1 : Int)))))
else
some (.inr x59)
noncomputable def spec_TurnMessages_l2 (p0 : Int × Bool) (p1 : List (Int × Int × Int)) (p2 : Int) : ((List (Int × Int × Int)) × Int) → Option ((List (Int × Int × Int))) := iter (spec_TurnMessages_s2 p0 p1 p2)
noncomputable def spec_TurnMessages_j1 (p0 : Int × Bool) (p1 : List (Int × Int × Int)) (p2 : Int) : Bool → Option (((List (Int × Int × Int)) × Bool)) := fun x27 =>
if x27 = true then
some ([], false)
else
(spec_TurnMessages_l2 p0 p1 p2 ([], (0 : Int))).bind fun x67 =>
some (x67, true)
/-- loop.example/g01176/spec.TurnMessages -/
noncomputable def spec_TurnMessages (p0 : Int × Bool) (p1 : List (Int × Int × Int)) (p2 : Int) : Option (((List (Int × Int × Int)) × Bool)) :=
(spec_slAll p0 p1).bind fun v89 =>
if (!v89) = true then
spec_TurnMessages_j1 p0 p1 p2 true
else
(spec_l1In p2 ((0 : Int)) ((w64 (p0.1 - (1 : Int))))).bind fun v92 =>
spec_TurnMessages_j1 p0 p1 p2 (!v92)
theorem spec_TurnMessages_ok {p0 : Int × Bool} {p1 : List (Int × Int × Int)} {p2 : Int} {o : ((List (Int × Int × Int)) × Bool)} (h : spec_TurnMessages p0 p1 p2 = some o) : RN 20 [.agg [.int .i64 p0.1, .bool p0.2], .rows 3 (List.map e0 p1), .int .i64 p2] [] = some (.tup [.rows 3 (List.map e0 o.1), .bool o.2], []) := by
 refine fn_run (o := o) (nr := 0) (F := k20) (st := ⟨entry 0 [.agg [.vw [] (.int .i64 p0.1), .vw [] (.bool p0.2)], .vw [] (.rows 3 (List.map e0 p1)), .vw [] (.int .i64 p2)], fun n => ([] : List T)[n]?, 0⟩) (fun (o : ((List (Int × Int × Int)) × Bool)) => (.tup [.rows 3 (List.map e0 o.1), .bool o.2], [])) rfl fns_20 rfl rfl rfl ?_
 refine wp_seq ?_
 refine wp_reg (nx' := 48) rfl (ev_wr rfl (w_box (sv := (.agg [(.vw _ _), (.vw _ _)])) rfl rfl (absW_cons rfl rfl (absW_cons rfl rfl (absW_nil)))) (ev_new (.ref 16 [] 3 0 0) (.rows 3 []) rfl rfl (ev_v rfl rfl (ev_nil)))) (seqQ_n (?_))
 refine wp_seq ?_
 refine wp_gc ?_
 refine wp_seq ?_
 refine wp_join (spec_TurnMessages_j1 p0 p1 p2) (fun (x27 : Bool) => (⟨al .dead [(1, .vw [] (.rows 3 (List.map e0 p1))), (2, .vw [] (.int .i64 p2)), (3, .ptr 0 [] (some 0)), (22, .vw [] (.bool x27))], hl [some (.ptr (.agg [.int .i64 p0.1, .bool p0.2]))], 1⟩ : St)) ?_ ?_
 ·rintro x27 o h
  unfold spec_TurnMessages_j1 at h
  refine seqQ_n (?_)
  rcases its h with ⟨hc28, h⟩ | ⟨hc28, h⟩
  ·refine wp_ct rfl hc28 ?_
   refine wp_seq ?_
   refine wp_reg (nx' := 33) rfl (ev_new (.ref 1 [] 3 0 0) (.rows 3 []) rfl rfl (ev_v rfl rfl (ev_nil))) (seqQ_n (?_))
   replace h := Option.some.inj h
   subst h
   exact wp_ret (gcQ_r (seqQ_r (qf_r ((outs_ok (vs := [(.ref 1 _ _ _ _), (.vw _ _)]) rfl (absW_cons (retT_ref (abs_ref rfl sub_r)) rfl (absW_cons rfl rfl (absW_nil))) rfl rfl)))))
  ·refine wp_cf rfl hc28 ?_
   refine wp_skip (gcQ_n (gc_to [0] (e := [(1, .vw [] (.rows 3 (List.map e0 p1))), (2, .vw [] (.int .i64 p2)), (3, .ptr 0 [] (some 0))]) (ts := [some (.ptr (.agg [.int .i64 p0.1, .bool p0.2]))]) (n := 1) rfl rfl rfl rfl) (seqQ_n (?_)))
   refine wp_seq ?_
   refine wp_reg (nx' := 17) rfl (ev_new (.ref 1 [] 3 0 0) (.rows 3 []) rfl rfl (ev_nil)) (seqQ_n (?_))
   refine wp_seq ?_
   refine wp_gc ?_
   refine wp_seq ?_
   refine wp_gc ?_
   refine wp_reg (nx' := 65) rfl (ev_v rfl rfl (ev_v rfl (d_len_vr (e := e0) rfl) (ev_v rfl rfl (ev_nil)))) (gcQ_n (gc_to [0, 1] (e := [(2, .vw [] (.int .i64 p2)), (3, .ptr 0 [] (some 0)), (8, .ref 1 [] 3 0 0), (23, .vw [] (.rows 3 (List.map e0 p1))), (24, .vw [] (.int .i64 ((List.length p1 : Int)))), (25, .vw [] (.int .i64 ((0 : Int))))]) (ts := [some (.ptr (.agg [.int .i64 p0.1, .bool p0.2])), some (.rows 3 (List.map e0 ([])))]) (n := 2) rfl rfl rfl rfl) (seqQ_n (?_)))
   refine wp_gc ?_
   refine wp_blk ?_
   obtain ⟨x67, hw88, h⟩ := bs h
   refine wp_mono (wp_loop (fun ((x59, x60) : (List (Int × Int × Int)) × Int) => (⟨al .dead [(2, .vw [] (.int .i64 p2)), (3, .ptr 0 [] (some 0)), (8, .ref 1 [] 3 0 (List.length x59)), (23, .vw [] (.rows 3 (List.map e0 p1))), (24, .vw [] (.int .i64 ((List.length p1 : Int)))), (25, .vw [] (.int .i64 x60))], hl [some (.ptr (.agg [.int .i64 p0.1, .bool p0.2])), some (.rows 3 (List.map e0 x59))], 2⟩ : St)) (fun (x67 : (List (Int × Int × Int))) e st => e = .exit 0 ∧ gc 0 [8] st = ⟨al .dead [(8, .ref 0 [] 3 0 (List.length x67))], hl [some (.rows 3 (List.map e0 x67))], 1⟩) hw88 ?_) ?_
   ·rintro ⟨x59, x60⟩ o h
    refine wp_gc ?_
    refine wp_seq ?_
    refine wp_reg (nx' := 18) rfl (ev_v rfl rfl (ev_nil)) (seqQ_n (?_))
    refine wp_seq ?_
    refine wp_gc ?_
    rcases its h with ⟨hc75, h⟩ | ⟨hc75, h⟩
    ·refine wp_ct rfl hc75 ?_
     refine wp_skip (gcQ_n (gc_to [0, 1] (e := [(2, .vw [] (.int .i64 p2)), (3, .ptr 0 [] (some 0)), (8, .ref 1 [] 3 0 (List.length x59)), (23, .vw [] (.rows 3 (List.map e0 p1))), (24, .vw [] (.int .i64 ((List.length p1 : Int)))), (25, .vw [] (.int .i64 x60))]) (ts := [some (.ptr (.agg [.int .i64 p0.1, .bool p0.2])), some (.rows 3 (List.map e0 x59))]) (n := 2) rfl rfl rfl rfl) (seqQ_n (?_)))
     refine wp_seq ?_
     refine wp_gc ?_
     refine wp_gc ?_
     refine wp_blk ?_
     refine wp_seq ?_
     obtain ⟨v82, hv82, h⟩ := bs h
     refine wp_reg (nx' := 66) rfl (ev_den (.pv _ _) rfl (d_idx_vr e0 rfl rfl hv82) (ev_den (.agg [(.vw _ _), (.vw _ _), (.vw _ _)]) rfl rfl (ev_new (.ptr 34 [] (some 0)) (.ptr (.agg [.int .i64 ((0 : Int)), .int .i64 ((0 : Int)), .int .i64 ((0 : Int))])) rfl rfl (ev_wr0 rfl (w_st_a rfl rfl rfl (stL_cons (st1_of rfl rfl rfl (get_f rfl (get_nil)) rfl (rput_p (put_f rfl (put_nil)))) rfl (stL_cons (st1_of rfl rfl rfl (get_f rfl (get_nil)) rfl (rput_p (put_f rfl (put_nil)))) rfl (stL_cons (st1_of rfl rfl rfl (get_f rfl (get_nil)) rfl (rput_p (put_f rfl (put_nil)))) rfl (stL_nil))))) (ev_nil))))) (seqQ_n (?_))
     obtain ⟨u83, hu83, h⟩ := bs h
     obtain ⟨v84, hv84, h⟩ := bs h
     refine wp_reg (nx' := 402) rfl (ev_den (.ref 1 _ _ _ _) rfl rfl (ev_den (.ptr 34 [] (some 0)) rfl rfl (ev_v rfl (d_ld_o rfl (rget_of rfl (get_nil)) rfl rfl) (ev_den (.ptr 34 [] (some 1)) rfl rfl (ev_v rfl (d_ld_o rfl (rget_of rfl (get_nil)) rfl rfl) (ev_v rfl rfl (ev_v rfl rfl (ev_den (.ptr 0 [] (some 0)) rfl rfl (ev_v rfl (d_ld_o rfl (rget_of rfl (get_nil)) rfl rfl) (ev_v rfl (d_rem rfl rfl hu83) (ev_den (.ptr 34 [] (some 2)) rfl rfl (ev_v rfl (d_ld_o rfl (rget_of rfl (get_nil)) rfl rfl) (ev_v rfl rfl (ev_v rfl rfl (ev_den (.ptr 0 [] (some 0)) rfl rfl (ev_v rfl (d_ld_o rfl (rget_of rfl (get_nil)) rfl rfl) (ev_v rfl (d_rem rfl rfl hu83) (ev_den (.agg [(.vw _ _), (.vw _ _), (.vw _ _)]) rfl rfl (ev_new (.ref 354 [] 3 0 1) (.rows 3 (List.map e0 (([(v82.1, (Int.tmod (w64 (v82.2.1 + p2)) p0.1), (Int.tmod (w64 (v82.2.2 + p2)) p0.1))] : List (Int × Int × Int))))) rfl rfl (ev_wr rfl (w_app_r (xs := x59) (ys := (([(v82.1, (Int.tmod (w64 (v82.2.1 + p2)) p0.1), (Int.tmod (w64 (v82.2.2 + p2)) p0.1))] : List (Int × Int × Int)))) (e := e0) (xv := (.ref 1 _ _ _ _)) (yv := (.ref 354 _ _ _ _)) 1 rfl rfl rfl (abs_ref rfl (sub_r (xs := ([(v82.1, (Int.tmod (w64 (v82.2.1 + p2)) p0.1), (Int.tmod (w64 (v82.2.2 + p2)) p0.1))] : List (Int × Int × Int))))) rfl (abs_ref rfl sub_r) hv84 rfl) (ev_den (.ref 1 _ _ _ _) rfl rfl (ev_nil)))))))))))))))))))))) (blkQ_n (gcQ_n (gc_to [0, 1] (e := [(2, .vw [] (.int .i64 p2)), (3, .ptr 0 [] (some 0)), (8, .ref 1 [] 3 0 (List.length v84)), (23, .vw [] (.rows 3 (List.map e0 p1))), (24, .vw [] (.int .i64 ((List.length p1 : Int)))), (25, .vw [] (.int .i64 x60))]) (ts := [some (.ptr (.agg [.int .i64 p0.1, .bool p0.2])), some (.rows 3 (List.map e0 v84))]) (n := 2) rfl rfl rfl rfl) (gcQ_n (gc_to [0, 1] (e := [(2, .vw [] (.int .i64 p2)), (3, .ptr 0 [] (some 0)), (8, .ref 1 [] 3 0 (List.length v84)), (23, .vw [] (.rows 3 (List.map e0 p1))), (24, .vw [] (.int .i64 ((List.length p1 : Int)))), (25, .vw [] (.int .i64 x60))]) (ts := [some (.ptr (.agg [.int .i64 p0.1, .bool p0.2])), some (.rows 3 (List.map e0 v84))]) (n := 2) rfl rfl rfl rfl) (seqQ_n (?_)))))
     replace h := Option.some.inj h
     subst h
     exact wp_reg (nx' := 34) rfl (ev_v rfl rfl (ev_v rfl rfl (ev_nil))) (gcQ_n (gc_to [0, 1] (e := [(2, .vw [] (.int .i64 p2)), (3, .ptr 0 [] (some 0)), (8, .ref 1 [] 3 0 (List.length v84)), (23, .vw [] (.rows 3 (List.map e0 p1))), (24, .vw [] (.int .i64 ((List.length p1 : Int)))), (25, .vw [] (.int .i64 ((w64 (x60 + (1 : Int))))))]) (ts := [some (.ptr (.agg [.int .i64 p0.1, .bool p0.2])), some (.rows 3 (List.map e0 v84))]) (n := 2) rfl rfl rfl rfl) (loopQ_n rfl))
    ·refine wp_cf rfl hc75 ?_
     replace h := Option.some.inj h
     subst h
     exact wp_exit (gcQ_e (seqQ_e (gcQ_e (loopQ_e (And.intro rfl (gc_to [1] (e := [(8, .ref 0 [] 3 0 (List.length x59))]) (ts := [some (.rows 3 (List.map e0 x59))]) (n := 1) rfl rfl rfl rfl))))))
   ·intro e st88 hg88
    obtain ⟨rfl, hg88⟩ := hg88
    refine blkQ_h (gcQ_n hg88 (gcQ_n (gc_to [0] (e := [(8, .ref 0 [] 3 0 (List.length x67))]) (ts := [some (.rows 3 (List.map e0 x67))]) (n := 1) rfl rfl rfl rfl) (seqQ_n (?_))))
    refine wp_seq ?_
    refine wp_reg (nx' := 49) rfl (ev_den (.ref 0 _ _ _ _) rfl rfl (ev_den (.ref 0 _ _ _ _) rfl rfl (ev_v rfl rfl (ev_nil)))) (seqQ_n (?_))
    replace h := Option.some.inj h
    subst h
    exact wp_ret (qf_r ((outs_ok (vs := [(.ref 0 _ _ _ _), (.vw _ _)]) rfl (absW_cons (retT_ref (abs_ref rfl sub_r)) rfl (absW_cons rfl rfl (absW_nil))) rfl rfl)))
 ·obtain ⟨v89, hv89, h⟩ := bs h
  rcases its h with ⟨hc90, h⟩ | ⟨hc90, h⟩
  ·exact wp_reg (nx' := 240) rfl (ev_den (.agg [(.vw _ _), (.vw _ _)]) rfl (d_ld_os rfl (rget_of rfl (get_nil)) rfl (cells_cons rfl (cells_cons rfl (cells_nil)))) (ev_v rfl rfl (ev_call0 [(.agg [(.vw _ _), (.vw _ _)]), (.vw _ _)] rfl (call_ok (rs := []) (rd := []) rfl rfl rfl rfl (argL_cons (argT_a (argL_cons rfl (argL_cons rfl (argL_nil)))) (argL_cons rfl (argL_nil))) rfl rfl (spec_slAll_ok hv89) rfl rfl rfl rfl rfl) (ev_v rfl rfl (ev_v rfl rfl (ev_off rfl hc90 (ev_off rfl hc90 (ev_off rfl hc90 (ev_off rfl hc90 (ev_off rfl hc90 (ev_off rfl hc90 (ev_v rfl (d_pick_t rfl hc90 rfl) (ev_nil))))))))))))) (joinQ_n true h (gc_to [0] rfl rfl rfl rfl))
  ·obtain ⟨v92, hv92, h⟩ := bs h
   exact wp_reg (nx' := 240) rfl (ev_den (.agg [(.vw _ _), (.vw _ _)]) rfl (d_ld_os rfl (rget_of rfl (get_nil)) rfl (cells_cons rfl (cells_cons rfl (cells_nil)))) (ev_v rfl rfl (ev_call0 [(.agg [(.vw _ _), (.vw _ _)]), (.vw _ _)] rfl (call_ok (rs := []) (rd := []) rfl rfl rfl rfl (argL_cons (argT_a (argL_cons rfl (argL_cons rfl (argL_nil)))) (argL_cons rfl (argL_nil))) rfl rfl (spec_slAll_ok hv89) rfl rfl rfl rfl rfl) (ev_v rfl rfl (ev_v rfl rfl (ev_on rfl hc90 (ev_v rfl rfl (ev_on rfl hc90 (ev_den (.ptr 0 [] (some 0)) rfl rfl (ev_on rfl hc90 (ev_v rfl (d_ld_o rfl (rget_of rfl (get_nil)) rfl rfl) (ev_on rfl hc90 (ev_v rfl rfl (ev_on rfl hc90 (ev_call0 [(.vw _ _), (.vw _ _), (.vw _ _)] rfl (call_ok (rs := []) (rd := []) rfl rfl rfl rfl (argL_cons rfl (argL_cons rfl (argL_cons rfl (argL_nil)))) rfl rfl (spec_l1In_ok hv92) rfl rfl rfl rfl rfl) (ev_on rfl hc90 (ev_v rfl rfl (ev_v rfl (d_pick_f rfl hc90 rfl) (ev_nil))))))))))))))))))) (joinQ_n (!v92) h (gc_to [0] rfl rfl rfl rfl))
noncomputable def laws_kMessages_s1 (p0 : List (Int × Int × Int)) (p1 : List (Int × Int × Int)) : Int → Option (Int ⊕ (Unit ⊕ Bool)) := fun x38 =>
if (decide (x38 < (List.length p0 : Int))) = true then
(at? p0 x38).bind fun v57 =>
(at? p1 x38).bind fun v58 =>
if (!((v57.1 == v58.1) && ((v57.2.1 == v58.2.1) && ((v57.2.2 == v58.2.2) && true)))) = true then
some (.inr (.inr false))
else
some (.inl ((w64 (x38 + (1 : Int)))))
else
some (.inr (.inl ()))
noncomputable def laws_kMessages_l1 (p0 : List (Int × Int × Int)) (p1 : List (Int × Int × Int)) : Int → Option (Unit ⊕ Bool) := iter (laws_kMessages_s1 p0 p1)
/-- loop.example/g01176/laws.kMessages -/
noncomputable def laws_kMessages (p0 : List (Int × Int × Int)) (p1 : List (Int × Int × Int)) : Option Bool :=
if ((List.length p0 : Int) != (List.length p1 : Int)) = true then
some false
else
(laws_kMessages_l1 p0 p1 (0 : Int)).bind fun w => match w with
| .inl _ =>
some true
| .inr r62 =>
some r62
theorem laws_kMessages_ok {p0 : List (Int × Int × Int)} {p1 : List (Int × Int × Int)} {o : Bool} (h : laws_kMessages p0 p1 = some o) : RN 21 [.rows 3 (List.map e0 p0), .rows 3 (List.map e0 p1)] [] = some (.bool o, []) := by
 refine fn_run (o := o) (nr := 0) (F := k21) (st := ⟨entry 0 [.vw [] (.rows 3 (List.map e0 p0)), .vw [] (.rows 3 (List.map e0 p1))], fun n => ([] : List T)[n]?, 0⟩) (fun (o : Bool) => (.bool o, [])) rfl fns_21 rfl rfl rfl ?_
 refine wp_seq ?_
 refine wp_reg (nx' := 16) rfl (ev_v rfl rfl (ev_nil)) (seqQ_n (?_))
 refine wp_seq ?_
 refine wp_gc ?_
 refine wp_seq ?_
 refine wp_reg (nx' := 96) rfl (ev_v rfl rfl (ev_v rfl (d_len_vr (e := e0) rfl) (ev_v rfl rfl (ev_v rfl (d_len_vr (e := e0) rfl) (ev_v rfl rfl (ev_nil)))))) (seqQ_n (?_))
 rcases its h with ⟨hc13, h⟩ | ⟨hc13, h⟩
 ·refine wp_ct rfl hc13 ?_
  refine wp_seq ?_
  refine wp_reg (nx' := 112) rfl (ev_v rfl rfl (ev_nil)) (seqQ_n (?_))
  replace h := Option.some.inj h
  subst h
  exact wp_ret (gcQ_r (seqQ_r (qf_r ((outs_ok (vs := [(.vw _ _)]) rfl (absW_cons rfl rfl (absW_nil)) rfl rfl)))))
 ·refine wp_cf rfl hc13 ?_
  refine wp_skip (gcQ_n (gc_to [] (e := [(0, .vw [] (.rows 3 (List.map e0 p0))), (1, .vw [] (.rows 3 (List.map e0 p1)))]) (ts := []) (n := 0) rfl rfl rfl rfl) (seqQ_n (?_)))
  refine wp_seq ?_
  refine wp_gc ?_
  refine wp_seq ?_
  refine wp_gc ?_
  refine wp_reg (nx' := 48) rfl (ev_v rfl rfl (ev_v rfl (d_len_vr (e := e0) rfl) (ev_v rfl rfl (ev_nil)))) (gcQ_n (gc_to [] (e := [(0, .vw [] (.rows 3 (List.map e0 p0))), (1, .vw [] (.rows 3 (List.map e0 p1))), (12, .vw [] (.int .i64 ((List.length p0 : Int)))), (13, .vw [] (.int .i64 ((0 : Int))))]) (ts := []) (n := 0) rfl rfl rfl rfl) (seqQ_n (?_)))
  refine wp_gc ?_
  refine wp_blk ?_
  obtain ⟨w61, hw61, h⟩ := bs h
  refine wp_mono (wp_loop (fun (x38 : Int) => (⟨al .dead [(0, .vw [] (.rows 3 (List.map e0 p0))), (1, .vw [] (.rows 3 (List.map e0 p1))), (12, .vw [] (.int .i64 ((List.length p0 : Int)))), (13, .vw [] (.int .i64 x38))], hl [], 0⟩ : St)) (fun (v : Unit ⊕ Bool) e st => match v with | .inl _ => e = .exit 0 ∧ gc 0 [] st = ⟨al .dead [], hl [], 0⟩ | .inr rr => e = .ret ∧ outs 0 k21 st = some (.bool rr, [])) hw61 ?_) ?_
  ·rintro x38 o h
   refine wp_gc ?_
   refine wp_seq ?_
   refine wp_reg (nx' := 16) rfl (ev_v rfl rfl (ev_nil)) (seqQ_n (?_))
   refine wp_seq ?_
   refine wp_gc ?_
   rcases its h with ⟨hc50, h⟩ | ⟨hc50, h⟩
   ·refine wp_ct rfl hc50 ?_
    refine wp_skip (gcQ_n (gc_to [] (e := [(0, .vw [] (.rows 3 (List.map e0 p0))), (1, .vw [] (.rows 3 (List.map e0 p1))), (12, .vw [] (.int .i64 ((List.length p0 : Int)))), (13, .vw [] (.int .i64 x38))]) (ts := []) (n := 0) rfl rfl rfl rfl) (seqQ_n (?_)))
    refine wp_seq ?_
    refine wp_gc ?_
    refine wp_gc ?_
    refine wp_blk ?_
    refine wp_seq ?_
    refine wp_reg (nx' := 32) rfl (ev_v rfl rfl (ev_v rfl rfl (ev_nil))) (seqQ_n (?_))
    refine wp_seq ?_
    obtain ⟨v57, hv57, h⟩ := bs h
    obtain ⟨v58, hv58, h⟩ := bs h
    refine wp_reg (nx' := 176) rfl (ev_v rfl rfl (ev_v rfl rfl (ev_den (.pv _ _) rfl (d_idx_vr e0 rfl rfl hv57) (ev_den (.agg [(.vw _ _), (.vw _ _), (.vw _ _)]) rfl rfl (ev_v rfl rfl (ev_v rfl rfl (ev_den (.pv _ _) rfl (d_idx_vr e0 rfl rfl hv58) (ev_den (.agg [(.vw _ _), (.vw _ _), (.vw _ _)]) rfl rfl (ev_v rfl rfl (ev_nil)))))))))) (seqQ_n (?_))
    rcases its h with ⟨hc59, h⟩ | ⟨hc59, h⟩
    ·refine wp_ct rfl hc59 ?_
     refine wp_seq ?_
     refine wp_reg (nx' := 192) rfl (ev_v rfl rfl (ev_nil)) (seqQ_n (?_))
     replace h := Option.some.inj h
     subst h
     exact wp_ret (blkQ_r (gcQ_r (gcQ_r (seqQ_r (gcQ_r (loopQ_r (And.intro rfl (outs_ok (vs := [(.vw _ _)]) rfl (absW_cons rfl rfl (absW_nil)) rfl rfl))))))))
    ·refine wp_cf rfl hc59 ?_
     refine wp_skip (blkQ_n (gcQ_n (gc_to [] (e := [(0, .vw [] (.rows 3 (List.map e0 p0))), (1, .vw [] (.rows 3 (List.map e0 p1))), (12, .vw [] (.int .i64 ((List.length p0 : Int)))), (13, .vw [] (.int .i64 x38))]) (ts := []) (n := 0) rfl rfl rfl rfl) (gcQ_n (gc_to [] (e := [(0, .vw [] (.rows 3 (List.map e0 p0))), (1, .vw [] (.rows 3 (List.map e0 p1))), (12, .vw [] (.int .i64 ((List.length p0 : Int)))), (13, .vw [] (.int .i64 x38))]) (ts := []) (n := 0) rfl rfl rfl rfl) (seqQ_n (?_)))))
     replace h := Option.some.inj h
     subst h
     exact wp_reg (nx' := 32) rfl (ev_v rfl rfl (ev_v rfl rfl (ev_nil))) (gcQ_n (gc_to [] (e := [(0, .vw [] (.rows 3 (List.map e0 p0))), (1, .vw [] (.rows 3 (List.map e0 p1))), (12, .vw [] (.int .i64 ((List.length p0 : Int)))), (13, .vw [] (.int .i64 ((w64 (x38 + (1 : Int))))))]) (ts := []) (n := 0) rfl rfl rfl rfl) (loopQ_n rfl))
   ·refine wp_cf rfl hc50 ?_
    replace h := Option.some.inj h
    subst h
    exact wp_exit (gcQ_e (seqQ_e (gcQ_e (loopQ_e (And.intro rfl (gc_to [] (e := []) (ts := []) (n := 0) rfl rfl rfl rfl))))))
  ·intro e st61 hg61
   rcases w61 with _ | r62
   ·obtain ⟨rfl, hg61⟩ := hg61
    refine blkQ_h (gcQ_n hg61 (gcQ_n (gc_to [] (e := []) (ts := []) (n := 0) rfl rfl rfl rfl) (seqQ_n (?_))))
    refine wp_seq ?_
    refine wp_reg (nx' := 16) rfl (ev_v rfl rfl (ev_nil)) (seqQ_n (?_))
    replace h := Option.some.inj h
    subst h
    exact wp_ret (qf_r ((outs_ok (vs := [(.vw _ _)]) rfl (absW_cons rfl rfl (absW_nil)) rfl rfl)))
   ·obtain ⟨rfl, hg61⟩ := hg61
    replace h := Option.some.inj h
    subst h
    exact blkQ_r (gcQ_r (gcQ_r (seqQ_r (qf_r (hg61)))))
end Go.Proofs.Yteeejellpcikkaa.Ev.H5
