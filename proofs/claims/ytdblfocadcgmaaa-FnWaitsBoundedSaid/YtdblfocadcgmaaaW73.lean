/- What functions of the program come to, as plain functions; no condition. -/
import Derived.Test.YtdblfocadcgmaaaW72
set_option linter.unusedVariables false
set_option linter.unusedSimpArgs false
set_option maxRecDepth 100000
set_option maxHeartbeats 4000000
set_option linter.unusedVariables false
namespace Go.Proofs.Ytdblfocadcgmaaa.Ev.W7
open Go
noncomputable def spec_tkCalls_j4 (x110 : Int) : Bool → Option (Int ⊕ (Unit ⊕ Bool)) := fun x182 =>
if x182 = true then
some (.inr (.inr false))
else
some (.inl ((w64 (x110 + (1 : Int)))))
noncomputable def spec_tkCalls_j3 (p1 : List (Int × Int × Int)) (x110 : Int) (v165 : Int × Int × Int) : Bool → Option (Int ⊕ (Unit ⊕ Bool)) := fun x178 =>
if x178 = true then
some (.inr (.inr false))
else
if (decide (x110 > (0 : Int))) = true then
(at? p1 ((w64 (x110 - (1 : Int))))).bind fun v186 =>
spec_tkCalls_j4 x110 (decide (v186.1 > v165.1))
else
spec_tkCalls_j4 x110 false
noncomputable def spec_tkCalls_s2 (p0 : Int × Int × Int) (p1 : List (Int × Int × Int)) : Int → Option (Int ⊕ (Unit ⊕ Bool)) := fun x110 =>
if (decide (x110 < (List.length p1 : Int))) = true then
(at? p1 x110).bind fun v165 =>
(spec_l1In v165.1 ((0 : Int)) ((1000 : Int))).bind fun v189 =>
if (!v189) = true then
spec_tkCalls_j3 p1 x110 v165 true
else
(spec_l1In v165.2.1 ((0 : Int)) ((w64 (p0.1 - (1 : Int))))).bind fun v192 =>
if (!v192) = true then
spec_tkCalls_j3 p1 x110 v165 true
else
(spec_l1In v165.2.2 ((0 : Int)) ((w64 (p0.1 - (1 : Int))))).bind fun v195 =>
spec_tkCalls_j3 p1 x110 v165 (!v195)
else
some (.inr (.inl ()))
noncomputable def spec_tkCalls_l2 (p0 : Int × Int × Int) (p1 : List (Int × Int × Int)) : Int → Option (Unit ⊕ Bool) := iter (spec_tkCalls_s2 p0 p1)
noncomputable def spec_tkCalls_j1 (p0 : Int × Int × Int) (p1 : List (Int × Int × Int)) : Bool → Option (Bool) := fun x39 =>
if x39 = true then
some false
else
(spec_tkCalls_l2 p0 p1 (0 : Int)).bind fun w => match w with
| .inl _ =>
some true
| .inr r198 =>
some r198
noncomputable def spec_tkCalls (p0 : Int × Int × Int) (p1 : List (Int × Int × Int)) : Option Bool :=
(spec_tkGood p0).bind fun v199 =>
if (!v199) = true then
spec_tkCalls_j1 p0 p1 true
else
spec_tkCalls_j1 p0 p1 (decide ((List.length p1 : Int) > (20 : Int)))
theorem spec_tkCalls_ok {p0 : Int × Int × Int} {p1 : List (Int × Int × Int)} {o : Bool} (h : spec_tkCalls p0 p1 = some o) : RN 49 [.agg [.int .i64 p0.1, .int .i64 p0.2.1, .int .i64 p0.2.2], .rows 3 (List.map e0 p1)] [] = some (.bool o, []) := by
 refine fn_run (o := o) (nr := 0) (F := k49) (st := ⟨entry 0 [.agg [.vw [] (.int .i64 p0.1), .vw [] (.int .i64 p0.2.1), .vw [] (.int .i64 p0.2.2)], .vw [] (.rows 3 (List.map e0 p1))], fun n => ([] : List T)[n]?, 0⟩) (fun (o : Bool) => (.bool o, [])) z fns_49 z z z ?_
 refine wp_seq ?_
 refine wp_reg (nx' := 32) z (ev_wr z (w_box (sv := (.agg [(.vw _ _), (.vw _ _), (.vw _ _)])) z z (absW_cons z z (absW_cons z z (absW_cons z z (absW_nil))))) (ev_v z z (ev_nil))) (seqQ_n (?_))
 refine wp_seq ?_
 refine wp_gc ?_
 refine wp_seq ?_
 refine wp_join (spec_tkCalls_j1 p0 p1) (fun (x39 : Bool) => (⟨al .dead [(1, .vw [] (.rows 3 (List.map e0 p1))), (2, .ptr 0 [] (some 0)), (14, .vw [] (.bool x39))], hl [some (.ptr (.agg [.int .i64 p0.1, .int .i64 p0.2.1, .int .i64 p0.2.2]))], 1⟩ : St)) ?_ ?_
 ·rintro x39 o h
  unfold spec_tkCalls_j1 at h
  refine seqQ_n (?_)
  rcases its h with ⟨hc40, h⟩ | ⟨hc40, h⟩
  ·refine wp_ct z hc40 ?_
   refine wp_seq ?_
   refine wp_reg (nx' := 17) z (ev_v z z (ev_nil)) (seqQ_n (?_))
   replace h := Option.some.inj h
   subst h
   exact wp_ret (gcQ_r (seqQ_r (qf_r ((outs_ok (vs := [(.vw _ _)]) z (absW_cons z z (absW_nil)) z z)))))
  ·refine wp_cf z hc40 ?_
   refine wp_skip (gcQ_n (gc_to [0] (e := [(1, .vw [] (.rows 3 (List.map e0 p1))), (2, .ptr 0 [] (some 0))]) (ts := [some (.ptr (.agg [.int .i64 p0.1, .int .i64 p0.2.1, .int .i64 p0.2.2]))]) (n := 1) z z z z) (seqQ_n (?_)))
   refine wp_seq ?_
   refine wp_gc ?_
   refine wp_seq ?_
   refine wp_gc ?_
   refine wp_reg (nx' := 49) z (ev_v z z (ev_v z (d_len_vr (e := e0) z) (ev_v z z (ev_nil)))) (gcQ_n (gc_to [0] (e := [(1, .vw [] (.rows 3 (List.map e0 p1))), (2, .ptr 0 [] (some 0)), (15, .vw [] (.rows 3 (List.map e0 p1))), (16, .vw [] (.int .i64 ((List.length p1 : Int)))), (17, .vw [] (.int .i64 ((0 : Int))))]) (ts := [some (.ptr (.agg [.int .i64 p0.1, .int .i64 p0.2.1, .int .i64 p0.2.2]))]) (n := 1) z z z z) (seqQ_n (?_)))
   refine wp_gc ?_
   refine wp_blk ?_
   obtain ⟨w197, hw197, h⟩ := bs h
   refine wp_mono (wp_loop (fun (x110 : Int) => (⟨al .dead [(1, .vw [] (.rows 3 (List.map e0 p1))), (2, .ptr 0 [] (some 0)), (15, .vw [] (.rows 3 (List.map e0 p1))), (16, .vw [] (.int .i64 ((List.length p1 : Int)))), (17, .vw [] (.int .i64 x110))], hl [some (.ptr (.agg [.int .i64 p0.1, .int .i64 p0.2.1, .int .i64 p0.2.2]))], 1⟩ : St)) (fun (v : Unit ⊕ Bool) e st => match v with | .inl _ => e = .exit 0 ∧ gc 0 [] st = ⟨al .dead [], hl [], 0⟩ | .inr rr => e = .ret ∧ outs 0 k49 st = some (.bool rr, [])) hw197 ?_) ?_
   ·rintro x110 o h
    refine wp_gc ?_
    refine wp_seq ?_
    refine wp_reg (nx' := 17) z (ev_v z z (ev_nil)) (seqQ_n (?_))
    refine wp_seq ?_
    refine wp_gc ?_
    rcases its h with ⟨hc140, h⟩ | ⟨hc140, h⟩
    ·refine wp_ct z hc140 ?_
     refine wp_skip (gcQ_n (gc_to [0] (e := [(1, .vw [] (.rows 3 (List.map e0 p1))), (2, .ptr 0 [] (some 0)), (15, .vw [] (.rows 3 (List.map e0 p1))), (16, .vw [] (.int .i64 ((List.length p1 : Int)))), (17, .vw [] (.int .i64 x110))]) (ts := [some (.ptr (.agg [.int .i64 p0.1, .int .i64 p0.2.1, .int .i64 p0.2.2]))]) (n := 1) z z z z) (seqQ_n (?_)))
     refine wp_seq ?_
     refine wp_gc ?_
     refine wp_gc ?_
     refine wp_blk ?_
     refine wp_seq ?_
     obtain ⟨v165, hv165, h⟩ := bs h
     refine wp_reg (nx' := 97) z (ev_v z z (ev_den (.pv _ _) z (d_idx_vr e0 z z hv165) (ev_den (.agg [(.vw _ _), (.vw _ _), (.vw _ _)]) z z (ev_new (.ptr 49 [] (some 0)) (.ptr (.agg [.int .i64 ((0 : Int)), .int .i64 ((0 : Int)), .int .i64 ((0 : Int))])) z z (ev_v z z (ev_wr0 z (w_st_a z z z (stL_cons (st1_of z z z (get_f z (get_nil)) z (rput_p (put_f z (put_nil)))) z (stL_cons (st1_of z z z (get_f z (get_nil)) z (rput_p (put_f z (put_nil)))) z (stL_cons (st1_of z z z (get_f z (get_nil)) z (rput_p (put_f z (put_nil)))) z (stL_nil))))) (ev_nil))))))) (seqQ_n (?_))
     refine wp_seq ?_
     refine wp_gc ?_
     refine wp_seq ?_
     refine wp_join (spec_tkCalls_j3 p1 x110 v165) (fun (x178 : Bool) => (⟨al .dead [(1, .vw [] (.rows 3 (List.map e0 p1))), (2, .ptr 0 [] (some 0)), (5, .vw [] (.int .i64 x110)), (6, .ptr 1 [] (some 0)), (15, .vw [] (.rows 3 (List.map e0 p1))), (16, .vw [] (.int .i64 ((List.length p1 : Int)))), (17, .vw [] (.int .i64 x110)), (43, .vw [] (.bool x178))], hl [some (.ptr (.agg [.int .i64 p0.1, .int .i64 p0.2.1, .int .i64 p0.2.2])), some (.ptr (.agg [.int .i64 v165.1, .int .i64 v165.2.1, .int .i64 v165.2.2]))], 2⟩ : St)) ?_ ?_
     ·rintro x178 o h
      unfold spec_tkCalls_j3 at h
      refine seqQ_n (?_)
      rcases its h with ⟨hc179, h⟩ | ⟨hc179, h⟩
      ·refine wp_ct z hc179 ?_
       refine wp_seq ?_
       refine wp_reg (nx' := 18) z (ev_v z z (ev_nil)) (seqQ_n (?_))
       replace h := Option.some.inj h
       subst h
       exact wp_ret (gcQ_r (seqQ_r (blkQ_r (gcQ_r (gcQ_r (seqQ_r (gcQ_r (loopQ_r (And.intro z (outs_ok (vs := [(.vw _ _)]) z (absW_cons z z (absW_nil)) z z))))))))))
      ·refine wp_cf z hc179 ?_
       refine wp_skip (gcQ_n (gc_to [0, 1] (e := [(1, .vw [] (.rows 3 (List.map e0 p1))), (2, .ptr 0 [] (some 0)), (5, .vw [] (.int .i64 x110)), (6, .ptr 1 [] (some 0)), (15, .vw [] (.rows 3 (List.map e0 p1))), (16, .vw [] (.int .i64 ((List.length p1 : Int)))), (17, .vw [] (.int .i64 x110))]) (ts := [some (.ptr (.agg [.int .i64 p0.1, .int .i64 p0.2.1, .int .i64 p0.2.2])), some (.ptr (.agg [.int .i64 v165.1, .int .i64 v165.2.1, .int .i64 v165.2.2]))]) (n := 2) z z z z) (seqQ_n (?_)))
       refine wp_seq ?_
       refine wp_join (spec_tkCalls_j4 x110) (fun (x182 : Bool) => (⟨al .dead [(1, .vw [] (.rows 3 (List.map e0 p1))), (2, .ptr 0 [] (some 0)), (15, .vw [] (.rows 3 (List.map e0 p1))), (16, .vw [] (.int .i64 ((List.length p1 : Int)))), (17, .vw [] (.int .i64 x110)), (56, .vw [] (.bool x182))], hl [some (.ptr (.agg [.int .i64 p0.1, .int .i64 p0.2.1, .int .i64 p0.2.2]))], 1⟩ : St)) ?_ ?_
       ·rintro x182 o h
        unfold spec_tkCalls_j4 at h
        refine seqQ_n (?_)
        rcases its h with ⟨hc183, h⟩ | ⟨hc183, h⟩
        ·refine wp_ct z hc183 ?_
         refine wp_seq ?_
         refine wp_reg (nx' := 17) z (ev_v z z (ev_nil)) (seqQ_n (?_))
         replace h := Option.some.inj h
         subst h
         exact wp_ret (blkQ_r (gcQ_r (gcQ_r (seqQ_r (gcQ_r (loopQ_r (And.intro z (outs_ok (vs := [(.vw _ _)]) z (absW_cons z z (absW_nil)) z z))))))))
        ·refine wp_cf z hc183 ?_
         refine wp_skip (blkQ_n (gcQ_n (gc_to [0] (e := [(1, .vw [] (.rows 3 (List.map e0 p1))), (2, .ptr 0 [] (some 0)), (15, .vw [] (.rows 3 (List.map e0 p1))), (16, .vw [] (.int .i64 ((List.length p1 : Int)))), (17, .vw [] (.int .i64 x110))]) (ts := [some (.ptr (.agg [.int .i64 p0.1, .int .i64 p0.2.1, .int .i64 p0.2.2]))]) (n := 1) z z z z) (gcQ_n (gc_to [0] (e := [(1, .vw [] (.rows 3 (List.map e0 p1))), (2, .ptr 0 [] (some 0)), (15, .vw [] (.rows 3 (List.map e0 p1))), (16, .vw [] (.int .i64 ((List.length p1 : Int)))), (17, .vw [] (.int .i64 x110))]) (ts := [some (.ptr (.agg [.int .i64 p0.1, .int .i64 p0.2.1, .int .i64 p0.2.2]))]) (n := 1) z z z z) (seqQ_n (?_)))))
         replace h := Option.some.inj h
         subst h
         exact wp_reg (nx' := 33) z (ev_v z z (ev_v z z (ev_nil))) (gcQ_n (gc_to [0] (e := [(1, .vw [] (.rows 3 (List.map e0 p1))), (2, .ptr 0 [] (some 0)), (15, .vw [] (.rows 3 (List.map e0 p1))), (16, .vw [] (.int .i64 ((List.length p1 : Int)))), (17, .vw [] (.int .i64 ((w64 (x110 + (1 : Int))))))]) (ts := [some (.ptr (.agg [.int .i64 p0.1, .int .i64 p0.2.1, .int .i64 p0.2.2]))]) (n := 1) z z z z) (loopQ_n z))
       ·rcases its h with ⟨hc185, h⟩ | ⟨hc185, h⟩
        ·obtain ⟨v186, hv186, h⟩ := bs h
         exact wp_reg (nx' := 210) z (ev_v z z (ev_v z z (ev_v z z (ev_on z hc185 (ev_v z z (ev_on z hc185 (ev_v z z (ev_on z hc185 (ev_v z z (ev_on z hc185 (ev_den (.pv _ _) z (d_idx_vr e0 z z hv186) (ev_on z hc185 (ev_den (.pv _ _) z z (ev_on z hc185 (ev_v z z (ev_on z hc185 (ev_den (.ptr 1 [] (some 0)) z z (ev_on z hc185 (ev_v z (d_ld_o z (rget_of z (get_nil)) z z) (ev_on z hc185 (ev_v z z (ev_v z (d_pick_t z hc185 z) (ev_nil))))))))))))))))))))))) (joinQ_n (decide (v186.1 > v165.1)) h (gc_to [0] z z z z))
        ·exact wp_reg (nx' := 210) z (ev_v z z (ev_v z z (ev_v z z (ev_off z hc185 (ev_off z hc185 (ev_off z hc185 (ev_off z hc185 (ev_off z hc185 (ev_off z hc185 (ev_off z hc185 (ev_off z hc185 (ev_off z hc185 (ev_v z (d_pick_f z hc185 z) (ev_nil)))))))))))))) (joinQ_n false h (gc_to [0] z z z z))
     ·obtain ⟨v189, hv189, h⟩ := bs h
      rcases its h with ⟨hc190, h⟩ | ⟨hc190, h⟩
      ·exact wp_reg (nx' := 449) z (ev_den (.ptr 49 [] (some 0)) z z (ev_v z (d_ld_o z (rget_of z (get_nil)) z z) (ev_call0 [(.vw _ _), (.vw _ _), (.vw _ _)] z (call_okf (vs' := [(.vw _ _), (.vw _ _), (.vw _ _)]) z (call_ok (rs := []) (rd := []) z z z z (argL_cons z (argL_cons z (argL_cons z (argL_nil)))) z z (spec_l1In_ok hv189) z z z z z)) (ev_v z z (ev_v z z (ev_off z hc190 (ev_off z hc190 (ev_off z hc190 (ev_off z hc190 (ev_off z hc190 (ev_off z hc190 (ev_off z hc190 (ev_v z (d_pick_t z hc190 z) (ev_v z z (ev_off z z (ev_off z z (ev_off z z (ev_off z z (ev_off z z (ev_off z z (ev_off z z (ev_v z (d_pick_t z z z) (ev_nil))))))))))))))))))))))) (joinQ_n true h (gc_to [0, 49] z z z z))
      ·obtain ⟨v192, hv192, h⟩ := bs h
       rcases its h with ⟨hc193, h⟩ | ⟨hc193, h⟩
       ·exact wp_reg (nx' := 449) z (ev_den (.ptr 49 [] (some 0)) z z (ev_v z (d_ld_o z (rget_of z (get_nil)) z z) (ev_call0 [(.vw _ _), (.vw _ _), (.vw _ _)] z (call_okf (vs' := [(.vw _ _), (.vw _ _), (.vw _ _)]) z (call_ok (rs := []) (rd := []) z z z z (argL_cons z (argL_cons z (argL_cons z (argL_nil)))) z z (spec_l1In_ok hv189) z z z z z)) (ev_v z z (ev_v z z (ev_on z hc190 (ev_den (.ptr 49 [] (some 1)) z z (ev_on z hc190 (ev_v z (d_ld_o z (rget_of z (get_nil)) z z) (ev_on z hc190 (ev_den (.ptr 0 [] (some 0)) z z (ev_on z hc190 (ev_v z (d_ld_o z (rget_of z (get_nil)) z z) (ev_on z hc190 (ev_v z z (ev_on z hc190 (ev_call0 [(.vw _ _), (.vw _ _), (.vw _ _)] z (call_okf (vs' := [(.vw _ _), (.vw _ _), (.vw _ _)]) z (call_ok (rs := []) (rd := []) z z z z (argL_cons z (argL_cons z (argL_cons z (argL_nil)))) z z (spec_l1In_ok hv192) z z z z z)) (ev_on z hc190 (ev_v z z (ev_v z (d_pick_f z hc190 z) (ev_v z z (ev_off z hc193 (ev_off z hc193 (ev_off z hc193 (ev_off z hc193 (ev_off z hc193 (ev_off z hc193 (ev_off z hc193 (ev_v z (d_pick_t z hc193 z) (ev_nil)))))))))))))))))))))))))))))) (joinQ_n true h (gc_to [0, 49] z z z z))
       ·obtain ⟨v195, hv195, h⟩ := bs h
        exact wp_reg (nx' := 449) z (ev_den (.ptr 49 [] (some 0)) z z (ev_v z (d_ld_o z (rget_of z (get_nil)) z z) (ev_call0 [(.vw _ _), (.vw _ _), (.vw _ _)] z (call_okf (vs' := [(.vw _ _), (.vw _ _), (.vw _ _)]) z (call_ok (rs := []) (rd := []) z z z z (argL_cons z (argL_cons z (argL_cons z (argL_nil)))) z z (spec_l1In_ok hv189) z z z z z)) (ev_v z z (ev_v z z (ev_on z hc190 (ev_den (.ptr 49 [] (some 1)) z z (ev_on z hc190 (ev_v z (d_ld_o z (rget_of z (get_nil)) z z) (ev_on z hc190 (ev_den (.ptr 0 [] (some 0)) z z (ev_on z hc190 (ev_v z (d_ld_o z (rget_of z (get_nil)) z z) (ev_on z hc190 (ev_v z z (ev_on z hc190 (ev_call0 [(.vw _ _), (.vw _ _), (.vw _ _)] z (call_okf (vs' := [(.vw _ _), (.vw _ _), (.vw _ _)]) z (call_ok (rs := []) (rd := []) z z z z (argL_cons z (argL_cons z (argL_cons z (argL_nil)))) z z (spec_l1In_ok hv192) z z z z z)) (ev_on z hc190 (ev_v z z (ev_v z (d_pick_f z hc190 z) (ev_v z z (ev_on z hc193 (ev_den (.ptr 49 [] (some 2)) z z (ev_on z hc193 (ev_v z (d_ld_o z (rget_of z (get_nil)) z z) (ev_on z hc193 (ev_den (.ptr 0 [] (some 0)) z z (ev_on z hc193 (ev_v z (d_ld_o z (rget_of z (get_nil)) z z) (ev_on z hc193 (ev_v z z (ev_on z hc193 (ev_call0 [(.vw _ _), (.vw _ _), (.vw _ _)] z (call_okf (vs' := [(.vw _ _), (.vw _ _), (.vw _ _)]) z (call_ok (rs := []) (rd := []) z z z z (argL_cons z (argL_cons z (argL_cons z (argL_nil)))) z z (spec_l1In_ok hv195) z z z z z)) (ev_on z hc193 (ev_v z z (ev_v z (d_pick_f z hc193 z) (ev_nil))))))))))))))))))))))))))))))))))))) (joinQ_n (!v195) h (gc_to [0, 49] z z z z))
    ·refine wp_cf z hc140 ?_
     replace h := Option.some.inj h
     subst h
     exact wp_exit (gcQ_e (seqQ_e (gcQ_e (loopQ_e (And.intro z (gc_to [] (e := []) (ts := []) (n := 0) z z z z))))))
   ·intro e st197 hg197
    rcases w197 with _ | r198
    ·obtain ⟨rfl, hg197⟩ := hg197
     refine blkQ_h (gcQ_n hg197 (gcQ_n (gc_to [] (e := []) (ts := []) (n := 0) z z z z) (seqQ_n (?_))))
     refine wp_seq ?_
     refine wp_reg (nx' := 16) z (ev_v z z (ev_nil)) (seqQ_n (?_))
     replace h := Option.some.inj h
     subst h
     exact wp_ret (qf_r ((outs_ok (vs := [(.vw _ _)]) z (absW_cons z z (absW_nil)) z z)))
    ·obtain ⟨rfl, hg197⟩ := hg197
     replace h := Option.some.inj h
     subst h
     exact blkQ_r (gcQ_r (gcQ_r (seqQ_r (qf_r (hg197)))))
 ·obtain ⟨v199, hv199, h⟩ := bs h
  rcases its h with ⟨hc200, h⟩ | ⟨hc200, h⟩
  ·exact wp_reg (nx' := 160) z (ev_den (.agg [(.vw _ _), (.vw _ _), (.vw _ _)]) z (d_ld_os z (rget_of z (get_nil)) z (cells_cons z (cells_cons z (cells_cons z (cells_nil))))) (ev_call0 [(.agg [(.vw _ _), (.vw _ _), (.vw _ _)])] z (call_okf (vs' := [(.agg [(.vw _ _), (.vw _ _), (.vw _ _)])]) z (call_ok (rs := []) (rd := []) z z z z (argL_cons (argT_a (argL_cons z (argL_cons z (argL_cons z (argL_nil))))) (argL_nil)) z z (spec_tkGood_ok hv199) z z z z z)) (ev_v z z (ev_v z z (ev_off z hc200 (ev_off z hc200 (ev_off z hc200 (ev_v z (d_pick_t z hc200 z) (ev_nil))))))))) (joinQ_n true h (gc_to [0] z z z z))
  ·exact wp_reg (nx' := 160) z (ev_den (.agg [(.vw _ _), (.vw _ _), (.vw _ _)]) z (d_ld_os z (rget_of z (get_nil)) z (cells_cons z (cells_cons z (cells_cons z (cells_nil))))) (ev_call0 [(.agg [(.vw _ _), (.vw _ _), (.vw _ _)])] z (call_okf (vs' := [(.agg [(.vw _ _), (.vw _ _), (.vw _ _)])]) z (call_ok (rs := []) (rd := []) z z z z (argL_cons (argT_a (argL_cons z (argL_cons z (argL_cons z (argL_nil))))) (argL_nil)) z z (spec_tkGood_ok hv199) z z z z z)) (ev_v z z (ev_v z z (ev_on z hc200 (ev_v z z (ev_on z hc200 (ev_v z (d_len_vr (e := e0) z) (ev_on z hc200 (ev_v z z (ev_v z (d_pick_f z hc200 z) (ev_nil)))))))))))) (joinQ_n (decide ((List.length p1 : Int) > (20 : Int))) h (gc_to [0] z z z z))
noncomputable def spec_tkStart_s1 (p1 : List (Int × Int × Int)) : ((List Int) × Int) → Option (((List Int) × Int) ⊕ ((List Int))) := fun (x30, x31) =>
if (decide (x31 < (List.length p1 : Int))) = true then
(app? x30 (([(-1 : Int)] : List Int))).bind fun v45 =>
some (.inl (v45, (w64 (x31 + (1 : Int)))))
else
some (.inr x30)
noncomputable def spec_tkStart_l1 (p1 : List (Int × Int × Int)) : ((List Int) × Int) → Option ((List Int)) := iter (spec_tkStart_s1 p1)
noncomputable def spec_tkStart (p0 : Int × Int × Int) (p1 : List (Int × Int × Int)) : Option ((Int × Int × Int × (List (Int × Int × Int)) × (List Int) × (List (List Int)) × Int)) :=
(spec_tkStart_l1 p1 ([], (0 : Int))).bind fun x36 =>
some (p0.1, p0.2.1, p0.2.2, p1, x36, [], (0 : Int))
theorem spec_tkStart_ok {p0 : Int × Int × Int} {p1 : List (Int × Int × Int)} {o : (Int × Int × Int × (List (Int × Int × Int)) × (List Int) × (List (List Int)) × Int)} (h : spec_tkStart p0 p1 = some o) : RN 66 [.agg [.int .i64 p0.1, .int .i64 p0.2.1, .int .i64 p0.2.2], .rows 3 (List.map e0 p1)] [] = some (.ptr (.agg [.int .i64 o.1, .int .i64 o.2.1, .int .i64 o.2.2.1, .sh (.rows 3 (List.map e0 o.2.2.2.1)), .ints .i64 o.2.2.2.2.1, .rows 1 (List.map (T.ints .i64) o.2.2.2.2.2.1), .int .i64 o.2.2.2.2.2.2]), []) := by
 refine fn_run (o := o) (nr := 0) (F := k66) (st := ⟨entry 0 [.agg [.vw [] (.int .i64 p0.1), .vw [] (.int .i64 p0.2.1), .vw [] (.int .i64 p0.2.2)], .vw [] (.rows 3 (List.map e0 p1))], fun n => ([] : List T)[n]?, 0⟩) (fun (o : (Int × Int × Int × (List (Int × Int × Int)) × (List Int) × (List (List Int)) × Int)) => (.ptr (.agg [.int .i64 o.1, .int .i64 o.2.1, .int .i64 o.2.2.1, .sh (.rows 3 (List.map e0 o.2.2.2.1)), .ints .i64 o.2.2.2.2.1, .rows 1 (List.map (T.ints .i64) o.2.2.2.2.2.1), .int .i64 o.2.2.2.2.2.2]), [])) z fns_66 z z z ?_
 refine wp_seq ?_
 refine wp_reg (nx' := 32) z (ev_wr z (w_box (sv := (.agg [(.vw _ _), (.vw _ _), (.vw _ _)])) z z (absW_cons z z (absW_cons z z (absW_cons z z (absW_nil))))) (ev_den (.nilS _) z z (ev_nil))) (seqQ_n (?_))
 refine wp_seq ?_
 refine wp_reg (nx' := 112) z (ev_den (.agg [(.vw _ _), (.vw _ _), (.vw _ _)]) z (d_ld_os z (rget_of z (get_nil)) z (cells_cons z (cells_cons z (cells_cons z (cells_nil))))) (ev_v z z (ev_den (.agg [(.vw _ _), (.vw _ _), (.vw _ _), (.vw _ _), (.nilS _), (.nilS _), (.vw _ _)]) z z (ev_wr z (w_box (sv := (.agg [(.vw _ _), (.vw _ _), (.vw _ _), (.vw _ _), (.nilS _), (.nilS _), (.vw _ _)])) z z (absW_cons z z (absW_cons z z (absW_cons z z (absW_cons z z (absW_cons z z (absW_cons z z (absW_cons z z (absW_nil))))))))) (ev_den (.ptr 80 [] (some 0)) z z (ev_nil)))))) (seqQ_n (?_))
 refine wp_seq ?_
 refine wp_gc ?_
 refine wp_seq ?_
 refine wp_gc ?_
 refine wp_reg (nx' := 160) z (ev_v z z (ev_v z (d_len_vr (e := e0) z) (ev_v z z (ev_nil)))) (gcQ_n (gc_to [80] (e := [(5, .ptr 0 [] (some 0)), (11, .vw [] (.int .i64 ((List.length p1 : Int)))), (12, .vw [] (.int .i64 ((0 : Int))))]) (ts := [some (.ptr (.agg [.int .i64 p0.1, .int .i64 p0.2.1, .int .i64 p0.2.2, .sh (.rows 3 (List.map e0 p1)), .ints .i64 ([]), .rows 1 (List.map (T.ints .i64) ([])), .int .i64 ((0 : Int))]))]) (n := 1) z z z z) (seqQ_n (?_)))
 refine wp_gc ?_
 refine wp_blk ?_
 obtain ⟨x36, hw49, h⟩ := bs h
 refine wp_mono (wp_loop (fun ((x30, x31) : (List Int) × Int) => (⟨al .dead [(5, .ptr 0 [] (some 0)), (11, .vw [] (.int .i64 ((List.length p1 : Int)))), (12, .vw [] (.int .i64 x31))], hl [some (.ptr (.agg [.int .i64 p0.1, .int .i64 p0.2.1, .int .i64 p0.2.2, .sh (.rows 3 (List.map e0 p1)), .ints .i64 x30, .rows 1 (List.map (T.ints .i64) ([])), .int .i64 ((0 : Int))]))], 1⟩ : St)) (fun (x36 : (List Int)) e st => e = .exit 0 ∧ gc 0 [5] st = ⟨al .dead [(5, .ptr 0 [] (some 0))], hl [some (.ptr (.agg [.int .i64 p0.1, .int .i64 p0.2.1, .int .i64 p0.2.2, .sh (.rows 3 (List.map e0 p1)), .ints .i64 x36, .rows 1 (List.map (T.ints .i64) ([])), .int .i64 ((0 : Int))]))], 1⟩) hw49 ?_) ?_
 ·rintro ⟨x30, x31⟩ o h
  refine wp_gc ?_
  refine wp_seq ?_
  refine wp_reg (nx' := 17) z (ev_v z z (ev_nil)) (seqQ_n (?_))
  refine wp_seq ?_
  refine wp_gc ?_
  rcases its h with ⟨hc42, h⟩ | ⟨hc42, h⟩
  ·refine wp_ct z hc42 ?_
   refine wp_skip (gcQ_n (gc_to [0] (e := [(5, .ptr 0 [] (some 0)), (11, .vw [] (.int .i64 ((List.length p1 : Int)))), (12, .vw [] (.int .i64 x31))]) (ts := [some (.ptr (.agg [.int .i64 p0.1, .int .i64 p0.2.1, .int .i64 p0.2.2, .sh (.rows 3 (List.map e0 p1)), .ints .i64 x30, .rows 1 (List.map (T.ints .i64) ([])), .int .i64 ((0 : Int))]))]) (n := 1) z z z z) (seqQ_n (?_)))
   refine wp_seq ?_
   refine wp_gc ?_
   refine wp_gc ?_
   refine wp_blk ?_
   obtain ⟨v45, hv45, h⟩ := bs h
   refine wp_reg (nx' := 161) z (ev_den (.ptr 0 [] (some 0)) z z (ev_den (.ptr 0 [] (some 0)) z z (ev_den (.ptr 0 [] (some 0)) z z (ev_den (.ptr 0 [] (some 4)) z z (ev_den (.ref 0 [.f 4] _ _ _) z (d_ld_o z (rget_of z (get_nil)) z z) (ev_v z z (ev_wr z (w_app_i (xv := (.ref 0 [.f 4] _ _ _)) 97 z z (abs_refp (r := .ptr (.agg [.int .i64 p0.1, .int .i64 p0.2.1, .int .i64 p0.2.2, .sh (.rows 3 (List.map e0 p1)), .ints .i64 x30, .rows 1 (List.map (T.ints .i64) ([])), .int .i64 ((0 : Int))])) z (get_f z (get_nil)) sub_i (rput_p (put_f z (put_nil)))) hv45 z) (ev_den (.ptr 0 [] (some 0)) z z (ev_den (.ptr 0 [] (some 4)) z z (ev_wr0 z (w_st_o z z (st1_of (abs_ref z sub_i) z z (get_f z (get_nil)) z (rput_p (put_f z (put_nil))))) (ev_nil))))))))))) (blkQ_n (gcQ_n (gc_to [0] (e := [(5, .ptr 0 [] (some 0)), (11, .vw [] (.int .i64 ((List.length p1 : Int)))), (12, .vw [] (.int .i64 x31))]) (ts := [some (.ptr (.agg [.int .i64 p0.1, .int .i64 p0.2.1, .int .i64 p0.2.2, .sh (.rows 3 (List.map e0 p1)), .ints .i64 v45, .rows 1 (List.map (T.ints .i64) ([])), .int .i64 ((0 : Int))]))]) (n := 1) z z z z) (gcQ_n (gc_to [0] (e := [(5, .ptr 0 [] (some 0)), (11, .vw [] (.int .i64 ((List.length p1 : Int)))), (12, .vw [] (.int .i64 x31))]) (ts := [some (.ptr (.agg [.int .i64 p0.1, .int .i64 p0.2.1, .int .i64 p0.2.2, .sh (.rows 3 (List.map e0 p1)), .ints .i64 v45, .rows 1 (List.map (T.ints .i64) ([])), .int .i64 ((0 : Int))]))]) (n := 1) z z z z) (seqQ_n (?_)))))
   replace h := Option.some.inj h
   subst h
   exact wp_reg (nx' := 33) z (ev_v z z (ev_v z z (ev_nil))) (gcQ_n (gc_to [0] (e := [(5, .ptr 0 [] (some 0)), (11, .vw [] (.int .i64 ((List.length p1 : Int)))), (12, .vw [] (.int .i64 ((w64 (x31 + (1 : Int))))))]) (ts := [some (.ptr (.agg [.int .i64 p0.1, .int .i64 p0.2.1, .int .i64 p0.2.2, .sh (.rows 3 (List.map e0 p1)), .ints .i64 v45, .rows 1 (List.map (T.ints .i64) ([])), .int .i64 ((0 : Int))]))]) (n := 1) z z z z) (loopQ_n z))
  ·refine wp_cf z hc42 ?_
   replace h := Option.some.inj h
   subst h
   exact wp_exit (gcQ_e (seqQ_e (gcQ_e (loopQ_e (And.intro z (gc_to [0] (e := [(5, .ptr 0 [] (some 0))]) (ts := [some (.ptr (.agg [.int .i64 p0.1, .int .i64 p0.2.1, .int .i64 p0.2.2, .sh (.rows 3 (List.map e0 p1)), .ints .i64 x30, .rows 1 (List.map (T.ints .i64) ([])), .int .i64 ((0 : Int))]))]) (n := 1) z z z z))))))
 ·intro e st49 hg49
  obtain ⟨rfl, hg49⟩ := hg49
  refine blkQ_h (gcQ_n hg49 (gcQ_n (gc_to [0] (e := [(5, .ptr 0 [] (some 0))]) (ts := [some (.ptr (.agg [.int .i64 p0.1, .int .i64 p0.2.1, .int .i64 p0.2.2, .sh (.rows 3 (List.map e0 p1)), .ints .i64 x36, .rows 1 (List.map (T.ints .i64) ([])), .int .i64 ((0 : Int))]))]) (n := 1) z z z z) (seqQ_n (?_))))
  refine wp_seq ?_
  refine wp_reg (nx' := 33) z (ev_den (.ptr 0 [] (some 0)) z z (ev_den (.ptr 0 [] (some 0)) z z (ev_nil))) (seqQ_n (?_))
  replace h := Option.some.inj h
  subst h
  exact wp_ret (qf_r ((outs_ok (vs := [(.ptr 0 [] (some 0))]) z (absW_cons z z (absW_nil)) z z)))
noncomputable def spec_l1Has_s1 (p0 : List Int) (p1 : Int) : Int → Option (Int ⊕ (Unit ⊕ Bool)) := fun x28 =>
if (decide (x28 < (List.length p0 : Int))) = true then
(at? p0 x28).bind fun v43 =>
if (v43 == p1) = true then
some (.inr (.inr true))
else
some (.inl ((w64 (x28 + (1 : Int)))))
else
some (.inr (.inl ()))
noncomputable def spec_l1Has_l1 (p0 : List Int) (p1 : Int) : Int → Option (Unit ⊕ Bool) := iter (spec_l1Has_s1 p0 p1)
noncomputable def spec_l1Has (p0 : List Int) (p1 : Int) : Option Bool :=
(spec_l1Has_l1 p0 p1 (0 : Int)).bind fun w => match w with
| .inl _ =>
some false
| .inr r47 =>
some r47
theorem spec_l1Has_ok {p0 : List Int} {p1 : Int} {o : Bool} (h : spec_l1Has p0 p1 = some o) : RN 84 [.ints .i64 p0, .int .i64 p1] [] = some (.bool o, []) := by
 refine fn_run (o := o) (nr := 0) (F := k84) (st := ⟨entry 0 [.vw [] (.ints .i64 p0), .vw [] (.int .i64 p1)], fun n => ([] : List T)[n]?, 0⟩) (fun (o : Bool) => (.bool o, [])) z fns_84 z z z ?_
 refine wp_seq ?_
 refine wp_reg (nx' := 16) z (ev_v z z (ev_nil)) (seqQ_n (?_))
 refine wp_seq ?_
 refine wp_gc ?_
 refine wp_seq ?_
 refine wp_gc ?_
 refine wp_reg (nx' := 64) z (ev_v z z (ev_v z z (ev_v z z (ev_nil)))) (gcQ_n (gc_to [] (e := [(1, .vw [] (.int .i64 p1)), (7, .vw [] (.ints .i64 p0)), (8, .vw [] (.int .i64 ((List.length p0 : Int)))), (9, .vw [] (.int .i64 ((0 : Int))))]) (ts := []) (n := 0) z z z z) (seqQ_n (?_)))
 refine wp_gc ?_
 refine wp_blk ?_
 obtain ⟨w46, hw46, h⟩ := bs h
 refine wp_mono (wp_loop (fun (x28 : Int) => (⟨al .dead [(1, .vw [] (.int .i64 p1)), (7, .vw [] (.ints .i64 p0)), (8, .vw [] (.int .i64 ((List.length p0 : Int)))), (9, .vw [] (.int .i64 x28))], hl [], 0⟩ : St)) (fun (v : Unit ⊕ Bool) e st => match v with | .inl _ => e = .exit 0 ∧ gc 0 [] st = ⟨al .dead [], hl [], 0⟩ | .inr rr => e = .ret ∧ outs 0 k84 st = some (.bool rr, [])) hw46 ?_) ?_
 ·rintro x28 o h
  refine wp_gc ?_
  refine wp_seq ?_
  refine wp_reg (nx' := 16) z (ev_v z z (ev_nil)) (seqQ_n (?_))
  refine wp_seq ?_
  refine wp_gc ?_
  rcases its h with ⟨hc38, h⟩ | ⟨hc38, h⟩
  ·refine wp_ct z hc38 ?_
   refine wp_skip (gcQ_n (gc_to [] (e := [(1, .vw [] (.int .i64 p1)), (7, .vw [] (.ints .i64 p0)), (8, .vw [] (.int .i64 ((List.length p0 : Int)))), (9, .vw [] (.int .i64 x28))]) (ts := []) (n := 0) z z z z) (seqQ_n (?_)))
   refine wp_seq ?_
   refine wp_gc ?_
   refine wp_gc ?_
   refine wp_blk ?_
   refine wp_seq ?_
   obtain ⟨v43, hv43, h⟩ := bs h
   refine wp_reg (nx' := 48) z (ev_den (.pv _ _) z (d_idx_vi z z hv43) (ev_v z z (ev_v z z (ev_nil)))) (seqQ_n (?_))
   refine wp_seq ?_
   refine wp_reg (nx' := 96) z (ev_v z z (ev_v z z (ev_v z z (ev_nil)))) (seqQ_n (?_))
   rcases its h with ⟨hc44, h⟩ | ⟨hc44, h⟩
   ·refine wp_ct z hc44 ?_
    refine wp_seq ?_
    refine wp_reg (nx' := 112) z (ev_v z z (ev_nil)) (seqQ_n (?_))
    replace h := Option.some.inj h
    subst h
    exact wp_ret (blkQ_r (gcQ_r (gcQ_r (seqQ_r (gcQ_r (loopQ_r (And.intro z (outs_ok (vs := [(.vw _ _)]) z (absW_cons z z (absW_nil)) z z))))))))
   ·refine wp_cf z hc44 ?_
    refine wp_skip (blkQ_n (gcQ_n (gc_to [] (e := [(1, .vw [] (.int .i64 p1)), (7, .vw [] (.ints .i64 p0)), (8, .vw [] (.int .i64 ((List.length p0 : Int)))), (9, .vw [] (.int .i64 x28))]) (ts := []) (n := 0) z z z z) (gcQ_n (gc_to [] (e := [(1, .vw [] (.int .i64 p1)), (7, .vw [] (.ints .i64 p0)), (8, .vw [] (.int .i64 ((List.length p0 : Int)))), (9, .vw [] (.int .i64 x28))]) (ts := []) (n := 0) z z z z) (seqQ_n (?_)))))
    replace h := Option.some.inj h
    subst h
    exact wp_reg (nx' := 32) z (ev_v z z (ev_v z z (ev_nil))) (gcQ_n (gc_to [] (e := [(1, .vw [] (.int .i64 p1)), (7, .vw [] (.ints .i64 p0)), (8, .vw [] (.int .i64 ((List.length p0 : Int)))), (9, .vw [] (.int .i64 ((w64 (x28 + (1 : Int))))))]) (ts := []) (n := 0) z z z z) (loopQ_n z))
  ·refine wp_cf z hc38 ?_
   replace h := Option.some.inj h
   subst h
   exact wp_exit (gcQ_e (seqQ_e (gcQ_e (loopQ_e (And.intro z (gc_to [] (e := []) (ts := []) (n := 0) z z z z))))))
 ·intro e st46 hg46
  rcases w46 with _ | r47
  ·obtain ⟨rfl, hg46⟩ := hg46
   refine blkQ_h (gcQ_n hg46 (gcQ_n (gc_to [] (e := []) (ts := []) (n := 0) z z z z) (seqQ_n (?_))))
   refine wp_seq ?_
   refine wp_reg (nx' := 16) z (ev_v z z (ev_nil)) (seqQ_n (?_))
   replace h := Option.some.inj h
   subst h
   exact wp_ret (qf_r ((outs_ok (vs := [(.vw _ _)]) z (absW_cons z z (absW_nil)) z z)))
  ·obtain ⟨rfl, hg46⟩ := hg46
   replace h := Option.some.inj h
   subst h
   exact blkQ_r (gcQ_r (gcQ_r (seqQ_r (qf_r (hg46)))))
noncomputable def spec_tkRun_visit_j2 (x107 : Int) : ((List Int) × Int) → Option (((List Int) × Int × Int) ⊕ ((List Int) × Int)) := fun (x148, x149) =>
some (.inl (x148, x149, (w64 (x107 + (1 : Int)))))
noncomputable def spec_tkRun_visit_j3 (c0 : Int × Int × Int × (List (Int × Int × Int)) × (List Int) × (List (List Int)) × Int) (x105 : List Int) (x106 : Int) (x107 : Int) : Bool → Option (((List Int) × Int × Int) ⊕ ((List Int) × Int)) := fun x166 =>
if x166 = true then
(at? x105 x107).bind fun v168 =>
spec_tkRun_visit_j2 x107 ((List.set x105 (Int.toNat x107) ((w64 (c0.2.2.2.2.2.2 + x106)))), (w64 (x106 + (1 : Int))))
else
spec_tkRun_visit_j2 x107 (x105, x106)
noncomputable def spec_tkRun_visit_s1 (c0 : Int × Int × Int × (List (Int × Int × Int)) × (List Int) × (List (List Int)) × Int) : ((List Int) × Int × Int) → Option (((List Int) × Int × Int) ⊕ ((List Int) × Int)) := fun (x105, x106, x107) =>
if (decide (x107 < (List.length c0.2.2.2.1 : Int))) = true then
(at? c0.2.2.2.1 x107).bind fun v161 =>
if (v161.2.1 == (Int.tmod (List.length c0.2.2.2.2.2.1 : Int) c0.1)) = true then
(at? x105 x107).bind fun v174 =>
if (decide (v174 < (0 : Int))) = true then
if (decide (v161.1 ≤ c0.2.2.2.2.2.2)) = true then
spec_tkRun_visit_j3 c0 x105 x106 x107 (decide (x106 < c0.2.1))
else
spec_tkRun_visit_j3 c0 x105 x106 x107 false
else
spec_tkRun_visit_j3 c0 x105 x106 x107 false
else
spec_tkRun_visit_j3 c0 x105 x106 x107 false
else
some (.inr (x105, x106))
noncomputable def spec_tkRun_visit_l1 (c0 : Int × Int × Int × (List (Int × Int × Int)) × (List Int) × (List (List Int)) × Int) : ((List Int) × Int × Int) → Option ((List Int) × Int) := iter (spec_tkRun_visit_s1 c0)
noncomputable def spec_tkRun_visit (c0 : Int × Int × Int × (List (Int × Int × Int)) × (List Int) × (List (List Int)) × Int) : Option ((Int × Int × Int × (List (Int × Int × Int)) × (List Int) × (List (List Int)) × Int)) :=
(nz? c0.1).bind fun u33 =>
(spec_tkRun_visit_l1 c0 (c0.2.2.2.2.1, (0 : Int), (0 : Int))).bind fun (x122, x123) =>
(app? c0.2.2.2.2.2.1 (([([c0.2.2.2.2.2.2, (Int.tmod (List.length c0.2.2.2.2.2.1 : Int) c0.1), x123] : List Int)] : List (List Int)))).bind fun v184 =>
some (c0.1, c0.2.1, c0.2.2.1, c0.2.2.2.1, x122, v184, (w64 ((w64 (c0.2.2.2.2.2.2 + x123)) + c0.2.2.1)))
theorem spec_tkRun_visit_ok {c0 : Int × Int × Int × (List (Int × Int × Int)) × (List Int) × (List (List Int)) × Int} {o : (Int × Int × Int × (List (Int × Int × Int)) × (List Int) × (List (List Int)) × Int)} (h : spec_tkRun_visit c0 = some o) : RN 67 [.ref 0] [.ptr (.agg [.int .i64 c0.1, .int .i64 c0.2.1, .int .i64 c0.2.2.1, .sh (.rows 3 (List.map e0 c0.2.2.2.1)), .ints .i64 c0.2.2.2.2.1, .rows 1 (List.map (T.ints .i64) c0.2.2.2.2.2.1), .int .i64 c0.2.2.2.2.2.2])] = some (.tup [], [.ptr (.agg [.int .i64 o.1, .int .i64 o.2.1, .int .i64 o.2.2.1, .sh (.rows 3 (List.map e0 o.2.2.2.1)), .ints .i64 o.2.2.2.2.1, .rows 1 (List.map (T.ints .i64) o.2.2.2.2.2.1), .int .i64 o.2.2.2.2.2.2])]) := by
 refine fn_run (o := o) (nr := 1) (F := k67) (st := ⟨entry 0 [.ptr 0 [] (some 0)], fun n => ([.ptr (.agg [.int .i64 c0.1, .int .i64 c0.2.1, .int .i64 c0.2.2.1, .sh (.rows 3 (List.map e0 c0.2.2.2.1)), .ints .i64 c0.2.2.2.2.1, .rows 1 (List.map (T.ints .i64) c0.2.2.2.2.2.1), .int .i64 c0.2.2.2.2.2.2])] : List T)[n]?, 1⟩) (fun (o : (Int × Int × Int × (List (Int × Int × Int)) × (List Int) × (List (List Int)) × Int)) => (.tup [], [.ptr (.agg [.int .i64 o.1, .int .i64 o.2.1, .int .i64 o.2.2.1, .sh (.rows 3 (List.map e0 o.2.2.2.1)), .ints .i64 o.2.2.2.2.1, .rows 1 (List.map (T.ints .i64) o.2.2.2.2.2.1), .int .i64 o.2.2.2.2.2.2])])) z fns_67 z z z ?_
 refine wp_seq ?_
 obtain ⟨u33, hu33, h⟩ := bs h
 refine wp_reg (nx' := 193) z (ev_den (.ptr 0 [] (some 0)) z z (ev_den (.ptr 0 [] (some 0)) z z (ev_den (.ptr 0 [] (some 5)) z z (ev_den (.ref 0 [.f 5] _ _ _) z (d_ld_o z (rget_of z (get_nil)) z cell_r) (ev_v z z (ev_den (.ptr 0 [] (some 0)) z z (ev_den (.ptr 0 [] (some 0)) z z (ev_den (.ptr 0 [] (some 0)) z z (ev_den (.ptr 0 [] (some 0)) z z (ev_v z (d_ld_o z (rget_of z (get_nil)) z z) (ev_v z (d_rem z z hu33) (ev_v z z (ev_nil))))))))))))) (seqQ_n (?_))
 refine wp_seq ?_
 refine wp_reg (nx' := 289) z (ev_den (.ptr 0 [] (some 0)) z z (ev_den (.ptr 0 [] (some 0)) z z (ev_den (.ptr 0 [] (some 6)) z z (ev_v z (d_ld_o z (rget_of z (get_nil)) z z) (ev_v z z (ev_v z z (ev_nil))))))) (seqQ_n (?_))
 refine wp_seq ?_
 refine wp_gc ?_
 refine wp_seq ?_
 refine wp_gc ?_
 refine wp_reg (nx' := 385) z (ev_den (.ptr 0 [] (some 0)) z z (ev_den (.ptr 0 [] (some 0)) z z (ev_den (.ptr 0 [] (some 3)) z z (ev_v z (d_ld_o z (rget_of z (get_nil)) z z) (ev_v z (d_len_vr (e := e0) z) (ev_v z z (ev_nil))))))) (gcQ_n (gc_to [] (e := [(0, .ptr 0 [] (some 0)), (2, .vw [] (.int .i64 ((Int.tmod (List.length c0.2.2.2.2.2.1 : Int) c0.1)))), (3, .vw [] (.int .i64 c0.2.2.2.2.2.2)), (4, .vw [] (.int .i64 ((0 : Int)))), (25, .vw [] (.rows 3 (List.map e0 c0.2.2.2.1))), (26, .vw [] (.int .i64 ((List.length c0.2.2.2.1 : Int)))), (27, .vw [] (.int .i64 ((0 : Int))))]) (ts := [some (.ptr (.agg [.int .i64 c0.1, .int .i64 c0.2.1, .int .i64 c0.2.2.1, .sh (.rows 3 (List.map e0 c0.2.2.2.1)), .ints .i64 c0.2.2.2.2.1, .rows 1 (List.map (T.ints .i64) c0.2.2.2.2.2.1), .int .i64 c0.2.2.2.2.2.2]))]) (n := 1) z z z z) (seqQ_n (?_)))
 refine wp_gc ?_
 refine wp_blk ?_
 obtain ⟨w183, hw183, h⟩ := bs h
 refine wp_mono (wp_loop (fun ((x105, x106, x107) : (List Int) × Int × Int) => (⟨al .dead [(0, .ptr 0 [] (some 0)), (2, .vw [] (.int .i64 ((Int.tmod (List.length c0.2.2.2.2.2.1 : Int) c0.1)))), (3, .vw [] (.int .i64 c0.2.2.2.2.2.2)), (4, .vw [] (.int .i64 x106)), (25, .vw [] (.rows 3 (List.map e0 c0.2.2.2.1))), (26, .vw [] (.int .i64 ((List.length c0.2.2.2.1 : Int)))), (27, .vw [] (.int .i64 x107))], hl [some (.ptr (.agg [.int .i64 c0.1, .int .i64 c0.2.1, .int .i64 c0.2.2.1, .sh (.rows 3 (List.map e0 c0.2.2.2.1)), .ints .i64 x105, .rows 1 (List.map (T.ints .i64) c0.2.2.2.2.2.1), .int .i64 c0.2.2.2.2.2.2]))], 1⟩ : St)) (fun ((x122, x123) : (List Int) × Int) e st => e = .exit 0 ∧ gc 1 [0, 2, 3, 4] st = ⟨al .dead [(0, .ptr 0 [] (some 0)), (2, .vw [] (.int .i64 ((Int.tmod (List.length c0.2.2.2.2.2.1 : Int) c0.1)))), (3, .vw [] (.int .i64 c0.2.2.2.2.2.2)), (4, .vw [] (.int .i64 x123))], hl [some (.ptr (.agg [.int .i64 c0.1, .int .i64 c0.2.1, .int .i64 c0.2.2.1, .sh (.rows 3 (List.map e0 c0.2.2.2.1)), .ints .i64 x122, .rows 1 (List.map (T.ints .i64) c0.2.2.2.2.2.1), .int .i64 c0.2.2.2.2.2.2]))], 1⟩) hw183 ?_) ?_
 ·rintro ⟨x105, x106, x107⟩ o h
  refine wp_gc ?_
  refine wp_seq ?_
  refine wp_reg (nx' := 17) z (ev_v z z (ev_nil)) (seqQ_n (?_))
  refine wp_seq ?_
  refine wp_gc ?_
  rcases its h with ⟨hc139, h⟩ | ⟨hc139, h⟩
  ·refine wp_ct z hc139 ?_
   refine wp_skip (gcQ_n (gc_to [] (e := [(0, .ptr 0 [] (some 0)), (2, .vw [] (.int .i64 ((Int.tmod (List.length c0.2.2.2.2.2.1 : Int) c0.1)))), (3, .vw [] (.int .i64 c0.2.2.2.2.2.2)), (4, .vw [] (.int .i64 x106)), (25, .vw [] (.rows 3 (List.map e0 c0.2.2.2.1))), (26, .vw [] (.int .i64 ((List.length c0.2.2.2.1 : Int)))), (27, .vw [] (.int .i64 x107))]) (ts := [some (.ptr (.agg [.int .i64 c0.1, .int .i64 c0.2.1, .int .i64 c0.2.2.1, .sh (.rows 3 (List.map e0 c0.2.2.2.1)), .ints .i64 x105, .rows 1 (List.map (T.ints .i64) c0.2.2.2.2.2.1), .int .i64 c0.2.2.2.2.2.2]))]) (n := 1) z z z z) (seqQ_n (?_)))
   refine wp_seq ?_
   refine wp_join (spec_tkRun_visit_j2 x107) (fun ((x148, x149) : (List Int) × Int) => (⟨al .dead [(0, .ptr 0 [] (some 0)), (2, .vw [] (.int .i64 ((Int.tmod (List.length c0.2.2.2.2.2.1 : Int) c0.1)))), (3, .vw [] (.int .i64 c0.2.2.2.2.2.2)), (4, .vw [] (.int .i64 x149)), (25, .vw [] (.rows 3 (List.map e0 c0.2.2.2.1))), (26, .vw [] (.int .i64 ((List.length c0.2.2.2.1 : Int)))), (27, .vw [] (.int .i64 x107))], hl [some (.ptr (.agg [.int .i64 c0.1, .int .i64 c0.2.1, .int .i64 c0.2.2.1, .sh (.rows 3 (List.map e0 c0.2.2.2.1)), .ints .i64 x148, .rows 1 (List.map (T.ints .i64) c0.2.2.2.2.2.1), .int .i64 c0.2.2.2.2.2.2]))], 1⟩ : St)) ?_ ?_
   ·rintro ⟨x148, x149⟩ o h
    unfold spec_tkRun_visit_j2 at h
    refine seqQ_n (?_)
    replace h := Option.some.inj h
    subst h
    exact wp_reg (nx' := 33) z (ev_v z z (ev_v z z (ev_nil))) (gcQ_n (gc_to [] (e := [(0, .ptr 0 [] (some 0)), (2, .vw [] (.int .i64 ((Int.tmod (List.length c0.2.2.2.2.2.1 : Int) c0.1)))), (3, .vw [] (.int .i64 c0.2.2.2.2.2.2)), (4, .vw [] (.int .i64 x149)), (25, .vw [] (.rows 3 (List.map e0 c0.2.2.2.1))), (26, .vw [] (.int .i64 ((List.length c0.2.2.2.1 : Int)))), (27, .vw [] (.int .i64 ((w64 (x107 + (1 : Int))))))]) (ts := [some (.ptr (.agg [.int .i64 c0.1, .int .i64 c0.2.1, .int .i64 c0.2.2.1, .sh (.rows 3 (List.map e0 c0.2.2.2.1)), .ints .i64 x148, .rows 1 (List.map (T.ints .i64) c0.2.2.2.2.2.1), .int .i64 c0.2.2.2.2.2.2]))]) (n := 1) z z z z) (loopQ_n z))
   ·refine wp_gc ?_
    refine wp_blk ?_
    refine wp_seq ?_
    obtain ⟨v161, hv161, h⟩ := bs h
    refine wp_reg (nx' := 97) z (ev_v z z (ev_den (.pv _ _) z (d_idx_vr e0 z z hv161) (ev_den (.agg [(.vw _ _), (.vw _ _), (.vw _ _)]) z z (ev_new (.ptr 49 [] (some 0)) (.ptr (.agg [.int .i64 ((0 : Int)), .int .i64 ((0 : Int)), .int .i64 ((0 : Int))])) z z (ev_v z z (ev_wr0 z (w_st_a z z z (stL_cons (st1_of z z z (get_f z (get_nil)) z (rput_p (put_f z (put_nil)))) z (stL_cons (st1_of z z z (get_f z (get_nil)) z (rput_p (put_f z (put_nil)))) z (stL_cons (st1_of z z z (get_f z (get_nil)) z (rput_p (put_f z (put_nil)))) z (stL_nil))))) (ev_nil))))))) (seqQ_n (?_))
    refine wp_seq ?_
    refine wp_join (spec_tkRun_visit_j3 c0 x105 x106 x107) (fun (x166 : Bool) => (⟨al .dead [(0, .ptr 0 [] (some 0)), (2, .vw [] (.int .i64 ((Int.tmod (List.length c0.2.2.2.2.2.1 : Int) c0.1)))), (3, .vw [] (.int .i64 c0.2.2.2.2.2.2)), (4, .vw [] (.int .i64 x106)), (5, .vw [] (.int .i64 x107)), (25, .vw [] (.rows 3 (List.map e0 c0.2.2.2.1))), (26, .vw [] (.int .i64 ((List.length c0.2.2.2.1 : Int)))), (27, .vw [] (.int .i64 x107)), (60, .vw [] (.bool x166))], hl [some (.ptr (.agg [.int .i64 c0.1, .int .i64 c0.2.1, .int .i64 c0.2.2.1, .sh (.rows 3 (List.map e0 c0.2.2.2.1)), .ints .i64 x105, .rows 1 (List.map (T.ints .i64) c0.2.2.2.2.2.1), .int .i64 c0.2.2.2.2.2.2]))], 1⟩ : St)) ?_ ?_
    ·rintro x166 o h
     unfold spec_tkRun_visit_j3 at h
     refine seqQ_n (?_)
     rcases its h with ⟨hc167, h⟩ | ⟨hc167, h⟩
     ·refine wp_ct z hc167 ?_
      refine wp_seq ?_
      obtain ⟨v168, hv168, h⟩ := bs h
      refine wp_reg (nx' := 161) z (ev_den (.ptr 0 [] (some 0)) z z (ev_den (.ptr 0 [] (some 0)) z z (ev_den (.ptr 0 [] (some 4)) z z (ev_den (.ref 0 [.f 4] _ _ _) z (d_ld_o z (rget_of z (get_nil)) z z) (ev_v z z (ev_v z z (ev_v z z (ev_v z z (ev_den (.ptr 0 [.f 4, .e (Int.toNat x107)] none) z (d_idx_r (p := [.f 4]) z z hv168) (ev_wr0 z (w_st_p z (st1_of z z z (get_f z (get_i hv168)) z (rput_p (put_f z (put_i hv168))))) (ev_nil))))))))))) (seqQ_n (?_))
      exact wp_reg (nx' := 209) z (ev_v z z (ev_v z z (ev_v z z (ev_nil)))) (blkQ_n (gcQ_n (gc_to [] (e := [(0, .ptr 0 [] (some 0)), (2, .vw [] (.int .i64 ((Int.tmod (List.length c0.2.2.2.2.2.1 : Int) c0.1)))), (3, .vw [] (.int .i64 c0.2.2.2.2.2.2)), (4, .vw [] (.int .i64 ((w64 (x106 + (1 : Int)))))), (25, .vw [] (.rows 3 (List.map e0 c0.2.2.2.1))), (26, .vw [] (.int .i64 ((List.length c0.2.2.2.1 : Int)))), (27, .vw [] (.int .i64 x107))]) (ts := [some (.ptr (.agg [.int .i64 c0.1, .int .i64 c0.2.1, .int .i64 c0.2.2.1, .sh (.rows 3 (List.map e0 c0.2.2.2.1)), .ints .i64 ((List.set x105 (Int.toNat x107) ((w64 (c0.2.2.2.2.2.2 + x106))))), .rows 1 (List.map (T.ints .i64) c0.2.2.2.2.2.1), .int .i64 c0.2.2.2.2.2.2]))]) (n := 1) z z z z) (joinQ_n ((List.set x105 (Int.toNat x107) ((w64 (c0.2.2.2.2.2.2 + x106)))), (w64 (x106 + (1 : Int)))) h (gc_to [] z z z z))))
     ·refine wp_cf z hc167 ?_
      exact wp_skip (blkQ_n (gcQ_n (gc_to [] (e := [(0, .ptr 0 [] (some 0)), (2, .vw [] (.int .i64 ((Int.tmod (List.length c0.2.2.2.2.2.1 : Int) c0.1)))), (3, .vw [] (.int .i64 c0.2.2.2.2.2.2)), (4, .vw [] (.int .i64 x106)), (25, .vw [] (.rows 3 (List.map e0 c0.2.2.2.1))), (26, .vw [] (.int .i64 ((List.length c0.2.2.2.1 : Int)))), (27, .vw [] (.int .i64 x107))]) (ts := [some (.ptr (.agg [.int .i64 c0.1, .int .i64 c0.2.1, .int .i64 c0.2.2.1, .sh (.rows 3 (List.map e0 c0.2.2.2.1)), .ints .i64 x105, .rows 1 (List.map (T.ints .i64) c0.2.2.2.2.2.1), .int .i64 c0.2.2.2.2.2.2]))]) (n := 1) z z z z) (joinQ_n (x105, x106) h (gc_to [] z z z z))))
    ·rcases its h with ⟨hc173, h⟩ | ⟨hc173, h⟩
     ·obtain ⟨v174, hv174, h⟩ := bs h
      rcases its h with ⟨hc175, h⟩ | ⟨hc175, h⟩
      ·rcases its h with ⟨hc176, h⟩ | ⟨hc176, h⟩
       ·exact wp_reg (nx' := 561) z (ev_den (.ptr 49 [] (some 1)) z z (ev_v z (d_ld_o z (rget_of z (get_nil)) z z) (ev_v z z (ev_v z z (ev_v z z (ev_on z hc173 (ev_den (.ptr 0 [] (some 0)) z z (ev_on z hc173 (ev_den (.ptr 0 [] (some 0)) z z (ev_on z hc173 (ev_den (.ptr 0 [] (some 4)) z z (ev_on z hc173 (ev_den (.ref 0 [.f 4] _ _ _) z (d_ld_o z (rget_of z (get_nil)) z z) (ev_on z hc173 (ev_v z z (ev_on z hc173 (ev_den (.ptr 0 [.f 4, .e (Int.toNat x107)] none) z (d_idx_r (p := [.f 4]) z z hv174) (ev_on z hc173 (ev_v z (d_ld_p z (rget_of z (get_f z (get_i hv174))) z) (ev_on z hc173 (ev_v z z (ev_v z (d_pick_t z hc173 z) (ev_v z z (ev_on z hc175 (ev_den (.ptr 49 [] (some 0)) z z (ev_on z hc175 (ev_v z (d_ld_o z (rget_of z (get_nil)) z z) (ev_on z hc175 (ev_v z z (ev_on z hc175 (ev_v z z (ev_v z (d_pick_t z hc175 z) (ev_v z z (ev_on z hc176 (ev_v z z (ev_on z hc176 (ev_den (.ptr 0 [] (some 0)) z z (ev_on z hc176 (ev_den (.ptr 0 [] (some 0)) z z (ev_on z hc176 (ev_den (.ptr 0 [] (some 0)) z z (ev_on z hc176 (ev_den (.ptr 0 [] (some 1)) z z (ev_on z hc176 (ev_v z (d_ld_o z (rget_of z (get_nil)) z z) (ev_on z hc176 (ev_v z z (ev_v z (d_pick_t z hc176 z) (ev_nil))))))))))))))))))))))))))))))))))))))))))))))))) (joinQ_n (decide (x106 < c0.2.1)) h (gc_to [] z z z z))
       ·exact wp_reg (nx' := 561) z (ev_den (.ptr 49 [] (some 1)) z z (ev_v z (d_ld_o z (rget_of z (get_nil)) z z) (ev_v z z (ev_v z z (ev_v z z (ev_on z hc173 (ev_den (.ptr 0 [] (some 0)) z z (ev_on z hc173 (ev_den (.ptr 0 [] (some 0)) z z (ev_on z hc173 (ev_den (.ptr 0 [] (some 4)) z z (ev_on z hc173 (ev_den (.ref 0 [.f 4] _ _ _) z (d_ld_o z (rget_of z (get_nil)) z z) (ev_on z hc173 (ev_v z z (ev_on z hc173 (ev_den (.ptr 0 [.f 4, .e (Int.toNat x107)] none) z (d_idx_r (p := [.f 4]) z z hv174) (ev_on z hc173 (ev_v z (d_ld_p z (rget_of z (get_f z (get_i hv174))) z) (ev_on z hc173 (ev_v z z (ev_v z (d_pick_t z hc173 z) (ev_v z z (ev_on z hc175 (ev_den (.ptr 49 [] (some 0)) z z (ev_on z hc175 (ev_v z (d_ld_o z (rget_of z (get_nil)) z z) (ev_on z hc175 (ev_v z z (ev_on z hc175 (ev_v z z (ev_v z (d_pick_t z hc175 z) (ev_v z z (ev_off z hc176 (ev_off z hc176 (ev_off z hc176 (ev_off z hc176 (ev_off z hc176 (ev_off z hc176 (ev_off z hc176 (ev_v z (d_pick_f z hc176 z) (ev_nil)))))))))))))))))))))))))))))))))))))))))) (joinQ_n false h (gc_to [] z z z z))
      ·exact wp_reg (nx' := 561) z (ev_den (.ptr 49 [] (some 1)) z z (ev_v z (d_ld_o z (rget_of z (get_nil)) z z) (ev_v z z (ev_v z z (ev_v z z (ev_on z hc173 (ev_den (.ptr 0 [] (some 0)) z z (ev_on z hc173 (ev_den (.ptr 0 [] (some 0)) z z (ev_on z hc173 (ev_den (.ptr 0 [] (some 4)) z z (ev_on z hc173 (ev_den (.ref 0 [.f 4] _ _ _) z (d_ld_o z (rget_of z (get_nil)) z z) (ev_on z hc173 (ev_v z z (ev_on z hc173 (ev_den (.ptr 0 [.f 4, .e (Int.toNat x107)] none) z (d_idx_r (p := [.f 4]) z z hv174) (ev_on z hc173 (ev_v z (d_ld_p z (rget_of z (get_f z (get_i hv174))) z) (ev_on z hc173 (ev_v z z (ev_v z (d_pick_t z hc173 z) (ev_v z z (ev_off z hc175 (ev_off z hc175 (ev_off z hc175 (ev_off z hc175 (ev_v z (d_pick_f z hc175 z) (ev_v z z (ev_off z z (ev_off z z (ev_off z z (ev_off z z (ev_off z z (ev_off z z (ev_off z z (ev_v z (d_pick_f z z z) (ev_nil)))))))))))))))))))))))))))))))))))))) (joinQ_n false h (gc_to [] z z z z))
     ·exact wp_reg (nx' := 561) z (ev_den (.ptr 49 [] (some 1)) z z (ev_v z (d_ld_o z (rget_of z (get_nil)) z z) (ev_v z z (ev_v z z (ev_v z z (ev_off z hc173 (ev_off z hc173 (ev_off z hc173 (ev_off z hc173 (ev_off z hc173 (ev_off z hc173 (ev_off z hc173 (ev_off z hc173 (ev_v z (d_pick_f z hc173 z) (ev_v z z (ev_off z z (ev_off z z (ev_off z z (ev_off z z (ev_v z (d_pick_f z z z) (ev_v z z (ev_off z z (ev_off z z (ev_off z z (ev_off z z (ev_off z z (ev_off z z (ev_off z z (ev_v z (d_pick_f z z z) (ev_nil)))))))))))))))))))))))))))))) (joinQ_n false h (gc_to [] z z z z))
  ·refine wp_cf z hc139 ?_
   replace h := Option.some.inj h
   subst h
   exact wp_exit (gcQ_e (seqQ_e (gcQ_e (loopQ_e (And.intro z (gc_to [] (e := [(0, .ptr 0 [] (some 0)), (2, .vw [] (.int .i64 ((Int.tmod (List.length c0.2.2.2.2.2.1 : Int) c0.1)))), (3, .vw [] (.int .i64 c0.2.2.2.2.2.2)), (4, .vw [] (.int .i64 x106))]) (ts := [some (.ptr (.agg [.int .i64 c0.1, .int .i64 c0.2.1, .int .i64 c0.2.2.1, .sh (.rows 3 (List.map e0 c0.2.2.2.1)), .ints .i64 x105, .rows 1 (List.map (T.ints .i64) c0.2.2.2.2.2.1), .int .i64 c0.2.2.2.2.2.2]))]) (n := 1) z z z z))))))
 ·intro e st183 hg183
  obtain ⟨x122, x123⟩ := w183
  obtain ⟨rfl, hg183⟩ := hg183
  refine blkQ_h (gcQ_n hg183 (gcQ_n (gc_to [] (e := [(0, .ptr 0 [] (some 0)), (2, .vw [] (.int .i64 ((Int.tmod (List.length c0.2.2.2.2.2.1 : Int) c0.1)))), (3, .vw [] (.int .i64 c0.2.2.2.2.2.2)), (4, .vw [] (.int .i64 x123))]) (ts := [some (.ptr (.agg [.int .i64 c0.1, .int .i64 c0.2.1, .int .i64 c0.2.2.1, .sh (.rows 3 (List.map e0 c0.2.2.2.1)), .ints .i64 x122, .rows 1 (List.map (T.ints .i64) c0.2.2.2.2.2.1), .int .i64 c0.2.2.2.2.2.2]))]) (n := 1) z z z z) (seqQ_n (?_))))
  refine wp_seq ?_
  obtain ⟨v184, hv184, h⟩ := bs h
  refine wp_reg (nx' := 225) z (ev_den (.ptr 0 [] (some 0)) z z (ev_den (.ptr 0 [] (some 0)) z z (ev_den (.ptr 0 [] (some 0)) z z (ev_den (.ptr 0 [] (some 5)) z z (ev_den (.ref 0 [.f 5] _ _ _) z (d_ld_o z (rget_of z (get_nil)) z cell_r) (ev_v z z (ev_v z z (ev_v z z (ev_new (.ref 129 [] 1 0 3) (.ints .i64 (([c0.2.2.2.2.2.2, (Int.tmod (List.length c0.2.2.2.2.2.1 : Int) c0.1), x123] : List Int))) z z (ev_wr z (w_bsl [(.ref 129 _ _ _ _)] z z (absW_cons (absA_ref (abs_ref z (sub_i (xs := ([c0.2.2.2.2.2.2, (Int.tmod (List.length c0.2.2.2.2.2.1 : Int) c0.1), x123] : List Int))))) z (absW_nil))) (ev_wr z (w_app_r (xs := c0.2.2.2.2.2.1) (ys := (([([c0.2.2.2.2.2.2, (Int.tmod (List.length c0.2.2.2.2.2.1 : Int) c0.1), x123] : List Int)] : List (List Int)))) (e := (T.ints .i64)) (xv := (.ref 0 [.f 5] _ _ _)) (yv := (.ref 145 _ _ _ _)) 161 z z z (abs_ref z (sub_r (xs := ([([c0.2.2.2.2.2.2, (Int.tmod (List.length c0.2.2.2.2.2.1 : Int) c0.1), x123] : List Int)] : List (List Int))))) z (abs_refp (r := .ptr (.agg [.int .i64 c0.1, .int .i64 c0.2.1, .int .i64 c0.2.2.1, .sh (.rows 3 (List.map e0 c0.2.2.2.1)), .ints .i64 x122, .rows 1 (List.map (T.ints .i64) c0.2.2.2.2.2.1), .int .i64 c0.2.2.2.2.2.2])) z (get_f z (get_nil)) sub_r (rput_p (put_f z (put_nil)))) hv184 z) (ev_den (.ptr 0 [] (some 0)) z z (ev_den (.ptr 0 [] (some 5)) z z (ev_wr0 z (w_st_o z z (st1_of (abs_ref z sub_r) z z (get_f z (get_nil)) z (rput_p (put_f z (put_nil))))) (ev_nil))))))))))))))) (seqQ_n (?_))
  replace h := Option.some.inj h
  subst h
  exact wp_reg (nx' := 433) z (ev_den (.ptr 0 [] (some 0)) z z (ev_v z z (ev_v z z (ev_v z z (ev_den (.ptr 0 [] (some 0)) z z (ev_den (.ptr 0 [] (some 0)) z z (ev_den (.ptr 0 [] (some 0)) z z (ev_den (.ptr 0 [] (some 2)) z z (ev_v z (d_ld_o z (rget_of z (get_nil)) z z) (ev_v z z (ev_den (.ptr 0 [] (some 0)) z z (ev_den (.ptr 0 [] (some 6)) z z (ev_wr0 z (w_st_o z z (st1_of z z z (get_f z (get_nil)) z (rput_p (put_f z (put_nil))))) (ev_nil)))))))))))))) (qf_n ((outs_ok (vs := []) z (absW_nil) z z)))
noncomputable def spec_tkRun_all_j2 (x72 : Int) (x73 : Int) (x74 : Int) (x75 : List (Int × Int × Int)) (x76 : List Int) (x77 : List (List Int)) (x78 : Int) (x79 : Int) : Bool → Option ((Int × Int × Int × (List (Int × Int × Int)) × (List Int) × (List (List Int)) × Int × Int) ⊕ (Int × Int × Int × (List (Int × Int × Int)) × (List Int) × (List (List Int)) × Int)) := fun x119 =>
if x119 = true then
(spec_tkRun_visit ((x72, x73, x74, x75, x76, x77, x78))).bind fun v123 =>
some (.inl (v123.1, v123.2.1, v123.2.2.1, v123.2.2.2.1, v123.2.2.2.2.1, v123.2.2.2.2.2.1, v123.2.2.2.2.2.2, (w64 (x79 + (1 : Int)))))
else
some (.inr (x72, x73, x74, x75, x76, x77, x78))
noncomputable def spec_tkRun_all_s1 : (Int × Int × Int × (List (Int × Int × Int)) × (List Int) × (List (List Int)) × Int × Int) → Option ((Int × Int × Int × (List (Int × Int × Int)) × (List Int) × (List (List Int)) × Int × Int) ⊕ (Int × Int × Int × (List (Int × Int × Int)) × (List Int) × (List (List Int)) × Int)) := fun (x72, x73, x74, x75, x76, x77, x78, x79) =>
if (decide (x79 < (40000 : Int))) = true then
(spec_l1Has x76 ((-1 : Int))).bind fun v140 =>
spec_tkRun_all_j2 x72 x73 x74 x75 x76 x77 x78 x79 v140
else
spec_tkRun_all_j2 x72 x73 x74 x75 x76 x77 x78 x79 false
noncomputable def spec_tkRun_all_l1 : (Int × Int × Int × (List (Int × Int × Int)) × (List Int) × (List (List Int)) × Int × Int) → Option (Int × Int × Int × (List (Int × Int × Int)) × (List Int) × (List (List Int)) × Int) := iter (spec_tkRun_all_s1)
noncomputable def spec_tkRun_all (c0 : Int × Int × Int × (List (Int × Int × Int)) × (List Int) × (List (List Int)) × Int) : Option ((Int × Int × Int × (List (Int × Int × Int)) × (List Int) × (List (List Int)) × Int)) :=
(spec_tkRun_all_l1 (c0.1, c0.2.1, c0.2.2.1, c0.2.2.2.1, c0.2.2.2.2.1, c0.2.2.2.2.2.1, c0.2.2.2.2.2.2, (0 : Int))).bind fun (x93, x94, x95, x96, x97, x98, x99) =>
some (x93, x94, x95, x96, x97, x98, x99)
theorem spec_tkRun_all_ok {c0 : Int × Int × Int × (List (Int × Int × Int)) × (List Int) × (List (List Int)) × Int} {o : (Int × Int × Int × (List (Int × Int × Int)) × (List Int) × (List (List Int)) × Int)} (h : spec_tkRun_all c0 = some o) : RN 74 [.ref 0] [.ptr (.agg [.int .i64 c0.1, .int .i64 c0.2.1, .int .i64 c0.2.2.1, .sh (.rows 3 (List.map e0 c0.2.2.2.1)), .ints .i64 c0.2.2.2.2.1, .rows 1 (List.map (T.ints .i64) c0.2.2.2.2.2.1), .int .i64 c0.2.2.2.2.2.2])] = some (.tup [], [.ptr (.agg [.int .i64 o.1, .int .i64 o.2.1, .int .i64 o.2.2.1, .sh (.rows 3 (List.map e0 o.2.2.2.1)), .ints .i64 o.2.2.2.2.1, .rows 1 (List.map (T.ints .i64) o.2.2.2.2.2.1), .int .i64 o.2.2.2.2.2.2])]) := by
 refine fn_run (o := o) (nr := 1) (F := k74) (st := ⟨entry 0 [.ptr 0 [] (some 0)], fun n => ([.ptr (.agg [.int .i64 c0.1, .int .i64 c0.2.1, .int .i64 c0.2.2.1, .sh (.rows 3 (List.map e0 c0.2.2.2.1)), .ints .i64 c0.2.2.2.2.1, .rows 1 (List.map (T.ints .i64) c0.2.2.2.2.2.1), .int .i64 c0.2.2.2.2.2.2])] : List T)[n]?, 1⟩) (fun (o : (Int × Int × Int × (List (Int × Int × Int)) × (List Int) × (List (List Int)) × Int)) => (.tup [], [.ptr (.agg [.int .i64 o.1, .int .i64 o.2.1, .int .i64 o.2.2.1, .sh (.rows 3 (List.map e0 o.2.2.2.1)), .ints .i64 o.2.2.2.2.1, .rows 1 (List.map (T.ints .i64) o.2.2.2.2.2.1), .int .i64 o.2.2.2.2.2.2])])) z fns_74 z z z ?_
 refine wp_seq ?_
 refine wp_gc ?_
 refine wp_reg (nx' := 17) z (ev_v z z (ev_nil)) (gcQ_n (gc_to [] (e := [(0, .ptr 0 [] (some 0)), (2, .vw [] (.int .i64 ((0 : Int))))]) (ts := [some (.ptr (.agg [.int .i64 c0.1, .int .i64 c0.2.1, .int .i64 c0.2.2.1, .sh (.rows 3 (List.map e0 c0.2.2.2.1)), .ints .i64 c0.2.2.2.2.1, .rows 1 (List.map (T.ints .i64) c0.2.2.2.2.2.1), .int .i64 c0.2.2.2.2.2.2]))]) (n := 1) z z z z) (seqQ_n (?_)))
 refine wp_gc ?_
 refine wp_blk ?_
 obtain ⟨w143, hw143, h⟩ := bs h
 refine wp_mono (wp_loop (fun ((x72, x73, x74, x75, x76, x77, x78, x79) : Int × Int × Int × (List (Int × Int × Int)) × (List Int) × (List (List Int)) × Int × Int) => (⟨al .dead [(0, .ptr 0 [] (some 0)), (2, .vw [] (.int .i64 x79))], hl [some (.ptr (.agg [.int .i64 x72, .int .i64 x73, .int .i64 x74, .sh (.rows 3 (List.map e0 x75)), .ints .i64 x76, .rows 1 (List.map (T.ints .i64) x77), .int .i64 x78]))], 1⟩ : St)) (fun ((x93, x94, x95, x96, x97, x98, x99) : Int × Int × Int × (List (Int × Int × Int)) × (List Int) × (List (List Int)) × Int) e st => e = .exit 0 ∧ gc 1 [] st = ⟨al .dead [], hl [some (.ptr (.agg [.int .i64 x93, .int .i64 x94, .int .i64 x95, .sh (.rows 3 (List.map e0 x96)), .ints .i64 x97, .rows 1 (List.map (T.ints .i64) x98), .int .i64 x99]))], 1⟩) hw143 ?_) ?_
 ·rintro ⟨x72, x73, x74, x75, x76, x77, x78, x79⟩ o h
  refine wp_gc ?_
  refine wp_seq ?_
  refine wp_gc ?_
  refine wp_seq ?_
  refine wp_join (spec_tkRun_all_j2 x72 x73 x74 x75 x76 x77 x78 x79) (fun (x119 : Bool) => (⟨al .dead [(0, .ptr 0 [] (some 0)), (2, .vw [] (.int .i64 x79)), (11, .vw [] (.bool x119))], hl [some (.ptr (.agg [.int .i64 x72, .int .i64 x73, .int .i64 x74, .sh (.rows 3 (List.map e0 x75)), .ints .i64 x76, .rows 1 (List.map (T.ints .i64) x77), .int .i64 x78]))], 1⟩ : St)) ?_ ?_
  ·rintro x119 o h
   unfold spec_tkRun_all_j2 at h
   refine seqQ_n (?_)
   rcases its h with ⟨hc120, h⟩ | ⟨hc120, h⟩
   ·refine wp_ct z hc120 ?_
    refine wp_skip (gcQ_n (gc_to [] (e := [(0, .ptr 0 [] (some 0)), (2, .vw [] (.int .i64 x79))]) (ts := [some (.ptr (.agg [.int .i64 x72, .int .i64 x73, .int .i64 x74, .sh (.rows 3 (List.map e0 x75)), .ints .i64 x76, .rows 1 (List.map (T.ints .i64) x77), .int .i64 x78]))]) (n := 1) z z z z) (seqQ_n (?_)))
    refine wp_seq ?_
    refine wp_gc ?_
    refine wp_gc ?_
    refine wp_blk ?_
    obtain ⟨v123, hv123, h⟩ := bs h
    refine wp_reg (nx' := 33) z (ev_den (.ptr 0 [] (some 0)) z z (ev_call1 [(.ptr 0 [] (some 0))] z (call_okt (call_ok (rs := [0]) (rd := []) z z z z (argL_cons z (argL_nil)) z z (spec_tkRun_visit_ok hv123) z z z (bindR_t (bindL_nil)) z)) (ev_nil))) (blkQ_n (gcQ_n (gc_to [] (e := [(0, .ptr 0 [] (some 0)), (2, .vw [] (.int .i64 x79))]) (ts := [some (.ptr (.agg [.int .i64 v123.1, .int .i64 v123.2.1, .int .i64 v123.2.2.1, .sh (.rows 3 (List.map e0 v123.2.2.2.1)), .ints .i64 v123.2.2.2.2.1, .rows 1 (List.map (T.ints .i64) v123.2.2.2.2.2.1), .int .i64 v123.2.2.2.2.2.2]))]) (n := 1) z z z z) (gcQ_n (gc_to [] (e := [(0, .ptr 0 [] (some 0)), (2, .vw [] (.int .i64 x79))]) (ts := [some (.ptr (.agg [.int .i64 v123.1, .int .i64 v123.2.1, .int .i64 v123.2.2.1, .sh (.rows 3 (List.map e0 v123.2.2.2.1)), .ints .i64 v123.2.2.2.2.1, .rows 1 (List.map (T.ints .i64) v123.2.2.2.2.2.1), .int .i64 v123.2.2.2.2.2.2]))]) (n := 1) z z z z) (seqQ_n (?_)))))
    replace h := Option.some.inj h
    subst h
    exact wp_reg (nx' := 49) z (ev_v z z (ev_v z z (ev_v z z (ev_nil)))) (gcQ_n (gc_to [] (e := [(0, .ptr 0 [] (some 0)), (2, .vw [] (.int .i64 ((w64 (x79 + (1 : Int))))))]) (ts := [some (.ptr (.agg [.int .i64 v123.1, .int .i64 v123.2.1, .int .i64 v123.2.2.1, .sh (.rows 3 (List.map e0 v123.2.2.2.1)), .ints .i64 v123.2.2.2.2.1, .rows 1 (List.map (T.ints .i64) v123.2.2.2.2.2.1), .int .i64 v123.2.2.2.2.2.2]))]) (n := 1) z z z z) (loopQ_n z))
   ·refine wp_cf z hc120 ?_
    replace h := Option.some.inj h
    subst h
    exact wp_exit (gcQ_e (seqQ_e (gcQ_e (loopQ_e (And.intro z (gc_to [] (e := []) (ts := [some (.ptr (.agg [.int .i64 x72, .int .i64 x73, .int .i64 x74, .sh (.rows 3 (List.map e0 x75)), .ints .i64 x76, .rows 1 (List.map (T.ints .i64) x77), .int .i64 x78]))]) (n := 1) z z z z))))))
  ·rcases its h with ⟨hc139, h⟩ | ⟨hc139, h⟩
   ·obtain ⟨v140, hv140, h⟩ := bs h
    exact wp_reg (nx' := 145) z (ev_v z z (ev_v z z (ev_v z z (ev_on z hc139 (ev_den (.ptr 0 [] (some 0)) z z (ev_on z hc139 (ev_den (.ptr 0 [] (some 0)) z z (ev_on z hc139 (ev_den (.ptr 0 [] (some 4)) z z (ev_on z hc139 (ev_den (.ref 0 [.f 4] _ _ _) z (d_ld_o z (rget_of z (get_nil)) z z) (ev_on z hc139 (ev_call0 [(.ref 0 [.f 4] _ _ _), (.vw _ _)] z (call_okf (vs' := [(.ref 0 [.f 4] _ _ _), (.vw _ _)]) z (call_ok (rs := []) (rd := [0]) z z z z (argL_cons (argT_r (rget_of z (get_f z (get_nil))) sub_i) (argL_cons z (argL_nil))) z z (spec_l1Has_ok hv140) z z z z z)) (ev_v z (d_pick_t z hc139 z) (ev_nil))))))))))))))) (joinQ_n v140 h (gc_to [] z z z z))
   ·exact wp_reg (nx' := 145) z (ev_v z z (ev_v z z (ev_v z z (ev_off z hc139 (ev_off z hc139 (ev_off z hc139 (ev_off z hc139 (ev_off z hc139 (ev_v z (d_pick_f z hc139 z) (ev_nil)))))))))) (joinQ_n false h (gc_to [] z z z z))
 ·intro e st143 hg143
  obtain ⟨x93, x94, x95, x96, x97, x98, x99⟩ := w143
  obtain ⟨rfl, hg143⟩ := hg143
  replace h := Option.some.inj h
  subst h
  exact blkQ_h (gcQ_n hg143 (qf_n ((outs_ok (vs := []) z (absW_nil) z z))))
end Go.Proofs.Ytdblfocadcgmaaa.Ev.W7
