/- What functions of the program come to, as plain functions; no condition. -/
import Derived.Test.YtdblfocadcgmaaaW74
set_option linter.unusedVariables false
set_option linter.unusedSimpArgs false
set_option maxRecDepth 100000
set_option maxHeartbeats 4000000
set_option linter.unusedVariables false
namespace Go.Proofs.Ytdblfocadcgmaaa.Ev.W7
open Go
noncomputable def impl_FullCalls_s3 (p0 : Int × Int × Int) (p1 : Int) (x119 : Int) : ((List (Int × Int × Int)) × Int) → Option (((List (Int × Int × Int)) × Int) ⊕ ((List (Int × Int × Int)))) := fun (x187, x188) =>
if (decide (x188 < p1)) = true then
(nz? p0.1).bind fun u206 =>
(app? x187 (([((0 : Int), x119, (Int.tmod (w64 (x119 + (1 : Int))) p0.1))] : List (Int × Int × Int)))).bind fun v207 =>
some (.inl (v207, (w64 (x188 + (1 : Int)))))
else
some (.inr x187)
noncomputable def impl_FullCalls_l3 (p0 : Int × Int × Int) (p1 : Int) (x119 : Int) : ((List (Int × Int × Int)) × Int) → Option ((List (Int × Int × Int))) := iter (impl_FullCalls_s3 p0 p1 x119)
noncomputable def impl_FullCalls_s2 (p0 : Int × Int × Int) (p1 : Int) : ((List (Int × Int × Int)) × Int) → Option (((List (Int × Int × Int)) × Int) ⊕ ((List (Int × Int × Int)))) := fun (x118, x119) =>
if (decide (x119 < p0.1)) = true then
(impl_FullCalls_l3 p0 p1 x119 (x118, (0 : Int))).bind fun x194 =>
some (.inl (x194, (w64 (x119 + (1 : Int)))))
else
some (.inr x118)
noncomputable def impl_FullCalls_l2 (p0 : Int × Int × Int) (p1 : Int) : ((List (Int × Int × Int)) × Int) → Option ((List (Int × Int × Int))) := iter (impl_FullCalls_s2 p0 p1)
noncomputable def impl_FullCalls_j1 (p0 : Int × Int × Int) (p1 : Int) : Bool → Option (((List (Int × Int × Int)) × Bool)) := fun x46 =>
if x46 = true then
some ([], false)
else
(impl_FullCalls_l2 p0 p1 (([] : List (Int × Int × Int)), (0 : Int))).bind fun x134 =>
some (x134, true)
noncomputable def impl_FullCalls (p0 : Int × Int × Int) (p1 : Int) : Option (((List (Int × Int × Int)) × Bool)) :=
(impl_IsTokenRing p0).bind fun v216 =>
if (!v216) = true then
impl_FullCalls_j1 p0 p1 true
else
(impl_within p1 ((0 : Int)) ((10 : Int))).bind fun v219 =>
if (!v219) = true then
impl_FullCalls_j1 p0 p1 true
else
impl_FullCalls_j1 p0 p1 (decide ((w64 (p1 * p0.1)) > (20 : Int)))
theorem impl_FullCalls_ok {p0 : Int × Int × Int} {p1 : Int} {o : ((List (Int × Int × Int)) × Bool)} (h : impl_FullCalls p0 p1 = some o) : RN 16 [.agg [.int .i64 p0.1, .int .i64 p0.2.1, .int .i64 p0.2.2], .int .i64 p1] [] = some (.tup [.rows 3 (List.map e0 o.1), .bool o.2], []) := by
 refine fn_run (o := o) (nr := 0) (F := k16) (st := ⟨entry 0 [.agg [.vw [] (.int .i64 p0.1), .vw [] (.int .i64 p0.2.1), .vw [] (.int .i64 p0.2.2)], .vw [] (.int .i64 p1)], fun n => ([] : List T)[n]?, 0⟩) (fun (o : ((List (Int × Int × Int)) × Bool)) => (.tup [.rows 3 (List.map e0 o.1), .bool o.2], [])) z fns_16 z z z ?_
 refine wp_seq ?_
 refine wp_reg (nx' := 48) z (ev_wr z (w_box (sv := (.agg [(.vw _ _), (.vw _ _), (.vw _ _)])) z z (absW_cons z z (absW_cons z z (absW_cons z z (absW_nil))))) (ev_new (.ref 16 [] 3 0 0) (.rows 3 []) z z (ev_v z z (ev_nil)))) (seqQ_n (?_))
 refine wp_seq ?_
 refine wp_gc ?_
 refine wp_seq ?_
 refine wp_join (impl_FullCalls_j1 p0 p1) (fun (x46 : Bool) => (⟨al .dead [(1, .vw [] (.int .i64 p1)), (2, .ptr 0 [] (some 0)), (22, .vw [] (.bool x46))], hl [some (.ptr (.agg [.int .i64 p0.1, .int .i64 p0.2.1, .int .i64 p0.2.2]))], 1⟩ : St)) ?_ ?_
 ·rintro x46 o h
  unfold impl_FullCalls_j1 at h
  refine seqQ_n (?_)
  rcases its h with ⟨hc47, h⟩ | ⟨hc47, h⟩
  ·refine wp_ct z hc47 ?_
   refine wp_seq ?_
   refine wp_reg (nx' := 33) z (ev_new (.ref 1 [] 3 0 0) (.rows 3 []) z z (ev_v z z (ev_nil))) (seqQ_n (?_))
   replace h := Option.some.inj h
   subst h
   exact wp_ret (gcQ_r (seqQ_r (qf_r ((outs_ok (vs := [(.ref 1 _ _ _ _), (.vw _ _)]) z (absW_cons (retT_ref (abs_ref z sub_r)) z (absW_cons z z (absW_nil))) z z)))))
  ·refine wp_cf z hc47 ?_
   refine wp_skip (gcQ_n (gc_to [0] (e := [(1, .vw [] (.int .i64 p1)), (2, .ptr 0 [] (some 0))]) (ts := [some (.ptr (.agg [.int .i64 p0.1, .int .i64 p0.2.1, .int .i64 p0.2.2]))]) (n := 1) z z z z) (seqQ_n (?_)))
   refine wp_seq ?_
   refine wp_reg (nx' := 33) z (ev_new (.ref 1 [] 3 0 0) (.rows 3 (List.map e0 (([] : List (Int × Int × Int))))) z z (ev_den (.ref 1 _ _ _ _) z z (ev_nil))) (seqQ_n (?_))
   refine wp_seq ?_
   refine wp_gc ?_
   refine wp_seq ?_
   refine wp_gc ?_
   refine wp_reg (nx' := 81) z (ev_den (.ptr 0 [] (some 0)) z z (ev_v z (d_ld_o z (rget_of z (get_nil)) z z) (ev_v z z (ev_nil)))) (gcQ_n (gc_to [0, 1] (e := [(1, .vw [] (.int .i64 p1)), (2, .ptr 0 [] (some 0)), (6, .ref 1 [] 3 0 (List.length (([] : List (Int × Int × Int))))), (25, .vw [] (.int .i64 p0.1)), (26, .vw [] (.int .i64 ((0 : Int))))]) (ts := [some (.ptr (.agg [.int .i64 p0.1, .int .i64 p0.2.1, .int .i64 p0.2.2])), some (.rows 3 (List.map e0 (([] : List (Int × Int × Int)))))]) (n := 2) z z z z) (seqQ_n (?_)))
   refine wp_gc ?_
   refine wp_blk ?_
   obtain ⟨x134, hw215, h⟩ := bs h
   refine wp_mono (wp_loop (fun ((x118, x119) : (List (Int × Int × Int)) × Int) => (⟨al .dead [(1, .vw [] (.int .i64 p1)), (2, .ptr 0 [] (some 0)), (6, .ref 1 [] 3 0 (List.length x118)), (25, .vw [] (.int .i64 p0.1)), (26, .vw [] (.int .i64 x119))], hl [some (.ptr (.agg [.int .i64 p0.1, .int .i64 p0.2.1, .int .i64 p0.2.2])), some (.rows 3 (List.map e0 x118))], 2⟩ : St)) (fun (x134 : (List (Int × Int × Int))) e st => e = .exit 0 ∧ gc 0 [6] st = ⟨al .dead [(6, .ref 0 [] 3 0 (List.length x134))], hl [some (.rows 3 (List.map e0 x134))], 1⟩) hw215 ?_) ?_
   ·rintro ⟨x118, x119⟩ o h
    refine wp_gc ?_
    refine wp_seq ?_
    refine wp_reg (nx' := 18) z (ev_v z z (ev_nil)) (seqQ_n (?_))
    refine wp_seq ?_
    refine wp_gc ?_
    rcases its h with ⟨hc150, h⟩ | ⟨hc150, h⟩
    ·refine wp_ct z hc150 ?_
     refine wp_skip (gcQ_n (gc_to [0, 1] (e := [(1, .vw [] (.int .i64 p1)), (2, .ptr 0 [] (some 0)), (6, .ref 1 [] 3 0 (List.length x118)), (25, .vw [] (.int .i64 p0.1)), (26, .vw [] (.int .i64 x119))]) (ts := [some (.ptr (.agg [.int .i64 p0.1, .int .i64 p0.2.1, .int .i64 p0.2.2])), some (.rows 3 (List.map e0 x118))]) (n := 2) z z z z) (seqQ_n (?_)))
     refine wp_seq ?_
     refine wp_gc ?_
     refine wp_gc ?_
     refine wp_blk ?_
     refine wp_seq ?_
     refine wp_reg (nx' := 34) z (ev_v z z (ev_v z z (ev_nil))) (seqQ_n (?_))
     refine wp_seq ?_
     refine wp_gc ?_
     refine wp_reg (nx' := 66) z (ev_v z z (ev_v z z (ev_nil))) (gcQ_n (gc_to [0, 1] (e := [(1, .vw [] (.int .i64 p1)), (2, .ptr 0 [] (some 0)), (6, .ref 1 [] 3 0 (List.length x118)), (7, .vw [] (.int .i64 x119)), (25, .vw [] (.int .i64 p0.1)), (26, .vw [] (.int .i64 x119)), (29, .vw [] (.int .i64 p1)), (30, .vw [] (.int .i64 ((0 : Int))))]) (ts := [some (.ptr (.agg [.int .i64 p0.1, .int .i64 p0.2.1, .int .i64 p0.2.2])), some (.rows 3 (List.map e0 x118))]) (n := 2) z z z z) (seqQ_n (?_)))
     refine wp_gc ?_
     refine wp_blk ?_
     obtain ⟨x194, hw211, h⟩ := bs h
     refine wp_mono (wp_loop (fun ((x187, x188) : (List (Int × Int × Int)) × Int) => (⟨al .dead [(1, .vw [] (.int .i64 p1)), (2, .ptr 0 [] (some 0)), (6, .ref 1 [] 3 0 (List.length x187)), (7, .vw [] (.int .i64 x119)), (25, .vw [] (.int .i64 p0.1)), (26, .vw [] (.int .i64 x119)), (29, .vw [] (.int .i64 p1)), (30, .vw [] (.int .i64 x188))], hl [some (.ptr (.agg [.int .i64 p0.1, .int .i64 p0.2.1, .int .i64 p0.2.2])), some (.rows 3 (List.map e0 x187))], 2⟩ : St)) (fun (x194 : (List (Int × Int × Int))) e st => e = .exit 2 ∧ gc 0 [1, 2, 6, 25, 26] st = ⟨al .dead [(1, .vw [] (.int .i64 p1)), (2, .ptr 0 [] (some 0)), (6, .ref 1 [] 3 0 (List.length x194)), (25, .vw [] (.int .i64 p0.1)), (26, .vw [] (.int .i64 x119))], hl [some (.ptr (.agg [.int .i64 p0.1, .int .i64 p0.2.1, .int .i64 p0.2.2])), some (.rows 3 (List.map e0 x194))], 2⟩) hw211 ?_) ?_
     ·rintro ⟨x187, x188⟩ o h
      refine wp_gc ?_
      refine wp_seq ?_
      refine wp_reg (nx' := 18) z (ev_v z z (ev_nil)) (seqQ_n (?_))
      refine wp_seq ?_
      refine wp_gc ?_
      rcases its h with ⟨hc201, h⟩ | ⟨hc201, h⟩
      ·refine wp_ct z hc201 ?_
       refine wp_skip (gcQ_n (gc_to [0, 1] (e := [(1, .vw [] (.int .i64 p1)), (2, .ptr 0 [] (some 0)), (6, .ref 1 [] 3 0 (List.length x187)), (7, .vw [] (.int .i64 x119)), (25, .vw [] (.int .i64 p0.1)), (26, .vw [] (.int .i64 x119)), (29, .vw [] (.int .i64 p1)), (30, .vw [] (.int .i64 x188))]) (ts := [some (.ptr (.agg [.int .i64 p0.1, .int .i64 p0.2.1, .int .i64 p0.2.2])), some (.rows 3 (List.map e0 x187))]) (n := 2) z z z z) (seqQ_n (?_)))
       refine wp_seq ?_
       refine wp_gc ?_
       refine wp_gc ?_
       refine wp_blk ?_
       obtain ⟨u206, hu206, h⟩ := bs h
       obtain ⟨v207, hv207, h⟩ := bs h
       refine wp_reg (nx' := 178) z (ev_den (.ref 1 _ _ _ _) z z (ev_v z z (ev_v z z (ev_v z z (ev_den (.ptr 0 [] (some 0)) z z (ev_v z (d_ld_o z (rget_of z (get_nil)) z z) (ev_v z (d_rem z z hu206) (ev_den (.agg [(.vw _ _), (.vw _ _), (.vw _ _)]) z z (ev_new (.ref 130 [] 3 0 1) (.rows 3 (List.map e0 (([((0 : Int), x119, (Int.tmod (w64 (x119 + (1 : Int))) p0.1))] : List (Int × Int × Int))))) z z (ev_wr z (w_app_r (xs := x187) (ys := (([((0 : Int), x119, (Int.tmod (w64 (x119 + (1 : Int))) p0.1))] : List (Int × Int × Int)))) (e := e0) (xv := (.ref 1 _ _ _ _)) (yv := (.ref 130 _ _ _ _)) 1 z z z (abs_ref z (sub_r (xs := ([((0 : Int), x119, (Int.tmod (w64 (x119 + (1 : Int))) p0.1))] : List (Int × Int × Int))))) z (abs_ref z sub_r) hv207 z) (ev_den (.ref 1 _ _ _ _) z z (ev_nil)))))))))))) (blkQ_n (gcQ_n (gc_to [0, 1] (e := [(1, .vw [] (.int .i64 p1)), (2, .ptr 0 [] (some 0)), (6, .ref 1 [] 3 0 (List.length v207)), (7, .vw [] (.int .i64 x119)), (25, .vw [] (.int .i64 p0.1)), (26, .vw [] (.int .i64 x119)), (29, .vw [] (.int .i64 p1)), (30, .vw [] (.int .i64 x188))]) (ts := [some (.ptr (.agg [.int .i64 p0.1, .int .i64 p0.2.1, .int .i64 p0.2.2])), some (.rows 3 (List.map e0 v207))]) (n := 2) z z z z) (gcQ_n (gc_to [0, 1] (e := [(1, .vw [] (.int .i64 p1)), (2, .ptr 0 [] (some 0)), (6, .ref 1 [] 3 0 (List.length v207)), (7, .vw [] (.int .i64 x119)), (25, .vw [] (.int .i64 p0.1)), (26, .vw [] (.int .i64 x119)), (29, .vw [] (.int .i64 p1)), (30, .vw [] (.int .i64 x188))]) (ts := [some (.ptr (.agg [.int .i64 p0.1, .int .i64 p0.2.1, .int .i64 p0.2.2])), some (.rows 3 (List.map e0 v207))]) (n := 2) z z z z) (seqQ_n (?_)))))
       replace h := Option.some.inj h
       subst h
       exact wp_reg (nx' := 34) z (ev_v z z (ev_v z z (ev_nil))) (gcQ_n (gc_to [0, 1] (e := [(1, .vw [] (.int .i64 p1)), (2, .ptr 0 [] (some 0)), (6, .ref 1 [] 3 0 (List.length v207)), (7, .vw [] (.int .i64 x119)), (25, .vw [] (.int .i64 p0.1)), (26, .vw [] (.int .i64 x119)), (29, .vw [] (.int .i64 p1)), (30, .vw [] (.int .i64 ((w64 (x188 + (1 : Int))))))]) (ts := [some (.ptr (.agg [.int .i64 p0.1, .int .i64 p0.2.1, .int .i64 p0.2.2])), some (.rows 3 (List.map e0 v207))]) (n := 2) z z z z) (loopQ_n z))
      ·refine wp_cf z hc201 ?_
       replace h := Option.some.inj h
       subst h
       exact wp_exit (gcQ_e (seqQ_e (gcQ_e (loopQ_e (And.intro z (gc_to [0, 1] (e := [(1, .vw [] (.int .i64 p1)), (2, .ptr 0 [] (some 0)), (6, .ref 1 [] 3 0 (List.length x187)), (25, .vw [] (.int .i64 p0.1)), (26, .vw [] (.int .i64 x119))]) (ts := [some (.ptr (.agg [.int .i64 p0.1, .int .i64 p0.2.1, .int .i64 p0.2.2])), some (.rows 3 (List.map e0 x187))]) (n := 2) z z z z))))))
     ·intro e st211 hg211
      obtain ⟨rfl, hg211⟩ := hg211
      refine blkQ_h (gcQ_n hg211 (blkQ_n (gcQ_n (gc_to [0, 1] (e := [(1, .vw [] (.int .i64 p1)), (2, .ptr 0 [] (some 0)), (6, .ref 1 [] 3 0 (List.length x194)), (25, .vw [] (.int .i64 p0.1)), (26, .vw [] (.int .i64 x119))]) (ts := [some (.ptr (.agg [.int .i64 p0.1, .int .i64 p0.2.1, .int .i64 p0.2.2])), some (.rows 3 (List.map e0 x194))]) (n := 2) z z z z) (gcQ_n (gc_to [0, 1] (e := [(1, .vw [] (.int .i64 p1)), (2, .ptr 0 [] (some 0)), (6, .ref 1 [] 3 0 (List.length x194)), (25, .vw [] (.int .i64 p0.1)), (26, .vw [] (.int .i64 x119))]) (ts := [some (.ptr (.agg [.int .i64 p0.1, .int .i64 p0.2.1, .int .i64 p0.2.2])), some (.rows 3 (List.map e0 x194))]) (n := 2) z z z z) (seqQ_n (?_))))))
      replace h := Option.some.inj h
      subst h
      exact wp_reg (nx' := 34) z (ev_v z z (ev_v z z (ev_nil))) (gcQ_n (gc_to [0, 1] (e := [(1, .vw [] (.int .i64 p1)), (2, .ptr 0 [] (some 0)), (6, .ref 1 [] 3 0 (List.length x194)), (25, .vw [] (.int .i64 p0.1)), (26, .vw [] (.int .i64 ((w64 (x119 + (1 : Int))))))]) (ts := [some (.ptr (.agg [.int .i64 p0.1, .int .i64 p0.2.1, .int .i64 p0.2.2])), some (.rows 3 (List.map e0 x194))]) (n := 2) z z z z) (loopQ_n z))
    ·refine wp_cf z hc150 ?_
     replace h := Option.some.inj h
     subst h
     exact wp_exit (gcQ_e (seqQ_e (gcQ_e (loopQ_e (And.intro z (gc_to [1] (e := [(6, .ref 0 [] 3 0 (List.length x118))]) (ts := [some (.rows 3 (List.map e0 x118))]) (n := 1) z z z z))))))
   ·intro e st215 hg215
    obtain ⟨rfl, hg215⟩ := hg215
    refine blkQ_h (gcQ_n hg215 (gcQ_n (gc_to [0] (e := [(6, .ref 0 [] 3 0 (List.length x134))]) (ts := [some (.rows 3 (List.map e0 x134))]) (n := 1) z z z z) (seqQ_n (?_))))
    refine wp_seq ?_
    refine wp_reg (nx' := 49) z (ev_den (.ref 0 _ _ _ _) z z (ev_den (.ref 0 _ _ _ _) z z (ev_v z z (ev_nil)))) (seqQ_n (?_))
    replace h := Option.some.inj h
    subst h
    exact wp_ret (qf_r ((outs_ok (vs := [(.ref 0 _ _ _ _), (.vw _ _)]) z (absW_cons (retT_ref (abs_ref z sub_r)) z (absW_cons z z (absW_nil))) z z)))
 ·obtain ⟨v216, hv216, h⟩ := bs h
  rcases its h with ⟨hc217, h⟩ | ⟨hc217, h⟩
  ·exact wp_reg (nx' := 288) z (ev_den (.agg [(.vw _ _), (.vw _ _), (.vw _ _)]) z (d_ld_os z (rget_of z (get_nil)) z (cells_cons z (cells_cons z (cells_cons z (cells_nil))))) (ev_call0 [(.agg [(.vw _ _), (.vw _ _), (.vw _ _)])] z (call_okf (vs' := [(.agg [(.vw _ _), (.vw _ _), (.vw _ _)])]) z (call_ok (rs := []) (rd := []) z z z z (argL_cons (argT_a (argL_cons z (argL_cons z (argL_cons z (argL_nil))))) (argL_nil)) z z (impl_IsTokenRing_ok hv216) z z z z z)) (ev_v z z (ev_v z z (ev_off z hc217 (ev_off z hc217 (ev_off z hc217 (ev_v z (d_pick_t z hc217 z) (ev_v z z (ev_off z z (ev_off z z (ev_off z z (ev_off z z (ev_off z z (ev_v z (d_pick_t z z z) (ev_nil)))))))))))))))) (joinQ_n true h (gc_to [0] z z z z))
  ·obtain ⟨v219, hv219, h⟩ := bs h
   rcases its h with ⟨hc220, h⟩ | ⟨hc220, h⟩
   ·exact wp_reg (nx' := 288) z (ev_den (.agg [(.vw _ _), (.vw _ _), (.vw _ _)]) z (d_ld_os z (rget_of z (get_nil)) z (cells_cons z (cells_cons z (cells_cons z (cells_nil))))) (ev_call0 [(.agg [(.vw _ _), (.vw _ _), (.vw _ _)])] z (call_okf (vs' := [(.agg [(.vw _ _), (.vw _ _), (.vw _ _)])]) z (call_ok (rs := []) (rd := []) z z z z (argL_cons (argT_a (argL_cons z (argL_cons z (argL_cons z (argL_nil))))) (argL_nil)) z z (impl_IsTokenRing_ok hv216) z z z z z)) (ev_v z z (ev_v z z (ev_on z hc217 (ev_v z z (ev_on z hc217 (ev_call0 [(.vw _ _), (.vw _ _), (.vw _ _)] z (call_okf (vs' := [(.vw _ _), (.vw _ _), (.vw _ _)]) z (call_ok (rs := []) (rd := []) z z z z (argL_cons z (argL_cons z (argL_cons z (argL_nil)))) z z (impl_within_ok hv219) z z z z z)) (ev_on z hc217 (ev_v z z (ev_v z (d_pick_f z hc217 z) (ev_v z z (ev_off z hc220 (ev_off z hc220 (ev_off z hc220 (ev_off z hc220 (ev_off z hc220 (ev_v z (d_pick_t z hc220 z) (ev_nil))))))))))))))))))) (joinQ_n true h (gc_to [0] z z z z))
   ·exact wp_reg (nx' := 288) z (ev_den (.agg [(.vw _ _), (.vw _ _), (.vw _ _)]) z (d_ld_os z (rget_of z (get_nil)) z (cells_cons z (cells_cons z (cells_cons z (cells_nil))))) (ev_call0 [(.agg [(.vw _ _), (.vw _ _), (.vw _ _)])] z (call_okf (vs' := [(.agg [(.vw _ _), (.vw _ _), (.vw _ _)])]) z (call_ok (rs := []) (rd := []) z z z z (argL_cons (argT_a (argL_cons z (argL_cons z (argL_cons z (argL_nil))))) (argL_nil)) z z (impl_IsTokenRing_ok hv216) z z z z z)) (ev_v z z (ev_v z z (ev_on z hc217 (ev_v z z (ev_on z hc217 (ev_call0 [(.vw _ _), (.vw _ _), (.vw _ _)] z (call_okf (vs' := [(.vw _ _), (.vw _ _), (.vw _ _)]) z (call_ok (rs := []) (rd := []) z z z z (argL_cons z (argL_cons z (argL_cons z (argL_nil)))) z z (impl_within_ok hv219) z z z z z)) (ev_on z hc217 (ev_v z z (ev_v z (d_pick_f z hc217 z) (ev_v z z (ev_on z hc220 (ev_v z z (ev_on z hc220 (ev_den (.ptr 0 [] (some 0)) z z (ev_on z hc220 (ev_v z (d_ld_o z (rget_of z (get_nil)) z z) (ev_on z hc220 (ev_v z z (ev_on z hc220 (ev_v z z (ev_v z (d_pick_f z hc220 z) (ev_nil)))))))))))))))))))))))) (joinQ_n (decide ((w64 (p1 * p0.1)) > (20 : Int))) h (gc_to [0] z z z z))
noncomputable def spec_FullCalls_s3 (p0 : Int × Int × Int) (p1 : Int) (x119 : Int) : ((List (Int × Int × Int)) × Int) → Option (((List (Int × Int × Int)) × Int) ⊕ ((List (Int × Int × Int)))) := fun (x187, x188) =>
if (decide (x188 < p1)) = true then
(nz? p0.1).bind fun u206 =>
(app? x187 (([((0 : Int), x119, (Int.tmod (w64 (x119 + (1 : Int))) p0.1))] : List (Int × Int × Int)))).bind fun v207 =>
some (.inl (v207, (w64 (x188 + (1 : Int)))))
else
some (.inr x187)
noncomputable def spec_FullCalls_l3 (p0 : Int × Int × Int) (p1 : Int) (x119 : Int) : ((List (Int × Int × Int)) × Int) → Option ((List (Int × Int × Int))) := iter (spec_FullCalls_s3 p0 p1 x119)
noncomputable def spec_FullCalls_s2 (p0 : Int × Int × Int) (p1 : Int) : ((List (Int × Int × Int)) × Int) → Option (((List (Int × Int × Int)) × Int) ⊕ ((List (Int × Int × Int)))) := fun (x118, x119) =>
if (decide (x119 < p0.1)) = true then
(spec_FullCalls_l3 p0 p1 x119 (x118, (0 : Int))).bind fun x194 =>
some (.inl (x194, (w64 (x119 + (1 : Int)))))
else
some (.inr x118)
noncomputable def spec_FullCalls_l2 (p0 : Int × Int × Int) (p1 : Int) : ((List (Int × Int × Int)) × Int) → Option ((List (Int × Int × Int))) := iter (spec_FullCalls_s2 p0 p1)
noncomputable def spec_FullCalls_j1 (p0 : Int × Int × Int) (p1 : Int) : Bool → Option (((List (Int × Int × Int)) × Bool)) := fun x46 =>
if x46 = true then
some ([], false)
else
(spec_FullCalls_l2 p0 p1 ([], (0 : Int))).bind fun x134 =>
some (x134, true)
noncomputable def spec_FullCalls (p0 : Int × Int × Int) (p1 : Int) : Option (((List (Int × Int × Int)) × Bool)) :=
(spec_tkGood p0).bind fun v216 =>
if (!v216) = true then
spec_FullCalls_j1 p0 p1 true
else
(spec_l1In p1 ((0 : Int)) ((10 : Int))).bind fun v219 =>
if (!v219) = true then
spec_FullCalls_j1 p0 p1 true
else
spec_FullCalls_j1 p0 p1 (decide ((w64 (p0.1 * p1)) > (20 : Int)))
theorem spec_FullCalls_ok {p0 : Int × Int × Int} {p1 : Int} {o : ((List (Int × Int × Int)) × Bool)} (h : spec_FullCalls p0 p1 = some o) : RN 17 [.agg [.int .i64 p0.1, .int .i64 p0.2.1, .int .i64 p0.2.2], .int .i64 p1] [] = some (.tup [.rows 3 (List.map e0 o.1), .bool o.2], []) := by
 refine fn_run (o := o) (nr := 0) (F := k17) (st := ⟨entry 0 [.agg [.vw [] (.int .i64 p0.1), .vw [] (.int .i64 p0.2.1), .vw [] (.int .i64 p0.2.2)], .vw [] (.int .i64 p1)], fun n => ([] : List T)[n]?, 0⟩) (fun (o : ((List (Int × Int × Int)) × Bool)) => (.tup [.rows 3 (List.map e0 o.1), .bool o.2], [])) z fns_17 z z z ?_
 refine wp_seq ?_
 refine wp_reg (nx' := 48) z (ev_wr z (w_box (sv := (.agg [(.vw _ _), (.vw _ _), (.vw _ _)])) z z (absW_cons z z (absW_cons z z (absW_cons z z (absW_nil))))) (ev_new (.ref 16 [] 3 0 0) (.rows 3 []) z z (ev_v z z (ev_nil)))) (seqQ_n (?_))
 refine wp_seq ?_
 refine wp_gc ?_
 refine wp_seq ?_
 refine wp_join (spec_FullCalls_j1 p0 p1) (fun (x46 : Bool) => (⟨al .dead [(1, .vw [] (.int .i64 p1)), (2, .ptr 0 [] (some 0)), (23, .vw [] (.bool x46))], hl [some (.ptr (.agg [.int .i64 p0.1, .int .i64 p0.2.1, .int .i64 p0.2.2]))], 1⟩ : St)) ?_ ?_
 ·rintro x46 o h
  unfold spec_FullCalls_j1 at h
  refine seqQ_n (?_)
  rcases its h with ⟨hc47, h⟩ | ⟨hc47, h⟩
  ·refine wp_ct z hc47 ?_
   refine wp_seq ?_
   refine wp_reg (nx' := 33) z (ev_new (.ref 1 [] 3 0 0) (.rows 3 []) z z (ev_v z z (ev_nil))) (seqQ_n (?_))
   replace h := Option.some.inj h
   subst h
   exact wp_ret (gcQ_r (seqQ_r (qf_r ((outs_ok (vs := [(.ref 1 _ _ _ _), (.vw _ _)]) z (absW_cons (retT_ref (abs_ref z sub_r)) z (absW_cons z z (absW_nil))) z z)))))
  ·refine wp_cf z hc47 ?_
   refine wp_skip (gcQ_n (gc_to [0] (e := [(1, .vw [] (.int .i64 p1)), (2, .ptr 0 [] (some 0))]) (ts := [some (.ptr (.agg [.int .i64 p0.1, .int .i64 p0.2.1, .int .i64 p0.2.2]))]) (n := 1) z z z z) (seqQ_n (?_)))
   refine wp_seq ?_
   refine wp_reg (nx' := 17) z (ev_new (.ref 1 [] 3 0 0) (.rows 3 []) z z (ev_nil)) (seqQ_n (?_))
   refine wp_seq ?_
   refine wp_gc ?_
   refine wp_seq ?_
   refine wp_gc ?_
   refine wp_reg (nx' := 33) z (ev_v z z (ev_nil)) (gcQ_n (gc_to [0, 1] (e := [(1, .vw [] (.int .i64 p1)), (2, .ptr 0 [] (some 0)), (6, .ref 1 [] 3 0 0), (7, .vw [] (.int .i64 ((0 : Int))))]) (ts := [some (.ptr (.agg [.int .i64 p0.1, .int .i64 p0.2.1, .int .i64 p0.2.2])), some (.rows 3 (List.map e0 ([])))]) (n := 2) z z z z) (seqQ_n (?_)))
   refine wp_gc ?_
   refine wp_blk ?_
   obtain ⟨x134, hw215, h⟩ := bs h
   refine wp_mono (wp_loop (fun ((x118, x119) : (List (Int × Int × Int)) × Int) => (⟨al .dead [(1, .vw [] (.int .i64 p1)), (2, .ptr 0 [] (some 0)), (6, .ref 1 [] 3 0 (List.length x118)), (7, .vw [] (.int .i64 x119))], hl [some (.ptr (.agg [.int .i64 p0.1, .int .i64 p0.2.1, .int .i64 p0.2.2])), some (.rows 3 (List.map e0 x118))], 2⟩ : St)) (fun (x134 : (List (Int × Int × Int))) e st => e = .exit 0 ∧ gc 0 [6] st = ⟨al .dead [(6, .ref 0 [] 3 0 (List.length x134))], hl [some (.rows 3 (List.map e0 x134))], 1⟩) hw215 ?_) ?_
   ·rintro ⟨x118, x119⟩ o h
    refine wp_gc ?_
    refine wp_seq ?_
    refine wp_gc ?_
    refine wp_seq ?_
    refine wp_reg (nx' := 66) z (ev_v z z (ev_den (.ptr 0 [] (some 0)) z z (ev_v z (d_ld_o z (rget_of z (get_nil)) z z) (ev_v z z (ev_nil))))) (seqQ_n (?_))
    rcases its h with ⟨hc150, h⟩ | ⟨hc150, h⟩
    ·refine wp_ct z hc150 ?_
     refine wp_skip (gcQ_n (gc_to [0, 1] (e := [(1, .vw [] (.int .i64 p1)), (2, .ptr 0 [] (some 0)), (6, .ref 1 [] 3 0 (List.length x118)), (7, .vw [] (.int .i64 x119))]) (ts := [some (.ptr (.agg [.int .i64 p0.1, .int .i64 p0.2.1, .int .i64 p0.2.2])), some (.rows 3 (List.map e0 x118))]) (n := 2) z z z z) (seqQ_n (?_)))
     refine wp_seq ?_
     refine wp_gc ?_
     refine wp_gc ?_
     refine wp_blk ?_
     refine wp_seq ?_
     refine wp_gc ?_
     refine wp_reg (nx' := 18) z (ev_v z z (ev_nil)) (gcQ_n (gc_to [0, 1] (e := [(1, .vw [] (.int .i64 p1)), (2, .ptr 0 [] (some 0)), (6, .ref 1 [] 3 0 (List.length x118)), (7, .vw [] (.int .i64 x119)), (8, .vw [] (.int .i64 ((0 : Int))))]) (ts := [some (.ptr (.agg [.int .i64 p0.1, .int .i64 p0.2.1, .int .i64 p0.2.2])), some (.rows 3 (List.map e0 x118))]) (n := 2) z z z z) (seqQ_n (?_)))
     refine wp_gc ?_
     refine wp_blk ?_
     obtain ⟨x194, hw211, h⟩ := bs h
     refine wp_mono (wp_loop (fun ((x187, x188) : (List (Int × Int × Int)) × Int) => (⟨al .dead [(1, .vw [] (.int .i64 p1)), (2, .ptr 0 [] (some 0)), (6, .ref 1 [] 3 0 (List.length x187)), (7, .vw [] (.int .i64 x119)), (8, .vw [] (.int .i64 x188))], hl [some (.ptr (.agg [.int .i64 p0.1, .int .i64 p0.2.1, .int .i64 p0.2.2])), some (.rows 3 (List.map e0 x187))], 2⟩ : St)) (fun (x194 : (List (Int × Int × Int))) e st => e = .exit 2 ∧ gc 0 [1, 2, 6, 7] st = ⟨al .dead [(1, .vw [] (.int .i64 p1)), (2, .ptr 0 [] (some 0)), (6, .ref 1 [] 3 0 (List.length x194)), (7, .vw [] (.int .i64 x119))], hl [some (.ptr (.agg [.int .i64 p0.1, .int .i64 p0.2.1, .int .i64 p0.2.2])), some (.rows 3 (List.map e0 x194))], 2⟩) hw211 ?_) ?_
     ·rintro ⟨x187, x188⟩ o h
      refine wp_gc ?_
      refine wp_seq ?_
      refine wp_gc ?_
      refine wp_seq ?_
      refine wp_reg (nx' := 50) z (ev_v z z (ev_v z z (ev_v z z (ev_nil)))) (seqQ_n (?_))
      rcases its h with ⟨hc201, h⟩ | ⟨hc201, h⟩
      ·refine wp_ct z hc201 ?_
       refine wp_skip (gcQ_n (gc_to [0, 1] (e := [(1, .vw [] (.int .i64 p1)), (2, .ptr 0 [] (some 0)), (6, .ref 1 [] 3 0 (List.length x187)), (7, .vw [] (.int .i64 x119)), (8, .vw [] (.int .i64 x188))]) (ts := [some (.ptr (.agg [.int .i64 p0.1, .int .i64 p0.2.1, .int .i64 p0.2.2])), some (.rows 3 (List.map e0 x187))]) (n := 2) z z z z) (seqQ_n (?_)))
       refine wp_seq ?_
       refine wp_gc ?_
       refine wp_gc ?_
       refine wp_blk ?_
       obtain ⟨u206, hu206, h⟩ := bs h
       obtain ⟨v207, hv207, h⟩ := bs h
       refine wp_reg (nx' := 178) z (ev_den (.ref 1 _ _ _ _) z z (ev_v z z (ev_v z z (ev_v z z (ev_den (.ptr 0 [] (some 0)) z z (ev_v z (d_ld_o z (rget_of z (get_nil)) z z) (ev_v z (d_rem z z hu206) (ev_den (.agg [(.vw _ _), (.vw _ _), (.vw _ _)]) z z (ev_new (.ref 130 [] 3 0 1) (.rows 3 (List.map e0 (([((0 : Int), x119, (Int.tmod (w64 (x119 + (1 : Int))) p0.1))] : List (Int × Int × Int))))) z z (ev_wr z (w_app_r (xs := x187) (ys := (([((0 : Int), x119, (Int.tmod (w64 (x119 + (1 : Int))) p0.1))] : List (Int × Int × Int)))) (e := e0) (xv := (.ref 1 _ _ _ _)) (yv := (.ref 130 _ _ _ _)) 1 z z z (abs_ref z (sub_r (xs := ([((0 : Int), x119, (Int.tmod (w64 (x119 + (1 : Int))) p0.1))] : List (Int × Int × Int))))) z (abs_ref z sub_r) hv207 z) (ev_den (.ref 1 _ _ _ _) z z (ev_nil)))))))))))) (blkQ_n (gcQ_n (gc_to [0, 1] (e := [(1, .vw [] (.int .i64 p1)), (2, .ptr 0 [] (some 0)), (6, .ref 1 [] 3 0 (List.length v207)), (7, .vw [] (.int .i64 x119)), (8, .vw [] (.int .i64 x188))]) (ts := [some (.ptr (.agg [.int .i64 p0.1, .int .i64 p0.2.1, .int .i64 p0.2.2])), some (.rows 3 (List.map e0 v207))]) (n := 2) z z z z) (gcQ_n (gc_to [0, 1] (e := [(1, .vw [] (.int .i64 p1)), (2, .ptr 0 [] (some 0)), (6, .ref 1 [] 3 0 (List.length v207)), (7, .vw [] (.int .i64 x119)), (8, .vw [] (.int .i64 x188))]) (ts := [some (.ptr (.agg [.int .i64 p0.1, .int .i64 p0.2.1, .int .i64 p0.2.2])), some (.rows 3 (List.map e0 v207))]) (n := 2) z z z z) (seqQ_n (?_)))))
       replace h := Option.some.inj h
       subst h
       exact wp_reg (nx' := 50) z (ev_v z z (ev_v z z (ev_v z z (ev_nil)))) (gcQ_n (gc_to [0, 1] (e := [(1, .vw [] (.int .i64 p1)), (2, .ptr 0 [] (some 0)), (6, .ref 1 [] 3 0 (List.length v207)), (7, .vw [] (.int .i64 x119)), (8, .vw [] (.int .i64 ((w64 (x188 + (1 : Int))))))]) (ts := [some (.ptr (.agg [.int .i64 p0.1, .int .i64 p0.2.1, .int .i64 p0.2.2])), some (.rows 3 (List.map e0 v207))]) (n := 2) z z z z) (loopQ_n z))
      ·refine wp_cf z hc201 ?_
       replace h := Option.some.inj h
       subst h
       exact wp_exit (gcQ_e (seqQ_e (gcQ_e (loopQ_e (And.intro z (gc_to [0, 1] (e := [(1, .vw [] (.int .i64 p1)), (2, .ptr 0 [] (some 0)), (6, .ref 1 [] 3 0 (List.length x187)), (7, .vw [] (.int .i64 x119))]) (ts := [some (.ptr (.agg [.int .i64 p0.1, .int .i64 p0.2.1, .int .i64 p0.2.2])), some (.rows 3 (List.map e0 x187))]) (n := 2) z z z z))))))
     ·intro e st211 hg211
      obtain ⟨rfl, hg211⟩ := hg211
      refine blkQ_h (gcQ_n hg211 (blkQ_n (gcQ_n (gc_to [0, 1] (e := [(1, .vw [] (.int .i64 p1)), (2, .ptr 0 [] (some 0)), (6, .ref 1 [] 3 0 (List.length x194)), (7, .vw [] (.int .i64 x119))]) (ts := [some (.ptr (.agg [.int .i64 p0.1, .int .i64 p0.2.1, .int .i64 p0.2.2])), some (.rows 3 (List.map e0 x194))]) (n := 2) z z z z) (gcQ_n (gc_to [0, 1] (e := [(1, .vw [] (.int .i64 p1)), (2, .ptr 0 [] (some 0)), (6, .ref 1 [] 3 0 (List.length x194)), (7, .vw [] (.int .i64 x119))]) (ts := [some (.ptr (.agg [.int .i64 p0.1, .int .i64 p0.2.1, .int .i64 p0.2.2])), some (.rows 3 (List.map e0 x194))]) (n := 2) z z z z) (seqQ_n (?_))))))
      replace h := Option.some.inj h
      subst h
      exact wp_reg (nx' := 50) z (ev_v z z (ev_v z z (ev_v z z (ev_nil)))) (gcQ_n (gc_to [0, 1] (e := [(1, .vw [] (.int .i64 p1)), (2, .ptr 0 [] (some 0)), (6, .ref 1 [] 3 0 (List.length x194)), (7, .vw [] (.int .i64 ((w64 (x119 + (1 : Int))))))]) (ts := [some (.ptr (.agg [.int .i64 p0.1, .int .i64 p0.2.1, .int .i64 p0.2.2])), some (.rows 3 (List.map e0 x194))]) (n := 2) z z z z) (loopQ_n z))
    ·refine wp_cf z hc150 ?_
     replace h := Option.some.inj h
     subst h
     exact wp_exit (gcQ_e (seqQ_e (gcQ_e (loopQ_e (And.intro z (gc_to [1] (e := [(6, .ref 0 [] 3 0 (List.length x118))]) (ts := [some (.rows 3 (List.map e0 x118))]) (n := 1) z z z z))))))
   ·intro e st215 hg215
    obtain ⟨rfl, hg215⟩ := hg215
    refine blkQ_h (gcQ_n hg215 (gcQ_n (gc_to [0] (e := [(6, .ref 0 [] 3 0 (List.length x134))]) (ts := [some (.rows 3 (List.map e0 x134))]) (n := 1) z z z z) (seqQ_n (?_))))
    refine wp_seq ?_
    refine wp_reg (nx' := 49) z (ev_den (.ref 0 _ _ _ _) z z (ev_den (.ref 0 _ _ _ _) z z (ev_v z z (ev_nil)))) (seqQ_n (?_))
    replace h := Option.some.inj h
    subst h
    exact wp_ret (qf_r ((outs_ok (vs := [(.ref 0 _ _ _ _), (.vw _ _)]) z (absW_cons (retT_ref (abs_ref z sub_r)) z (absW_cons z z (absW_nil))) z z)))
 ·obtain ⟨v216, hv216, h⟩ := bs h
  rcases its h with ⟨hc217, h⟩ | ⟨hc217, h⟩
  ·exact wp_reg (nx' := 288) z (ev_den (.agg [(.vw _ _), (.vw _ _), (.vw _ _)]) z (d_ld_os z (rget_of z (get_nil)) z (cells_cons z (cells_cons z (cells_cons z (cells_nil))))) (ev_call0 [(.agg [(.vw _ _), (.vw _ _), (.vw _ _)])] z (call_okf (vs' := [(.agg [(.vw _ _), (.vw _ _), (.vw _ _)])]) z (call_ok (rs := []) (rd := []) z z z z (argL_cons (argT_a (argL_cons z (argL_cons z (argL_cons z (argL_nil))))) (argL_nil)) z z (spec_tkGood_ok hv216) z z z z z)) (ev_v z z (ev_v z z (ev_off z hc217 (ev_off z hc217 (ev_off z hc217 (ev_v z (d_pick_t z hc217 z) (ev_v z z (ev_off z z (ev_off z z (ev_off z z (ev_off z z (ev_off z z (ev_v z (d_pick_t z z z) (ev_nil)))))))))))))))) (joinQ_n true h (gc_to [0] z z z z))
  ·obtain ⟨v219, hv219, h⟩ := bs h
   rcases its h with ⟨hc220, h⟩ | ⟨hc220, h⟩
   ·exact wp_reg (nx' := 288) z (ev_den (.agg [(.vw _ _), (.vw _ _), (.vw _ _)]) z (d_ld_os z (rget_of z (get_nil)) z (cells_cons z (cells_cons z (cells_cons z (cells_nil))))) (ev_call0 [(.agg [(.vw _ _), (.vw _ _), (.vw _ _)])] z (call_okf (vs' := [(.agg [(.vw _ _), (.vw _ _), (.vw _ _)])]) z (call_ok (rs := []) (rd := []) z z z z (argL_cons (argT_a (argL_cons z (argL_cons z (argL_cons z (argL_nil))))) (argL_nil)) z z (spec_tkGood_ok hv216) z z z z z)) (ev_v z z (ev_v z z (ev_on z hc217 (ev_v z z (ev_on z hc217 (ev_call0 [(.vw _ _), (.vw _ _), (.vw _ _)] z (call_okf (vs' := [(.vw _ _), (.vw _ _), (.vw _ _)]) z (call_ok (rs := []) (rd := []) z z z z (argL_cons z (argL_cons z (argL_cons z (argL_nil)))) z z (spec_l1In_ok hv219) z z z z z)) (ev_on z hc217 (ev_v z z (ev_v z (d_pick_f z hc217 z) (ev_v z z (ev_off z hc220 (ev_off z hc220 (ev_off z hc220 (ev_off z hc220 (ev_off z hc220 (ev_v z (d_pick_t z hc220 z) (ev_nil))))))))))))))))))) (joinQ_n true h (gc_to [0] z z z z))
   ·exact wp_reg (nx' := 288) z (ev_den (.agg [(.vw _ _), (.vw _ _), (.vw _ _)]) z (d_ld_os z (rget_of z (get_nil)) z (cells_cons z (cells_cons z (cells_cons z (cells_nil))))) (ev_call0 [(.agg [(.vw _ _), (.vw _ _), (.vw _ _)])] z (call_okf (vs' := [(.agg [(.vw _ _), (.vw _ _), (.vw _ _)])]) z (call_ok (rs := []) (rd := []) z z z z (argL_cons (argT_a (argL_cons z (argL_cons z (argL_cons z (argL_nil))))) (argL_nil)) z z (spec_tkGood_ok hv216) z z z z z)) (ev_v z z (ev_v z z (ev_on z hc217 (ev_v z z (ev_on z hc217 (ev_call0 [(.vw _ _), (.vw _ _), (.vw _ _)] z (call_okf (vs' := [(.vw _ _), (.vw _ _), (.vw _ _)]) z (call_ok (rs := []) (rd := []) z z z z (argL_cons z (argL_cons z (argL_cons z (argL_nil)))) z z (spec_l1In_ok hv219) z z z z z)) (ev_on z hc217 (ev_v z z (ev_v z (d_pick_f z hc217 z) (ev_v z z (ev_on z hc220 (ev_den (.ptr 0 [] (some 0)) z z (ev_on z hc220 (ev_v z (d_ld_o z (rget_of z (get_nil)) z z) (ev_on z hc220 (ev_v z z (ev_on z hc220 (ev_v z z (ev_on z hc220 (ev_v z z (ev_v z (d_pick_f z hc220 z) (ev_nil)))))))))))))))))))))))) (joinQ_n (decide ((w64 (p0.1 * p1)) > (20 : Int))) h (gc_to [0] z z z z))
noncomputable def spec_DrawWaitBound (p0 : List Int) : Option (((Int × Int × Int) × Int)) :=
(spec_l1Cur_tokens ((p0, (0 : Int), (0 : Int)))).bind fun v3 =>
(spec_l1Cur_among (([(0 : Int), (1 : Int), (2 : Int), (5 : Int), (19 : Int), (100 : Int), (101 : Int), (-1 : Int)] : List Int)) v3.2).bind fun v4 =>
some (v3.1, v4.1)
theorem spec_DrawWaitBound_ok {p0 : List Int} {o : ((Int × Int × Int) × Int)} (h : spec_DrawWaitBound p0 = some o) : RN 29 [.ints .u8 p0] [] = some (.tup [.agg [.int .i64 o.1.1, .int .i64 o.1.2.1, .int .i64 o.1.2.2], .int .i64 o.2], []) := by
 refine fn_run (o := o) (nr := 0) (F := k29) (st := ⟨entry 0 [.vw [] (.ints .u8 p0)], fun n => ([] : List T)[n]?, 0⟩) (fun (o : ((Int × Int × Int) × Int)) => (.tup [.agg [.int .i64 o.1.1, .int .i64 o.1.2.1, .int .i64 o.1.2.2], .int .i64 o.2], [])) z fns_29 z z z ?_
 refine wp_seq ?_
 refine wp_reg (nx' := 32) z (ev_new (.ptr 0 [] (some 0)) (.ptr (.agg [.int .i64 ((0 : Int)), .int .i64 ((0 : Int)), .int .i64 ((0 : Int))])) z z (ev_v z z (ev_nil))) (seqQ_n (?_))
 refine wp_seq ?_
 refine wp_reg (nx' := 96) z (ev_v z z (ev_den (.agg [(.vw _ _), (.vw _ _), (.vw _ _)]) z z (ev_wr z (w_box (sv := (.agg [(.vw _ _), (.vw _ _), (.vw _ _)])) z z (absW_cons z z (absW_cons z z (absW_cons z z (absW_nil))))) (ev_den (.ptr 64 [] (some 0)) z z (ev_nil))))) (seqQ_n (?_))
 refine wp_seq ?_
 obtain ⟨v3, hv3, h⟩ := bs h
 obtain ⟨v4, hv4, h⟩ := bs h
 refine wp_reg (nx' := 208) z (ev_den (.ptr 64 [] (some 0)) z z (ev_call1 [(.ptr 64 [] (some 0))] z (call_okt (call_ok (rs := [64]) (rd := []) z z z z (argL_cons z (argL_nil)) z z (spec_l1Cur_tokens_ok hv3) z z z (bindR_a (bindL_cons z (bindL_cons z (bindL_cons z (bindL_nil))))) z)) (ev_den (.ptr 64 [] (some 0)) z z (ev_v z z (ev_call1 [(.ptr 64 [] (some 0)), (.vw _ _)] z (call_okt (call_ok (rs := [64]) (rd := []) z z z z (argL_cons z (argL_cons z (argL_nil))) z z (spec_l1Cur_among_ok hv4) z z z z z)) (ev_wr0 z (w_st_a z z z (stL_cons (st1_of z z z (get_f z (get_nil)) z (rput_p (put_f z (put_nil)))) z (stL_cons (st1_of z z z (get_f z (get_nil)) z (rput_p (put_f z (put_nil)))) z (stL_cons (st1_of z z z (get_f z (get_nil)) z (rput_p (put_f z (put_nil)))) z (stL_nil))))) (ev_v z z (ev_nil)))))))) (seqQ_n (?_))
 replace h := Option.some.inj h
 subst h
 exact wp_ret (qf_r ((outs_ok (vs := [(.agg [(.vw _ _), (.vw _ _), (.vw _ _)]), (.vw _ _)]) z (absW_cons (retT_agg (absW_cons z z (absW_cons z z (absW_cons z z (absW_nil))))) z (absW_cons z z (absW_nil))) z z)))
noncomputable def spec_DrawFullShares (p0 : List Int) : Option (((Int × Int × Int) × Int)) :=
(spec_DrawWaitBound p0).bind fun v2 =>
some v2
theorem spec_DrawFullShares_ok {p0 : List Int} {o : ((Int × Int × Int) × Int)} (h : spec_DrawFullShares p0 = some o) : RN 18 [.ints .u8 p0] [] = some (.tup [.agg [.int .i64 o.1.1, .int .i64 o.1.2.1, .int .i64 o.1.2.2], .int .i64 o.2], []) := by
 refine fn_run (o := o) (nr := 0) (F := k18) (st := ⟨entry 0 [.vw [] (.ints .u8 p0)], fun n => ([] : List T)[n]?, 0⟩) (fun (o : ((Int × Int × Int) × Int)) => (.tup [.agg [.int .i64 o.1.1, .int .i64 o.1.2.1, .int .i64 o.1.2.2], .int .i64 o.2], [])) z fns_18 z z z ?_
 refine wp_seq ?_
 refine wp_reg (nx' := 32) z (ev_new (.ptr 0 [] (some 0)) (.ptr (.agg [.int .i64 ((0 : Int)), .int .i64 ((0 : Int)), .int .i64 ((0 : Int))])) z z (ev_v z z (ev_nil))) (seqQ_n (?_))
 refine wp_seq ?_
 obtain ⟨v2, hv2, h⟩ := bs h
 refine wp_reg (nx' := 128) z (ev_v z z (ev_call0 [(.vw _ _)] z (call_okf (vs' := [(.vw _ _)]) z (call_ok (rs := []) (rd := []) z z z z (argL_cons z (argL_nil)) z z (spec_DrawWaitBound_ok hv2) z z z (bindR_t (bindL_cons (bindR_a (bindL_cons z (bindL_cons z (bindL_cons z (bindL_nil))))) (bindL_cons z (bindL_nil)))) z)) (ev_den (.agg [(.vw _ _), (.vw _ _), (.vw _ _)]) z z (ev_v z z (ev_wr0 z (w_st_a z z z (stL_cons (st1_of z z z (get_f z (get_nil)) z (rput_p (put_f z (put_nil)))) z (stL_cons (st1_of z z z (get_f z (get_nil)) z (rput_p (put_f z (put_nil)))) z (stL_cons (st1_of z z z (get_f z (get_nil)) z (rput_p (put_f z (put_nil)))) z (stL_nil))))) (ev_v z z (ev_nil))))))) (seqQ_n (?_))
 replace h := Option.some.inj h
 subst h
 exact wp_ret (qf_r ((outs_ok (vs := [(.agg [(.vw _ _), (.vw _ _), (.vw _ _)]), (.vw _ _)]) z (absW_cons (retT_agg (absW_cons z z (absW_cons z z (absW_cons z z (absW_nil))))) z (absW_cons z z (absW_nil))) z z)))
noncomputable def impl_FullShares_j1 (p0 : Int × Int × Int) (p1 : Int) : Bool → Option (((List Int) × Bool)) := fun x15 =>
if x15 = true then
some ([], false)
else
(slices_Repeat (([(w64 (p1 * p0.2.1))] : List Int)) p0.1).bind fun v17 =>
some (v17, true)
noncomputable def impl_FullShares (p0 : Int × Int × Int) (p1 : Int) : Option (((List Int) × Bool)) :=
(impl_IsTokenRing p0).bind fun v18 =>
if (!v18) = true then
impl_FullShares_j1 p0 p1 true
else
(impl_within p1 ((0 : Int)) ((100 : Int))).bind fun v21 =>
impl_FullShares_j1 p0 p1 (!v21)
theorem impl_FullShares_ok {p0 : Int × Int × Int} {p1 : Int} {o : ((List Int) × Bool)} (h : impl_FullShares p0 p1 = some o) : RN 19 [.agg [.int .i64 p0.1, .int .i64 p0.2.1, .int .i64 p0.2.2], .int .i64 p1] [] = some (.tup [.ints .i64 o.1, .bool o.2], []) := by
 refine fn_run (o := o) (nr := 0) (F := k19) (st := ⟨entry 0 [.agg [.vw [] (.int .i64 p0.1), .vw [] (.int .i64 p0.2.1), .vw [] (.int .i64 p0.2.2)], .vw [] (.int .i64 p1)], fun n => ([] : List T)[n]?, 0⟩) (fun (o : ((List Int) × Bool)) => (.tup [.ints .i64 o.1, .bool o.2], [])) z fns_19 z z z ?_
 refine wp_seq ?_
 refine wp_reg (nx' := 48) z (ev_wr z (w_box (sv := (.agg [(.vw _ _), (.vw _ _), (.vw _ _)])) z z (absW_cons z z (absW_cons z z (absW_cons z z (absW_nil))))) (ev_new (.ref 16 [] 1 0 0) (.ints .i64 []) z z (ev_v z z (ev_nil)))) (seqQ_n (?_))
 refine wp_seq ?_
 refine wp_gc ?_
 refine wp_seq ?_
 refine wp_join (impl_FullShares_j1 p0 p1) (fun (x15 : Bool) => (⟨al .dead [(1, .vw [] (.int .i64 p1)), (2, .ptr 0 [] (some 0)), (13, .vw [] (.bool x15))], hl [some (.ptr (.agg [.int .i64 p0.1, .int .i64 p0.2.1, .int .i64 p0.2.2]))], 1⟩ : St)) ?_ ?_
 ·rintro x15 o h
  unfold impl_FullShares_j1 at h
  refine seqQ_n (?_)
  rcases its h with ⟨hc16, h⟩ | ⟨hc16, h⟩
  ·refine wp_ct z hc16 ?_
   refine wp_seq ?_
   refine wp_reg (nx' := 33) z (ev_new (.ref 1 [] 1 0 0) (.ints .i64 []) z z (ev_v z z (ev_nil))) (seqQ_n (?_))
   replace h := Option.some.inj h
   subst h
   exact wp_ret (gcQ_r (seqQ_r (qf_r ((outs_ok (vs := [(.ref 1 _ _ _ _), (.vw _ _)]) z (absW_cons (retT_ref (abs_ref z sub_i)) z (absW_cons z z (absW_nil))) z z)))))
  ·refine wp_cf z hc16 ?_
   refine wp_skip (gcQ_n (gc_to [0] (e := [(1, .vw [] (.int .i64 p1)), (2, .ptr 0 [] (some 0))]) (ts := [some (.ptr (.agg [.int .i64 p0.1, .int .i64 p0.2.1, .int .i64 p0.2.2]))]) (n := 1) z z z z) (seqQ_n (?_)))
   refine wp_seq ?_
   obtain ⟨v17, hv17, h⟩ := bs h
   refine wp_reg (nx' := 161) z (ev_v z z (ev_den (.ptr 0 [] (some 1)) z z (ev_v z (d_ld_o z (rget_of z (get_nil)) z z) (ev_v z z (ev_v z z (ev_den (.ptr 0 [] (some 0)) z z (ev_v z (d_ld_o z (rget_of z (get_nil)) z z) (ev_call0 [(.vw _ _), (.vw _ _)] z (call_okf (vs' := [(.vw _ _), (.vw _ _)]) z (call_ok (rs := []) (rd := []) z z z z (argL_cons z (argL_cons z (argL_nil))) z z (slices_Repeat_ok hv17) z z z z z)) (ev_den (.ref 113 _ _ _ _) z z (ev_v z z (ev_nil))))))))))) (seqQ_n (?_))
   replace h := Option.some.inj h
   subst h
   exact wp_ret (qf_r ((outs_ok (vs := [(.ref 113 _ _ _ _), (.vw _ _)]) z (absW_cons (retT_ref (abs_ref z sub_i)) z (absW_cons z z (absW_nil))) z z)))
 ·obtain ⟨v18, hv18, h⟩ := bs h
  rcases its h with ⟨hc19, h⟩ | ⟨hc19, h⟩
  ·exact wp_reg (nx' := 176) z (ev_den (.agg [(.vw _ _), (.vw _ _), (.vw _ _)]) z (d_ld_os z (rget_of z (get_nil)) z (cells_cons z (cells_cons z (cells_cons z (cells_nil))))) (ev_call0 [(.agg [(.vw _ _), (.vw _ _), (.vw _ _)])] z (call_okf (vs' := [(.agg [(.vw _ _), (.vw _ _), (.vw _ _)])]) z (call_ok (rs := []) (rd := []) z z z z (argL_cons (argT_a (argL_cons z (argL_cons z (argL_cons z (argL_nil))))) (argL_nil)) z z (impl_IsTokenRing_ok hv18) z z z z z)) (ev_v z z (ev_v z z (ev_off z hc19 (ev_off z hc19 (ev_off z hc19 (ev_v z (d_pick_t z hc19 z) (ev_nil))))))))) (joinQ_n true h (gc_to [0] z z z z))
  ·obtain ⟨v21, hv21, h⟩ := bs h
   exact wp_reg (nx' := 176) z (ev_den (.agg [(.vw _ _), (.vw _ _), (.vw _ _)]) z (d_ld_os z (rget_of z (get_nil)) z (cells_cons z (cells_cons z (cells_cons z (cells_nil))))) (ev_call0 [(.agg [(.vw _ _), (.vw _ _), (.vw _ _)])] z (call_okf (vs' := [(.agg [(.vw _ _), (.vw _ _), (.vw _ _)])]) z (call_ok (rs := []) (rd := []) z z z z (argL_cons (argT_a (argL_cons z (argL_cons z (argL_cons z (argL_nil))))) (argL_nil)) z z (impl_IsTokenRing_ok hv18) z z z z z)) (ev_v z z (ev_v z z (ev_on z hc19 (ev_v z z (ev_on z hc19 (ev_call0 [(.vw _ _), (.vw _ _), (.vw _ _)] z (call_okf (vs' := [(.vw _ _), (.vw _ _), (.vw _ _)]) z (call_ok (rs := []) (rd := []) z z z z (argL_cons z (argL_cons z (argL_cons z (argL_nil)))) z z (impl_within_ok hv21) z z z z z)) (ev_on z hc19 (ev_v z z (ev_v z (d_pick_f z hc19 z) (ev_nil)))))))))))) (joinQ_n (!v21) h (gc_to [0] z z z z))
noncomputable def spec_FullShares_s2 (p0 : Int × Int × Int) (p1 : Int) : ((List Int) × Int) → Option (((List Int) × Int) ⊕ ((List Int))) := fun (x45, x46) =>
if (decide (x46 < p0.1)) = true then
(app? x45 (([(w64 (p1 * p0.2.1))] : List Int))).bind fun v60 =>
some (.inl (v60, (w64 (x46 + (1 : Int)))))
else
some (.inr x45)
noncomputable def spec_FullShares_l2 (p0 : Int × Int × Int) (p1 : Int) : ((List Int) × Int) → Option ((List Int)) := iter (spec_FullShares_s2 p0 p1)
noncomputable def spec_FullShares_j1 (p0 : Int × Int × Int) (p1 : Int) : Bool → Option (((List Int) × Bool)) := fun x23 =>
if x23 = true then
some ([], false)
else
(spec_FullShares_l2 p0 p1 ([], (0 : Int))).bind fun x51 =>
some (x51, true)
noncomputable def spec_FullShares (p0 : Int × Int × Int) (p1 : Int) : Option (((List Int) × Bool)) :=
(spec_tkGood p0).bind fun v65 =>
if (!v65) = true then
spec_FullShares_j1 p0 p1 true
else
(spec_l1In p1 ((0 : Int)) ((100 : Int))).bind fun v68 =>
spec_FullShares_j1 p0 p1 (!v68)
theorem spec_FullShares_ok {p0 : Int × Int × Int} {p1 : Int} {o : ((List Int) × Bool)} (h : spec_FullShares p0 p1 = some o) : RN 20 [.agg [.int .i64 p0.1, .int .i64 p0.2.1, .int .i64 p0.2.2], .int .i64 p1] [] = some (.tup [.ints .i64 o.1, .bool o.2], []) := by
 refine fn_run (o := o) (nr := 0) (F := k20) (st := ⟨entry 0 [.agg [.vw [] (.int .i64 p0.1), .vw [] (.int .i64 p0.2.1), .vw [] (.int .i64 p0.2.2)], .vw [] (.int .i64 p1)], fun n => ([] : List T)[n]?, 0⟩) (fun (o : ((List Int) × Bool)) => (.tup [.ints .i64 o.1, .bool o.2], [])) z fns_20 z z z ?_
 refine wp_seq ?_
 refine wp_reg (nx' := 48) z (ev_wr z (w_box (sv := (.agg [(.vw _ _), (.vw _ _), (.vw _ _)])) z z (absW_cons z z (absW_cons z z (absW_cons z z (absW_nil))))) (ev_new (.ref 16 [] 1 0 0) (.ints .i64 []) z z (ev_v z z (ev_nil)))) (seqQ_n (?_))
 refine wp_seq ?_
 refine wp_gc ?_
 refine wp_seq ?_
 refine wp_join (spec_FullShares_j1 p0 p1) (fun (x23 : Bool) => (⟨al .dead [(1, .vw [] (.int .i64 p1)), (2, .ptr 0 [] (some 0)), (15, .vw [] (.bool x23))], hl [some (.ptr (.agg [.int .i64 p0.1, .int .i64 p0.2.1, .int .i64 p0.2.2]))], 1⟩ : St)) ?_ ?_
 ·rintro x23 o h
  unfold spec_FullShares_j1 at h
  refine seqQ_n (?_)
  rcases its h with ⟨hc24, h⟩ | ⟨hc24, h⟩
  ·refine wp_ct z hc24 ?_
   refine wp_seq ?_
   refine wp_reg (nx' := 33) z (ev_new (.ref 1 [] 1 0 0) (.ints .i64 []) z z (ev_v z z (ev_nil))) (seqQ_n (?_))
   replace h := Option.some.inj h
   subst h
   exact wp_ret (gcQ_r (seqQ_r (qf_r ((outs_ok (vs := [(.ref 1 _ _ _ _), (.vw _ _)]) z (absW_cons (retT_ref (abs_ref z sub_i)) z (absW_cons z z (absW_nil))) z z)))))
  ·refine wp_cf z hc24 ?_
   refine wp_skip (gcQ_n (gc_to [0] (e := [(1, .vw [] (.int .i64 p1)), (2, .ptr 0 [] (some 0))]) (ts := [some (.ptr (.agg [.int .i64 p0.1, .int .i64 p0.2.1, .int .i64 p0.2.2]))]) (n := 1) z z z z) (seqQ_n (?_)))
   refine wp_seq ?_
   refine wp_reg (nx' := 17) z (ev_new (.ref 1 [] 1 0 0) (.ints .i64 []) z z (ev_nil)) (seqQ_n (?_))
   refine wp_seq ?_
   refine wp_gc ?_
   refine wp_seq ?_
   refine wp_gc ?_
   refine wp_reg (nx' := 33) z (ev_v z z (ev_nil)) (gcQ_n (gc_to [0, 1] (e := [(1, .vw [] (.int .i64 p1)), (2, .ptr 0 [] (some 0)), (6, .ref 1 [] 1 0 0), (7, .vw [] (.int .i64 ((0 : Int))))]) (ts := [some (.ptr (.agg [.int .i64 p0.1, .int .i64 p0.2.1, .int .i64 p0.2.2])), some (.ints .i64 ([]))]) (n := 2) z z z z) (seqQ_n (?_)))
   refine wp_gc ?_
   refine wp_blk ?_
   obtain ⟨x51, hw64, h⟩ := bs h
   refine wp_mono (wp_loop (fun ((x45, x46) : (List Int) × Int) => (⟨al .dead [(1, .vw [] (.int .i64 p1)), (2, .ptr 0 [] (some 0)), (6, .ref 1 [] 1 0 (List.length x45)), (7, .vw [] (.int .i64 x46))], hl [some (.ptr (.agg [.int .i64 p0.1, .int .i64 p0.2.1, .int .i64 p0.2.2])), some (.ints .i64 x45)], 2⟩ : St)) (fun (x51 : (List Int)) e st => e = .exit 0 ∧ gc 0 [6] st = ⟨al .dead [(6, .ref 0 [] 1 0 (List.length x51))], hl [some (.ints .i64 x51)], 1⟩) hw64 ?_) ?_
   ·rintro ⟨x45, x46⟩ o h
    refine wp_gc ?_
    refine wp_seq ?_
    refine wp_gc ?_
    refine wp_seq ?_
    refine wp_reg (nx' := 66) z (ev_v z z (ev_den (.ptr 0 [] (some 0)) z z (ev_v z (d_ld_o z (rget_of z (get_nil)) z z) (ev_v z z (ev_nil))))) (seqQ_n (?_))
    rcases its h with ⟨hc57, h⟩ | ⟨hc57, h⟩
    ·refine wp_ct z hc57 ?_
     refine wp_skip (gcQ_n (gc_to [0, 1] (e := [(1, .vw [] (.int .i64 p1)), (2, .ptr 0 [] (some 0)), (6, .ref 1 [] 1 0 (List.length x45)), (7, .vw [] (.int .i64 x46))]) (ts := [some (.ptr (.agg [.int .i64 p0.1, .int .i64 p0.2.1, .int .i64 p0.2.2])), some (.ints .i64 x45)]) (n := 2) z z z z) (seqQ_n (?_)))
     refine wp_seq ?_
     refine wp_gc ?_
     refine wp_gc ?_
     refine wp_blk ?_
     obtain ⟨v60, hv60, h⟩ := bs h
     refine wp_reg (nx' := 130) z (ev_den (.ref 1 _ _ _ _) z z (ev_v z z (ev_den (.ptr 0 [] (some 1)) z z (ev_v z (d_ld_o z (rget_of z (get_nil)) z z) (ev_v z z (ev_v z z (ev_wr z (w_app_i (xv := (.ref 1 _ _ _ _)) 1 z z (abs_ref z sub_i) hv60 z) (ev_den (.ref 1 _ _ _ _) z z (ev_nil))))))))) (blkQ_n (gcQ_n (gc_to [0, 1] (e := [(1, .vw [] (.int .i64 p1)), (2, .ptr 0 [] (some 0)), (6, .ref 1 [] 1 0 (List.length v60)), (7, .vw [] (.int .i64 x46))]) (ts := [some (.ptr (.agg [.int .i64 p0.1, .int .i64 p0.2.1, .int .i64 p0.2.2])), some (.ints .i64 v60)]) (n := 2) z z z z) (gcQ_n (gc_to [0, 1] (e := [(1, .vw [] (.int .i64 p1)), (2, .ptr 0 [] (some 0)), (6, .ref 1 [] 1 0 (List.length v60)), (7, .vw [] (.int .i64 x46))]) (ts := [some (.ptr (.agg [.int .i64 p0.1, .int .i64 p0.2.1, .int .i64 p0.2.2])), some (.ints .i64 v60)]) (n := 2) z z z z) (seqQ_n (?_)))))
     replace h := Option.some.inj h
     subst h
     exact wp_reg (nx' := 50) z (ev_v z z (ev_v z z (ev_v z z (ev_nil)))) (gcQ_n (gc_to [0, 1] (e := [(1, .vw [] (.int .i64 p1)), (2, .ptr 0 [] (some 0)), (6, .ref 1 [] 1 0 (List.length v60)), (7, .vw [] (.int .i64 ((w64 (x46 + (1 : Int))))))]) (ts := [some (.ptr (.agg [.int .i64 p0.1, .int .i64 p0.2.1, .int .i64 p0.2.2])), some (.ints .i64 v60)]) (n := 2) z z z z) (loopQ_n z))
    ·refine wp_cf z hc57 ?_
     replace h := Option.some.inj h
     subst h
     exact wp_exit (gcQ_e (seqQ_e (gcQ_e (loopQ_e (And.intro z (gc_to [1] (e := [(6, .ref 0 [] 1 0 (List.length x45))]) (ts := [some (.ints .i64 x45)]) (n := 1) z z z z))))))
   ·intro e st64 hg64
    obtain ⟨rfl, hg64⟩ := hg64
    refine blkQ_h (gcQ_n hg64 (gcQ_n (gc_to [0] (e := [(6, .ref 0 [] 1 0 (List.length x51))]) (ts := [some (.ints .i64 x51)]) (n := 1) z z z z) (seqQ_n (?_))))
    refine wp_seq ?_
    refine wp_reg (nx' := 49) z (ev_den (.ref 0 _ _ _ _) z z (ev_den (.ref 0 _ _ _ _) z z (ev_v z z (ev_nil)))) (seqQ_n (?_))
    replace h := Option.some.inj h
    subst h
    exact wp_ret (qf_r ((outs_ok (vs := [(.ref 0 _ _ _ _), (.vw _ _)]) z (absW_cons (retT_ref (abs_ref z sub_i)) z (absW_cons z z (absW_nil))) z z)))
 ·obtain ⟨v65, hv65, h⟩ := bs h
  rcases its h with ⟨hc66, h⟩ | ⟨hc66, h⟩
  ·exact wp_reg (nx' := 176) z (ev_den (.agg [(.vw _ _), (.vw _ _), (.vw _ _)]) z (d_ld_os z (rget_of z (get_nil)) z (cells_cons z (cells_cons z (cells_cons z (cells_nil))))) (ev_call0 [(.agg [(.vw _ _), (.vw _ _), (.vw _ _)])] z (call_okf (vs' := [(.agg [(.vw _ _), (.vw _ _), (.vw _ _)])]) z (call_ok (rs := []) (rd := []) z z z z (argL_cons (argT_a (argL_cons z (argL_cons z (argL_cons z (argL_nil))))) (argL_nil)) z z (spec_tkGood_ok hv65) z z z z z)) (ev_v z z (ev_v z z (ev_off z hc66 (ev_off z hc66 (ev_off z hc66 (ev_v z (d_pick_t z hc66 z) (ev_nil))))))))) (joinQ_n true h (gc_to [0] z z z z))
  ·obtain ⟨v68, hv68, h⟩ := bs h
   exact wp_reg (nx' := 176) z (ev_den (.agg [(.vw _ _), (.vw _ _), (.vw _ _)]) z (d_ld_os z (rget_of z (get_nil)) z (cells_cons z (cells_cons z (cells_cons z (cells_nil))))) (ev_call0 [(.agg [(.vw _ _), (.vw _ _), (.vw _ _)])] z (call_okf (vs' := [(.agg [(.vw _ _), (.vw _ _), (.vw _ _)])]) z (call_ok (rs := []) (rd := []) z z z z (argL_cons (argT_a (argL_cons z (argL_cons z (argL_cons z (argL_nil))))) (argL_nil)) z z (spec_tkGood_ok hv65) z z z z z)) (ev_v z z (ev_v z z (ev_on z hc66 (ev_v z z (ev_on z hc66 (ev_call0 [(.vw _ _), (.vw _ _), (.vw _ _)] z (call_okf (vs' := [(.vw _ _), (.vw _ _), (.vw _ _)]) z (call_ok (rs := []) (rd := []) z z z z (argL_cons z (argL_cons z (argL_cons z (argL_nil)))) z z (spec_l1In_ok hv68) z z z z z)) (ev_on z hc66 (ev_v z z (ev_v z (d_pick_f z hc66 z) (ev_nil)))))))))))) (joinQ_n (!v68) h (gc_to [0] z z z z))
noncomputable def laws_zCalls_s1 (p0 : List (Int × Int × Int)) (p1 : List (Int × Int × Int)) : Int → Option (Int ⊕ (Unit ⊕ Bool)) := fun x38 =>
if (decide (x38 < (List.length p0 : Int))) = true then
(at? p0 x38).bind fun v57 =>
(at? p1 x38).bind fun v58 =>
if (!((v57.1 == v58.1) && ((v57.2.1 == v58.2.1) && ((v57.2.2 == v58.2.2) && true)))) = true then
some (.inr (.inr false))
else
some (.inl ((w64 (x38 + (1 : Int)))))
else
some (.inr (.inl ()))
noncomputable def laws_zCalls_l1 (p0 : List (Int × Int × Int)) (p1 : List (Int × Int × Int)) : Int → Option (Unit ⊕ Bool) := iter (laws_zCalls_s1 p0 p1)
noncomputable def laws_zCalls (p0 : List (Int × Int × Int)) (p1 : List (Int × Int × Int)) : Option Bool :=
if ((List.length p0 : Int) != (List.length p1 : Int)) = true then
some false
else
(laws_zCalls_l1 p0 p1 (0 : Int)).bind fun w => match w with
| .inl _ =>
some true
| .inr r62 =>
some r62
theorem laws_zCalls_ok {p0 : List (Int × Int × Int)} {p1 : List (Int × Int × Int)} {o : Bool} (h : laws_zCalls p0 p1 = some o) : RN 21 [.rows 3 (List.map e0 p0), .rows 3 (List.map e0 p1)] [] = some (.bool o, []) := by
 refine fn_run (o := o) (nr := 0) (F := k21) (st := ⟨entry 0 [.vw [] (.rows 3 (List.map e0 p0)), .vw [] (.rows 3 (List.map e0 p1))], fun n => ([] : List T)[n]?, 0⟩) (fun (o : Bool) => (.bool o, [])) z fns_21 z z z ?_
 refine wp_seq ?_
 refine wp_reg (nx' := 16) z (ev_v z z (ev_nil)) (seqQ_n (?_))
 refine wp_seq ?_
 refine wp_gc ?_
 refine wp_seq ?_
 refine wp_reg (nx' := 96) z (ev_v z z (ev_v z (d_len_vr (e := e0) z) (ev_v z z (ev_v z (d_len_vr (e := e0) z) (ev_v z z (ev_nil)))))) (seqQ_n (?_))
 rcases its h with ⟨hc13, h⟩ | ⟨hc13, h⟩
 ·refine wp_ct z hc13 ?_
  refine wp_seq ?_
  refine wp_reg (nx' := 112) z (ev_v z z (ev_nil)) (seqQ_n (?_))
  replace h := Option.some.inj h
  subst h
  exact wp_ret (gcQ_r (seqQ_r (qf_r ((outs_ok (vs := [(.vw _ _)]) z (absW_cons z z (absW_nil)) z z)))))
 ·refine wp_cf z hc13 ?_
  refine wp_skip (gcQ_n (gc_to [] (e := [(0, .vw [] (.rows 3 (List.map e0 p0))), (1, .vw [] (.rows 3 (List.map e0 p1)))]) (ts := []) (n := 0) z z z z) (seqQ_n (?_)))
  refine wp_seq ?_
  refine wp_gc ?_
  refine wp_seq ?_
  refine wp_gc ?_
  refine wp_reg (nx' := 48) z (ev_v z z (ev_v z (d_len_vr (e := e0) z) (ev_v z z (ev_nil)))) (gcQ_n (gc_to [] (e := [(0, .vw [] (.rows 3 (List.map e0 p0))), (1, .vw [] (.rows 3 (List.map e0 p1))), (12, .vw [] (.int .i64 ((List.length p0 : Int)))), (13, .vw [] (.int .i64 ((0 : Int))))]) (ts := []) (n := 0) z z z z) (seqQ_n (?_)))
  refine wp_gc ?_
  refine wp_blk ?_
  obtain ⟨w61, hw61, h⟩ := bs h
  refine wp_mono (wp_loop (fun (x38 : Int) => (⟨al .dead [(0, .vw [] (.rows 3 (List.map e0 p0))), (1, .vw [] (.rows 3 (List.map e0 p1))), (12, .vw [] (.int .i64 ((List.length p0 : Int)))), (13, .vw [] (.int .i64 x38))], hl [], 0⟩ : St)) (fun (v : Unit ⊕ Bool) e st => match v with | .inl _ => e = .exit 0 ∧ gc 0 [] st = ⟨al .dead [], hl [], 0⟩ | .inr rr => e = .ret ∧ outs 0 k21 st = some (.bool rr, [])) hw61 ?_) ?_
  ·rintro x38 o h
   refine wp_gc ?_
   refine wp_seq ?_
   refine wp_reg (nx' := 16) z (ev_v z z (ev_nil)) (seqQ_n (?_))
   refine wp_seq ?_
   refine wp_gc ?_
   rcases its h with ⟨hc50, h⟩ | ⟨hc50, h⟩
   ·refine wp_ct z hc50 ?_
    refine wp_skip (gcQ_n (gc_to [] (e := [(0, .vw [] (.rows 3 (List.map e0 p0))), (1, .vw [] (.rows 3 (List.map e0 p1))), (12, .vw [] (.int .i64 ((List.length p0 : Int)))), (13, .vw [] (.int .i64 x38))]) (ts := []) (n := 0) z z z z) (seqQ_n (?_)))
    refine wp_seq ?_
    refine wp_gc ?_
    refine wp_gc ?_
    refine wp_blk ?_
    refine wp_seq ?_
    refine wp_reg (nx' := 32) z (ev_v z z (ev_v z z (ev_nil))) (seqQ_n (?_))
    refine wp_seq ?_
    obtain ⟨v57, hv57, h⟩ := bs h
    obtain ⟨v58, hv58, h⟩ := bs h
    refine wp_reg (nx' := 176) z (ev_v z z (ev_v z z (ev_den (.pv _ _) z (d_idx_vr e0 z z hv57) (ev_den (.agg [(.vw _ _), (.vw _ _), (.vw _ _)]) z z (ev_v z z (ev_v z z (ev_den (.pv _ _) z (d_idx_vr e0 z z hv58) (ev_den (.agg [(.vw _ _), (.vw _ _), (.vw _ _)]) z z (ev_v z z (ev_nil)))))))))) (seqQ_n (?_))
    rcases its h with ⟨hc59, h⟩ | ⟨hc59, h⟩
    ·refine wp_ct z hc59 ?_
     refine wp_seq ?_
     refine wp_reg (nx' := 192) z (ev_v z z (ev_nil)) (seqQ_n (?_))
     replace h := Option.some.inj h
     subst h
     exact wp_ret (blkQ_r (gcQ_r (gcQ_r (seqQ_r (gcQ_r (loopQ_r (And.intro z (outs_ok (vs := [(.vw _ _)]) z (absW_cons z z (absW_nil)) z z))))))))
    ·refine wp_cf z hc59 ?_
     refine wp_skip (blkQ_n (gcQ_n (gc_to [] (e := [(0, .vw [] (.rows 3 (List.map e0 p0))), (1, .vw [] (.rows 3 (List.map e0 p1))), (12, .vw [] (.int .i64 ((List.length p0 : Int)))), (13, .vw [] (.int .i64 x38))]) (ts := []) (n := 0) z z z z) (gcQ_n (gc_to [] (e := [(0, .vw [] (.rows 3 (List.map e0 p0))), (1, .vw [] (.rows 3 (List.map e0 p1))), (12, .vw [] (.int .i64 ((List.length p0 : Int)))), (13, .vw [] (.int .i64 x38))]) (ts := []) (n := 0) z z z z) (seqQ_n (?_)))))
     replace h := Option.some.inj h
     subst h
     exact wp_reg (nx' := 32) z (ev_v z z (ev_v z z (ev_nil))) (gcQ_n (gc_to [] (e := [(0, .vw [] (.rows 3 (List.map e0 p0))), (1, .vw [] (.rows 3 (List.map e0 p1))), (12, .vw [] (.int .i64 ((List.length p0 : Int)))), (13, .vw [] (.int .i64 ((w64 (x38 + (1 : Int))))))]) (ts := []) (n := 0) z z z z) (loopQ_n z))
   ·refine wp_cf z hc50 ?_
    replace h := Option.some.inj h
    subst h
    exact wp_exit (gcQ_e (seqQ_e (gcQ_e (loopQ_e (And.intro z (gc_to [] (e := []) (ts := []) (n := 0) z z z z))))))
  ·intro e st61 hg61
   rcases w61 with _ | r62
   ·obtain ⟨rfl, hg61⟩ := hg61
    refine blkQ_h (gcQ_n hg61 (gcQ_n (gc_to [] (e := []) (ts := []) (n := 0) z z z z) (seqQ_n (?_))))
    refine wp_seq ?_
    refine wp_reg (nx' := 16) z (ev_v z z (ev_nil)) (seqQ_n (?_))
    replace h := Option.some.inj h
    subst h
    exact wp_ret (qf_r ((outs_ok (vs := [(.vw _ _)]) z (absW_cons z z (absW_nil)) z z)))
   ·obtain ⟨rfl, hg61⟩ := hg61
    replace h := Option.some.inj h
    subst h
    exact blkQ_r (gcQ_r (gcQ_r (seqQ_r (qf_r (hg61)))))
end Go.Proofs.Ytdblfocadcgmaaa.Ev.W7
