/- What functions of the program come to, as plain functions; no condition. -/
import Derived.Test.YtdblfocadcgmaaaW75
set_option linter.unusedVariables false
set_option linter.unusedSimpArgs false
set_option maxRecDepth 100000
set_option maxHeartbeats 4000000
set_option linter.unusedVariables false
namespace Go.Proofs.Ytdblfocadcgmaaa.Ev.W7
open Go
noncomputable def laws_zSame_s1 (p0 : List Int) (p1 : List Int) : Int → Option (Int ⊕ (Unit ⊕ Bool)) := fun x38 =>
if (decide (x38 < (List.length p0 : Int))) = true then
(at? p0 x38).bind fun v57 =>
(at? p1 x38).bind fun v58 =>
if (v57 != v58) = true then
some (.inr (.inr false))
else
some (.inl ((w64 (x38 + (1 : Int)))))
else
some (.inr (.inl ()))
noncomputable def laws_zSame_l1 (p0 : List Int) (p1 : List Int) : Int → Option (Unit ⊕ Bool) := iter (laws_zSame_s1 p0 p1)
noncomputable def laws_zSame (p0 : List Int) (p1 : List Int) : Option Bool :=
if ((List.length p0 : Int) != (List.length p1 : Int)) = true then
some false
else
(laws_zSame_l1 p0 p1 (0 : Int)).bind fun w => match w with
| .inl _ =>
some true
| .inr r62 =>
some r62
theorem laws_zSame_ok {p0 : List Int} {p1 : List Int} {o : Bool} (h : laws_zSame p0 p1 = some o) : RN 22 [.ints .i64 p0, .ints .i64 p1] [] = some (.bool o, []) := by
 refine fn_run (o := o) (nr := 0) (F := k22) (st := ⟨entry 0 [.vw [] (.ints .i64 p0), .vw [] (.ints .i64 p1)], fun n => ([] : List T)[n]?, 0⟩) (fun (o : Bool) => (.bool o, [])) z fns_22 z z z ?_
 refine wp_seq ?_
 refine wp_reg (nx' := 16) z (ev_v z z (ev_nil)) (seqQ_n (?_))
 refine wp_seq ?_
 refine wp_gc ?_
 refine wp_seq ?_
 refine wp_reg (nx' := 96) z (ev_v z z (ev_v z z (ev_v z z (ev_v z z (ev_v z z (ev_nil)))))) (seqQ_n (?_))
 rcases its h with ⟨hc13, h⟩ | ⟨hc13, h⟩
 ·refine wp_ct z hc13 ?_
  refine wp_seq ?_
  refine wp_reg (nx' := 112) z (ev_v z z (ev_nil)) (seqQ_n (?_))
  replace h := Option.some.inj h
  subst h
  exact wp_ret (gcQ_r (seqQ_r (qf_r ((outs_ok (vs := [(.vw _ _)]) z (absW_cons z z (absW_nil)) z z)))))
 ·refine wp_cf z hc13 ?_
  refine wp_skip (gcQ_n (gc_to [] (e := [(0, .vw [] (.ints .i64 p0)), (1, .vw [] (.ints .i64 p1))]) (ts := []) (n := 0) z z z z) (seqQ_n (?_)))
  refine wp_seq ?_
  refine wp_gc ?_
  refine wp_seq ?_
  refine wp_gc ?_
  refine wp_reg (nx' := 48) z (ev_v z z (ev_v z z (ev_v z z (ev_nil)))) (gcQ_n (gc_to [] (e := [(0, .vw [] (.ints .i64 p0)), (1, .vw [] (.ints .i64 p1)), (12, .vw [] (.int .i64 ((List.length p0 : Int)))), (13, .vw [] (.int .i64 ((0 : Int))))]) (ts := []) (n := 0) z z z z) (seqQ_n (?_)))
  refine wp_gc ?_
  refine wp_blk ?_
  obtain ⟨w61, hw61, h⟩ := bs h
  refine wp_mono (wp_loop (fun (x38 : Int) => (⟨al .dead [(0, .vw [] (.ints .i64 p0)), (1, .vw [] (.ints .i64 p1)), (12, .vw [] (.int .i64 ((List.length p0 : Int)))), (13, .vw [] (.int .i64 x38))], hl [], 0⟩ : St)) (fun (v : Unit ⊕ Bool) e st => match v with | .inl _ => e = .exit 0 ∧ gc 0 [] st = ⟨al .dead [], hl [], 0⟩ | .inr rr => e = .ret ∧ outs 0 k22 st = some (.bool rr, [])) hw61 ?_) ?_
  ·rintro x38 o h
   refine wp_gc ?_
   refine wp_seq ?_
   refine wp_reg (nx' := 16) z (ev_v z z (ev_nil)) (seqQ_n (?_))
   refine wp_seq ?_
   refine wp_gc ?_
   rcases its h with ⟨hc50, h⟩ | ⟨hc50, h⟩
   ·refine wp_ct z hc50 ?_
    refine wp_skip (gcQ_n (gc_to [] (e := [(0, .vw [] (.ints .i64 p0)), (1, .vw [] (.ints .i64 p1)), (12, .vw [] (.int .i64 ((List.length p0 : Int)))), (13, .vw [] (.int .i64 x38))]) (ts := []) (n := 0) z z z z) (seqQ_n (?_)))
    refine wp_seq ?_
    refine wp_gc ?_
    refine wp_gc ?_
    refine wp_blk ?_
    refine wp_seq ?_
    refine wp_reg (nx' := 32) z (ev_v z z (ev_v z z (ev_nil))) (seqQ_n (?_))
    refine wp_seq ?_
    obtain ⟨v57, hv57, h⟩ := bs h
    obtain ⟨v58, hv58, h⟩ := bs h
    refine wp_reg (nx' := 176) z (ev_v z z (ev_v z z (ev_den (.pv _ _) z (d_idx_vi z z hv57) (ev_v z z (ev_v z z (ev_v z z (ev_den (.pv _ _) z (d_idx_vi z z hv58) (ev_v z z (ev_v z z (ev_nil)))))))))) (seqQ_n (?_))
    rcases its h with ⟨hc59, h⟩ | ⟨hc59, h⟩
    ·refine wp_ct z hc59 ?_
     refine wp_seq ?_
     refine wp_reg (nx' := 192) z (ev_v z z (ev_nil)) (seqQ_n (?_))
     replace h := Option.some.inj h
     subst h
     exact wp_ret (blkQ_r (gcQ_r (gcQ_r (seqQ_r (gcQ_r (loopQ_r (And.intro z (outs_ok (vs := [(.vw _ _)]) z (absW_cons z z (absW_nil)) z z))))))))
    ·refine wp_cf z hc59 ?_
     refine wp_skip (blkQ_n (gcQ_n (gc_to [] (e := [(0, .vw [] (.ints .i64 p0)), (1, .vw [] (.ints .i64 p1)), (12, .vw [] (.int .i64 ((List.length p0 : Int)))), (13, .vw [] (.int .i64 x38))]) (ts := []) (n := 0) z z z z) (gcQ_n (gc_to [] (e := [(0, .vw [] (.ints .i64 p0)), (1, .vw [] (.ints .i64 p1)), (12, .vw [] (.int .i64 ((List.length p0 : Int)))), (13, .vw [] (.int .i64 x38))]) (ts := []) (n := 0) z z z z) (seqQ_n (?_)))))
     replace h := Option.some.inj h
     subst h
     exact wp_reg (nx' := 32) z (ev_v z z (ev_v z z (ev_nil))) (gcQ_n (gc_to [] (e := [(0, .vw [] (.ints .i64 p0)), (1, .vw [] (.ints .i64 p1)), (12, .vw [] (.int .i64 ((List.length p0 : Int)))), (13, .vw [] (.int .i64 ((w64 (x38 + (1 : Int))))))]) (ts := []) (n := 0) z z z z) (loopQ_n z))
   ·refine wp_cf z hc50 ?_
    replace h := Option.some.inj h
    subst h
    exact wp_exit (gcQ_e (seqQ_e (gcQ_e (loopQ_e (And.intro z (gc_to [] (e := []) (ts := []) (n := 0) z z z z))))))
  ·intro e st61 hg61
   rcases w61 with _ | r62
   ·obtain ⟨rfl, hg61⟩ := hg61
    refine blkQ_h (gcQ_n hg61 (gcQ_n (gc_to [] (e := []) (ts := []) (n := 0) z z z z) (seqQ_n (?_))))
    refine wp_seq ?_
    refine wp_reg (nx' := 16) z (ev_v z z (ev_nil)) (seqQ_n (?_))
    replace h := Option.some.inj h
    subst h
    exact wp_ret (qf_r ((outs_ok (vs := [(.vw _ _)]) z (absW_cons z z (absW_nil)) z z)))
   ·obtain ⟨rfl, hg61⟩ := hg61
    replace h := Option.some.inj h
    subst h
    exact blkQ_r (gcQ_r (gcQ_r (seqQ_r (qf_r (hg61)))))
noncomputable def impl_VisitsOf_s2 (p2 : Int) : (Int × Int × Int × (List (Int × Int × Int)) × Int × Int × (List Int) × (List (List Int)) × Int) → Option ((Int × Int × Int × (List (Int × Int × Int)) × Int × Int × (List Int) × (List (List Int)) × Int) ⊕ ((List (List Int)))) := fun (x96, x97, x98, x99, x100, x101, x102, x103, x104) =>
if (decide (x104 < p2)) = true then
(impl_walker_visit ((x96, x97, x98, x99, x100, x101, x102))).bind fun v136 =>
(app? x103 (([v136.1] : List (List Int)))).bind fun v137 =>
some (.inl (v136.2.1, v136.2.2.1, v136.2.2.2.1, v136.2.2.2.2.1, v136.2.2.2.2.2.1, v136.2.2.2.2.2.2.1, v136.2.2.2.2.2.2.2, v137, (w64 (x104 + (1 : Int)))))
else
some (.inr x103)
noncomputable def impl_VisitsOf_l2 (p2 : Int) : (Int × Int × Int × (List (Int × Int × Int)) × Int × Int × (List Int) × (List (List Int)) × Int) → Option ((List (List Int))) := iter (impl_VisitsOf_s2 p2)
noncomputable def impl_VisitsOf_j1 (p0 : Int × Int × Int) (p1 : List (Int × Int × Int)) (p2 : Int) : Bool → Option (((List (List Int)) × Bool)) := fun x40 =>
if x40 = true then
some ([], false)
else
(impl_newWalker p0 p1).bind fun v42 =>
(impl_VisitsOf_l2 p2 (v42.1, v42.2.1, v42.2.2.1, v42.2.2.2.1, v42.2.2.2.2.1, v42.2.2.2.2.2.1, v42.2.2.2.2.2.2, ([] : List (List Int)), (0 : Int))).bind fun x117 =>
some (x117, true)
noncomputable def impl_VisitsOf (p0 : Int × Int × Int) (p1 : List (Int × Int × Int)) (p2 : Int) : Option (((List (List Int)) × Bool)) :=
(impl_isCalled p0 p1).bind fun v149 =>
if (!v149) = true then
impl_VisitsOf_j1 p0 p1 p2 true
else
(impl_within p2 ((0 : Int)) ((100 : Int))).bind fun v152 =>
impl_VisitsOf_j1 p0 p1 p2 (!v152)
theorem impl_VisitsOf_ok {p0 : Int × Int × Int} {p1 : List (Int × Int × Int)} {p2 : Int} {o : ((List (List Int)) × Bool)} (h : impl_VisitsOf p0 p1 p2 = some o) : RN 23 [.agg [.int .i64 p0.1, .int .i64 p0.2.1, .int .i64 p0.2.2], .rows 3 (List.map e0 p1), .int .i64 p2] [] = some (.tup [.rows 1 (List.map (T.ints .i64) o.1), .bool o.2], []) := by
 refine fn_run (o := o) (nr := 0) (F := k23) (st := ⟨entry 0 [.agg [.vw [] (.int .i64 p0.1), .vw [] (.int .i64 p0.2.1), .vw [] (.int .i64 p0.2.2)], .vw [] (.rows 3 (List.map e0 p1)), .vw [] (.int .i64 p2)], fun n => ([] : List T)[n]?, 0⟩) (fun (o : ((List (List Int)) × Bool)) => (.tup [.rows 1 (List.map (T.ints .i64) o.1), .bool o.2], [])) z fns_23 z z z ?_
 refine wp_seq ?_
 refine wp_reg (nx' := 48) z (ev_wr z (w_box (sv := (.agg [(.vw _ _), (.vw _ _), (.vw _ _)])) z z (absW_cons z z (absW_cons z z (absW_cons z z (absW_nil))))) (ev_new (.ref 16 [] 1 0 0) (.rows 1 []) z z (ev_v z z (ev_nil)))) (seqQ_n (?_))
 refine wp_seq ?_
 refine wp_gc ?_
 refine wp_seq ?_
 refine wp_join (impl_VisitsOf_j1 p0 p1 p2) (fun (x40 : Bool) => (⟨al .dead [(1, .vw [] (.rows 3 (List.map e0 p1))), (2, .vw [] (.int .i64 p2)), (3, .ptr 0 [] (some 0)), (18, .vw [] (.bool x40))], hl [some (.ptr (.agg [.int .i64 p0.1, .int .i64 p0.2.1, .int .i64 p0.2.2]))], 1⟩ : St)) ?_ ?_
 ·rintro x40 o h
  unfold impl_VisitsOf_j1 at h
  refine seqQ_n (?_)
  rcases its h with ⟨hc41, h⟩ | ⟨hc41, h⟩
  ·refine wp_ct z hc41 ?_
   refine wp_seq ?_
   refine wp_reg (nx' := 33) z (ev_new (.ref 1 [] 1 0 0) (.rows 1 []) z z (ev_v z z (ev_nil))) (seqQ_n (?_))
   replace h := Option.some.inj h
   subst h
   exact wp_ret (gcQ_r (seqQ_r (qf_r ((outs_ok (vs := [(.ref 1 _ _ _ _), (.vw _ _)]) z (absW_cons (retT_ref (abs_ref z sub_r)) z (absW_cons z z (absW_nil))) z z)))))
  ·refine wp_cf z hc41 ?_
   refine wp_skip (gcQ_n (gc_to [0] (e := [(1, .vw [] (.rows 3 (List.map e0 p1))), (2, .vw [] (.int .i64 p2)), (3, .ptr 0 [] (some 0))]) (ts := [some (.ptr (.agg [.int .i64 p0.1, .int .i64 p0.2.1, .int .i64 p0.2.2]))]) (n := 1) z z z z) (seqQ_n (?_)))
   refine wp_seq ?_
   obtain ⟨v42, hv42, h⟩ := bs h
   refine wp_reg (nx' := 97) z (ev_den (.agg [(.vw _ _), (.vw _ _), (.vw _ _)]) z (d_ld_os z (rget_of z (get_nil)) z (cells_cons z (cells_cons z (cells_cons z (cells_nil))))) (ev_v z z (ev_call0 [(.agg [(.vw _ _), (.vw _ _), (.vw _ _)]), (.vw _ _)] z (call_okf (vs' := [(.agg [(.vw _ _), (.vw _ _), (.vw _ _)]), (.vw _ _)]) z (call_ok (rs := []) (rd := []) z z z z (argL_cons (argT_a (argL_cons z (argL_cons z (argL_cons z (argL_nil))))) (argL_cons z (argL_nil))) z z (impl_newWalker_ok hv42) z z z z z)) (ev_wr z (w_bsl [] z z (absW_nil)) (ev_den (.ptr 33 [] (some 0)) z z (ev_den (.ref 49 _ _ _ _) z z (ev_nil))))))) (seqQ_n (?_))
   refine wp_seq ?_
   refine wp_gc ?_
   refine wp_seq ?_
   refine wp_gc ?_
   refine wp_reg (nx' := 129) z (ev_v z z (ev_v z z (ev_nil))) (gcQ_n (gc_to [33, 49] (e := [(8, .ptr 0 [] (some 0)), (9, .ref 1 [] 1 0 (List.length (([] : List (List Int))))), (23, .vw [] (.int .i64 p2)), (24, .vw [] (.int .i64 ((0 : Int))))]) (ts := [some (.ptr (.agg [.int .i64 v42.1, .int .i64 v42.2.1, .int .i64 v42.2.2.1, .sh (.rows 3 (List.map e0 v42.2.2.2.1)), .int .i64 v42.2.2.2.2.1, .int .i64 v42.2.2.2.2.2.1, .ints .i64 v42.2.2.2.2.2.2])), some (.rows 1 (List.map (T.ints .i64) (([] : List (List Int)))))]) (n := 2) z z z z) (seqQ_n (?_)))
   refine wp_gc ?_
   refine wp_blk ?_
   obtain ⟨x117, hw148, h⟩ := bs h
   refine wp_mono (wp_loop (fun ((x96, x97, x98, x99, x100, x101, x102, x103, x104) : Int × Int × Int × (List (Int × Int × Int)) × Int × Int × (List Int) × (List (List Int)) × Int) => (⟨al .dead [(8, .ptr 0 [] (some 0)), (9, .ref 1 [] 1 0 (List.length x103)), (23, .vw [] (.int .i64 p2)), (24, .vw [] (.int .i64 x104))], hl [some (.ptr (.agg [.int .i64 x96, .int .i64 x97, .int .i64 x98, .sh (.rows 3 (List.map e0 x99)), .int .i64 x100, .int .i64 x101, .ints .i64 x102])), some (.rows 1 (List.map (T.ints .i64) x103))], 2⟩ : St)) (fun (x117 : (List (List Int))) e st => e = .exit 0 ∧ gc 0 [9] st = ⟨al .dead [(9, .ref 0 [] 1 0 (List.length x117))], hl [some (.rows 1 (List.map (T.ints .i64) x117))], 1⟩) hw148 ?_) ?_
   ·rintro ⟨x96, x97, x98, x99, x100, x101, x102, x103, x104⟩ o h
    refine wp_gc ?_
    refine wp_seq ?_
    refine wp_reg (nx' := 18) z (ev_v z z (ev_nil)) (seqQ_n (?_))
    refine wp_seq ?_
    refine wp_gc ?_
    rcases its h with ⟨hc131, h⟩ | ⟨hc131, h⟩
    ·refine wp_ct z hc131 ?_
     refine wp_skip (gcQ_n (gc_to [0, 1] (e := [(8, .ptr 0 [] (some 0)), (9, .ref 1 [] 1 0 (List.length x103)), (23, .vw [] (.int .i64 p2)), (24, .vw [] (.int .i64 x104))]) (ts := [some (.ptr (.agg [.int .i64 x96, .int .i64 x97, .int .i64 x98, .sh (.rows 3 (List.map e0 x99)), .int .i64 x100, .int .i64 x101, .ints .i64 x102])), some (.rows 1 (List.map (T.ints .i64) x103))]) (n := 2) z z z z) (seqQ_n (?_)))
     refine wp_seq ?_
     refine wp_gc ?_
     refine wp_gc ?_
     refine wp_blk ?_
     obtain ⟨v136, hv136, h⟩ := bs h
     obtain ⟨v137, hv137, h⟩ := bs h
     refine wp_reg (nx' := 98) z (ev_den (.ref 1 _ _ _ _) z z (ev_den (.ptr 0 [] (some 0)) z z (ev_call1 [(.ptr 0 [] (some 0))] z (call_okt (call_ok (rs := [0]) (rd := []) z z z z (argL_cons z (argL_nil)) z z (impl_walker_visit_ok hv136) z z z z z)) (ev_wr z (w_bsl [(.ref 34 _ _ _ _)] z z (absW_cons (absA_ref (abs_ref z sub_i)) z (absW_nil))) (ev_wr z (w_app_r (xs := x103) (ys := (([v136.1] : List (List Int)))) (e := (T.ints .i64)) (xv := (.ref 1 _ _ _ _)) (yv := (.ref 50 _ _ _ _)) 1 z z z (abs_ref z (sub_r (xs := ([v136.1] : List (List Int))))) z (abs_ref z sub_r) hv137 z) (ev_den (.ref 1 _ _ _ _) z z (ev_nil))))))) (blkQ_n (gcQ_n (gc_to [0, 1] (e := [(8, .ptr 0 [] (some 0)), (9, .ref 1 [] 1 0 (List.length v137)), (23, .vw [] (.int .i64 p2)), (24, .vw [] (.int .i64 x104))]) (ts := [some (.ptr (.agg [.int .i64 v136.2.1, .int .i64 v136.2.2.1, .int .i64 v136.2.2.2.1, .sh (.rows 3 (List.map e0 v136.2.2.2.2.1)), .int .i64 v136.2.2.2.2.2.1, .int .i64 v136.2.2.2.2.2.2.1, .ints .i64 v136.2.2.2.2.2.2.2])), some (.rows 1 (List.map (T.ints .i64) v137))]) (n := 2) z z z z) (gcQ_n (gc_to [0, 1] (e := [(8, .ptr 0 [] (some 0)), (9, .ref 1 [] 1 0 (List.length v137)), (23, .vw [] (.int .i64 p2)), (24, .vw [] (.int .i64 x104))]) (ts := [some (.ptr (.agg [.int .i64 v136.2.1, .int .i64 v136.2.2.1, .int .i64 v136.2.2.2.1, .sh (.rows 3 (List.map e0 v136.2.2.2.2.1)), .int .i64 v136.2.2.2.2.2.1, .int .i64 v136.2.2.2.2.2.2.1, .ints .i64 v136.2.2.2.2.2.2.2])), some (.rows 1 (List.map (T.ints .i64) v137))]) (n := 2) z z z z) (seqQ_n (?_)))))
     replace h := Option.some.inj h
     subst h
     exact wp_reg (nx' := 34) z (ev_v z z (ev_v z z (ev_nil))) (gcQ_n (gc_to [0, 1] (e := [(8, .ptr 0 [] (some 0)), (9, .ref 1 [] 1 0 (List.length v137)), (23, .vw [] (.int .i64 p2)), (24, .vw [] (.int .i64 ((w64 (x104 + (1 : Int))))))]) (ts := [some (.ptr (.agg [.int .i64 v136.2.1, .int .i64 v136.2.2.1, .int .i64 v136.2.2.2.1, .sh (.rows 3 (List.map e0 v136.2.2.2.2.1)), .int .i64 v136.2.2.2.2.2.1, .int .i64 v136.2.2.2.2.2.2.1, .ints .i64 v136.2.2.2.2.2.2.2])), some (.rows 1 (List.map (T.ints .i64) v137))]) (n := 2) z z z z) (loopQ_n z))
    ·refine wp_cf z hc131 ?_
     replace h := Option.some.inj h
     subst h
     exact wp_exit (gcQ_e (seqQ_e (gcQ_e (loopQ_e (And.intro z (gc_to [1] (e := [(9, .ref 0 [] 1 0 (List.length x103))]) (ts := [some (.rows 1 (List.map (T.ints .i64) x103))]) (n := 1) z z z z))))))
   ·intro e st148 hg148
    obtain ⟨rfl, hg148⟩ := hg148
    refine blkQ_h (gcQ_n hg148 (gcQ_n (gc_to [0] (e := [(9, .ref 0 [] 1 0 (List.length x117))]) (ts := [some (.rows 1 (List.map (T.ints .i64) x117))]) (n := 1) z z z z) (seqQ_n (?_))))
    refine wp_seq ?_
    refine wp_reg (nx' := 49) z (ev_den (.ref 0 _ _ _ _) z z (ev_den (.ref 0 _ _ _ _) z z (ev_v z z (ev_nil)))) (seqQ_n (?_))
    replace h := Option.some.inj h
    subst h
    exact wp_ret (qf_r ((outs_ok (vs := [(.ref 0 _ _ _ _), (.vw _ _)]) z (absW_cons (retT_ref (abs_ref z sub_r)) z (absW_cons z z (absW_nil))) z z)))
 ·obtain ⟨v149, hv149, h⟩ := bs h
  rcases its h with ⟨hc150, h⟩ | ⟨hc150, h⟩
  ·exact wp_reg (nx' := 192) z (ev_den (.agg [(.vw _ _), (.vw _ _), (.vw _ _)]) z (d_ld_os z (rget_of z (get_nil)) z (cells_cons z (cells_cons z (cells_cons z (cells_nil))))) (ev_v z z (ev_call0 [(.agg [(.vw _ _), (.vw _ _), (.vw _ _)]), (.vw _ _)] z (call_okf (vs' := [(.agg [(.vw _ _), (.vw _ _), (.vw _ _)]), (.vw _ _)]) z (call_ok (rs := []) (rd := []) z z z z (argL_cons (argT_a (argL_cons z (argL_cons z (argL_cons z (argL_nil))))) (argL_cons z (argL_nil))) z z (impl_isCalled_ok hv149) z z z z z)) (ev_v z z (ev_v z z (ev_off z hc150 (ev_off z hc150 (ev_off z hc150 (ev_v z (d_pick_t z hc150 z) (ev_nil)))))))))) (joinQ_n true h (gc_to [0] z z z z))
  ·obtain ⟨v152, hv152, h⟩ := bs h
   exact wp_reg (nx' := 192) z (ev_den (.agg [(.vw _ _), (.vw _ _), (.vw _ _)]) z (d_ld_os z (rget_of z (get_nil)) z (cells_cons z (cells_cons z (cells_cons z (cells_nil))))) (ev_v z z (ev_call0 [(.agg [(.vw _ _), (.vw _ _), (.vw _ _)]), (.vw _ _)] z (call_okf (vs' := [(.agg [(.vw _ _), (.vw _ _), (.vw _ _)]), (.vw _ _)]) z (call_ok (rs := []) (rd := []) z z z z (argL_cons (argT_a (argL_cons z (argL_cons z (argL_cons z (argL_nil))))) (argL_cons z (argL_nil))) z z (impl_isCalled_ok hv149) z z z z z)) (ev_v z z (ev_v z z (ev_on z hc150 (ev_v z z (ev_on z hc150 (ev_call0 [(.vw _ _), (.vw _ _), (.vw _ _)] z (call_okf (vs' := [(.vw _ _), (.vw _ _), (.vw _ _)]) z (call_ok (rs := []) (rd := []) z z z z (argL_cons z (argL_cons z (argL_cons z (argL_nil)))) z z (impl_within_ok hv152) z z z z z)) (ev_on z hc150 (ev_v z z (ev_v z (d_pick_f z hc150 z) (ev_nil))))))))))))) (joinQ_n (!v152) h (gc_to [0] z z z z))
noncomputable def spec_DrawTokenAt (p0 : List Int) : Option (((Int × Int × Int) × (List (Int × Int × Int)) × Int)) :=
(spec_l1Cur_tokens ((p0, (0 : Int), (0 : Int)))).bind fun v6 =>
(spec_l1Cur_calls v6.1 v6.2).bind fun v7 =>
(spec_l1Cur_pick ((60 : Int)) v7.2).bind fun v8 =>
(spec_l1Cur_pick ((60 : Int)) v8.2).bind fun v9 =>
(spec_l1Cur_among (([(0 : Int), (1 : Int), (5 : Int), (20 : Int), (1000 : Int), (1001 : Int), (-1 : Int), v8.1, v9.1] : List Int)) v9.2).bind fun v10 =>
some (v6.1, v7.1, v10.1)
theorem spec_DrawTokenAt_ok {p0 : List Int} {o : ((Int × Int × Int) × (List (Int × Int × Int)) × Int)} (h : spec_DrawTokenAt p0 = some o) : RN 24 [.ints .u8 p0] [] = some (.tup [.agg [.int .i64 o.1.1, .int .i64 o.1.2.1, .int .i64 o.1.2.2], .rows 3 (List.map e0 o.2.1), .int .i64 o.2.2], []) := by
 refine fn_run (o := o) (nr := 0) (F := k24) (st := ⟨entry 0 [.vw [] (.ints .u8 p0)], fun n => ([] : List T)[n]?, 0⟩) (fun (o : ((Int × Int × Int) × (List (Int × Int × Int)) × Int)) => (.tup [.agg [.int .i64 o.1.1, .int .i64 o.1.2.1, .int .i64 o.1.2.2], .rows 3 (List.map e0 o.2.1), .int .i64 o.2.2], [])) z fns_24 z z z ?_
 refine wp_seq ?_
 refine wp_reg (nx' := 48) z (ev_new (.ptr 0 [] (some 0)) (.ptr (.agg [.int .i64 ((0 : Int)), .int .i64 ((0 : Int)), .int .i64 ((0 : Int))])) z z (ev_new (.ref 16 [] 3 0 0) (.rows 3 []) z z (ev_v z z (ev_nil)))) (seqQ_n (?_))
 refine wp_seq ?_
 refine wp_reg (nx' := 112) z (ev_v z z (ev_den (.agg [(.vw _ _), (.vw _ _), (.vw _ _)]) z z (ev_wr z (w_box (sv := (.agg [(.vw _ _), (.vw _ _), (.vw _ _)])) z z (absW_cons z z (absW_cons z z (absW_cons z z (absW_nil))))) (ev_den (.ptr 80 [] (some 0)) z z (ev_nil))))) (seqQ_n (?_))
 refine wp_seq ?_
 obtain ⟨v6, hv6, h⟩ := bs h
 refine wp_reg (nx' := 176) z (ev_den (.ptr 80 [] (some 0)) z z (ev_call1 [(.ptr 80 [] (some 0))] z (call_okt (call_ok (rs := [80]) (rd := []) z z z z (argL_cons z (argL_nil)) z z (spec_l1Cur_tokens_ok hv6) z z z (bindR_a (bindL_cons z (bindL_cons z (bindL_cons z (bindL_nil))))) z)) (ev_new (.ptr 144 [] (some 0)) (.ptr (.agg [.int .i64 ((0 : Int)), .int .i64 ((0 : Int)), .int .i64 ((0 : Int))])) z z (ev_wr0 z (w_st_a z z z (stL_cons (st1_of z z z (get_f z (get_nil)) z (rput_p (put_f z (put_nil)))) z (stL_cons (st1_of z z z (get_f z (get_nil)) z (rput_p (put_f z (put_nil)))) z (stL_cons (st1_of z z z (get_f z (get_nil)) z (rput_p (put_f z (put_nil)))) z (stL_nil))))) (ev_nil))))) (seqQ_n (?_))
 refine wp_seq ?_
 obtain ⟨v7, hv7, h⟩ := bs h
 obtain ⟨v8, hv8, h⟩ := bs h
 obtain ⟨v9, hv9, h⟩ := bs h
 obtain ⟨v10, hv10, h⟩ := bs h
 refine wp_regA z (ar_cons (nx' := 400) z (rl_cons z (ev_den (.agg [(.vw _ _), (.vw _ _), (.vw _ _)]) z (d_ld_os z (rget_of z (get_nil)) z (cells_cons z (cells_cons z (cells_cons z (cells_nil))))) (ev_nil)) (rl_cons z (ev_den (.ptr 80 [] (some 0)) z z (ev_nil)) (rl_cons z (ev_den (.agg [(.vw _ _), (.vw _ _), (.vw _ _)]) z (d_ld_os z (rget_of z (get_nil)) z (cells_cons z (cells_cons z (cells_cons z (cells_nil))))) (ev_nil)) (rl_cons z (ev_call1 [(.ptr 80 [] (some 0)), (.agg [(.vw _ _), (.vw _ _), (.vw _ _)])] z (call_okt (call_ok (rs := [80]) (rd := []) z z z z (argL_cons z (argL_cons (argT_a (argL_cons z (argL_cons z (argL_cons z (argL_nil))))) (argL_nil))) z z (spec_l1Cur_calls_ok hv7) z z z bindR_r z)) (ev_nil)) (rl_cons z (ev_den (.ptr 80 [] (some 0)) z z (ev_nil)) (rl_cons z (ev_den (.ptr 80 [] (some 0)) z z (ev_nil)) (rl_cons z (ev_call1 [(.ptr 80 [] (some 0)), (.vw _ _)] z (call_okt (call_ok (rs := [80]) (rd := []) z z z z (argL_cons z (argL_cons z (argL_nil))) z z (spec_l1Cur_pick_ok hv8) z z z z z)) (ev_nil)) (rl_cons z (ev_den (.ptr 80 [] (some 0)) z z (ev_nil)) (rl_cons z (ev_call1 [(.ptr 80 [] (some 0)), (.vw _ _)] z (call_okt (call_ok (rs := [80]) (rd := []) z z z z (argL_cons z (argL_cons z (argL_nil))) z z (spec_l1Cur_pick_ok hv9) z z z z z)) (ev_nil)) (rl_cons z (ev_v z z (ev_nil)) (rl_cons z (ev_call1 [(.ptr 80 [] (some 0)), (.vw _ _)] z (call_okt (call_ok (rs := [80]) (rd := []) z z z z (argL_cons z (argL_cons z (argL_nil))) z z (spec_l1Cur_among_ok hv10) z z z z z)) (ev_nil)) (rl_cons z (ev_wr0 z (w_st_a z z z (stL_cons (st1_of z z z (get_f z (get_nil)) z (rput_p (put_f z (put_nil)))) z (stL_cons (st1_of z z z (get_f z (get_nil)) z (rput_p (put_f z (put_nil)))) z (stL_cons (st1_of z z z (get_f z (get_nil)) z (rput_p (put_f z (put_nil)))) z (stL_nil))))) (ev_nil)) (rl_cons z (ev_den (.ref 224 _ _ _ _) z z (ev_nil)) (rl_cons z (ev_v z z (ev_nil)) (rl_nil))))))))))))))) (gc_to [0, 224] (e := [(2, .ptr 0 [] (some 0)), (3, .ref 1 [] 3 0 (List.length v7.1)), (4, .vw [] (.int .i64 v10.1))]) (ts := [some (.ptr (.agg [.int .i64 v6.1.1, .int .i64 v6.1.2.1, .int .i64 v6.1.2.2])), some (.rows 3 (List.map e0 v7.1))]) (n := 2) z z z z) (ar_cons (nx' := 400) z (rl_cons z (ev_den (.ptr 80 [] (some 0)) z z (ev_nil)) (rl_cons z (ev_den (.agg [(.vw _ _), (.vw _ _), (.vw _ _)]) z (d_ld_os z (rget_of z (get_nil)) z (cells_cons z (cells_cons z (cells_cons z (cells_nil))))) (ev_nil)) (rl_cons z (ev_call1 [(.ptr 80 [] (some 0)), (.agg [(.vw _ _), (.vw _ _), (.vw _ _)])] z (call_okt (call_ok (rs := [80]) (rd := []) z z z z (argL_cons z (argL_cons (argT_a (argL_cons z (argL_cons z (argL_cons z (argL_nil))))) (argL_nil))) z z (spec_l1Cur_calls_ok hv7) z z z bindR_r z)) (ev_nil)) (rl_cons z (ev_den (.agg [(.vw _ _), (.vw _ _), (.vw _ _)]) z (d_ld_os z (rget_of z (get_nil)) z (cells_cons z (cells_cons z (cells_cons z (cells_nil))))) (ev_nil)) (rl_cons z (ev_den (.ptr 80 [] (some 0)) z z (ev_nil)) (rl_cons z (ev_den (.ptr 80 [] (some 0)) z z (ev_nil)) (rl_cons z (ev_call1 [(.ptr 80 [] (some 0)), (.vw _ _)] z (call_okt (call_ok (rs := [80]) (rd := []) z z z z (argL_cons z (argL_cons z (argL_nil))) z z (spec_l1Cur_pick_ok hv8) z z z z z)) (ev_nil)) (rl_cons z (ev_den (.ptr 80 [] (some 0)) z z (ev_nil)) (rl_cons z (ev_call1 [(.ptr 80 [] (some 0)), (.vw _ _)] z (call_okt (call_ok (rs := [80]) (rd := []) z z z z (argL_cons z (argL_cons z (argL_nil))) z z (spec_l1Cur_pick_ok hv9) z z z z z)) (ev_nil)) (rl_cons z (ev_v z z (ev_nil)) (rl_cons z (ev_call1 [(.ptr 80 [] (some 0)), (.vw _ _)] z (call_okt (call_ok (rs := [80]) (rd := []) z z z z (argL_cons z (argL_cons z (argL_nil))) z z (spec_l1Cur_among_ok hv10) z z z z z)) (ev_nil)) (rl_cons z (ev_wr0 z (w_st_a z z z (stL_cons (st1_of z z z (get_f z (get_nil)) z (rput_p (put_f z (put_nil)))) z (stL_cons (st1_of z z z (get_f z (get_nil)) z (rput_p (put_f z (put_nil)))) z (stL_cons (st1_of z z z (get_f z (get_nil)) z (rput_p (put_f z (put_nil)))) z (stL_nil))))) (ev_nil)) (rl_cons z (ev_den (.ref 224 _ _ _ _) z z (ev_nil)) (rl_cons z (ev_v z z (ev_nil)) (rl_nil))))))))))))))) (gc_to [0, 224] (e := [(2, .ptr 0 [] (some 0)), (3, .ref 1 [] 3 0 (List.length v7.1)), (4, .vw [] (.int .i64 v10.1))]) (ts := [some (.ptr (.agg [.int .i64 v6.1.1, .int .i64 v6.1.2.1, .int .i64 v6.1.2.2])), some (.rows 3 (List.map e0 v7.1))]) (n := 2) z z z z) (ar_cons (nx' := 400) z (rl_cons z (ev_den (.ptr 80 [] (some 0)) z z (ev_nil)) (rl_cons z (ev_den (.agg [(.vw _ _), (.vw _ _), (.vw _ _)]) z (d_ld_os z (rget_of z (get_nil)) z (cells_cons z (cells_cons z (cells_cons z (cells_nil))))) (ev_nil)) (rl_cons z (ev_call1 [(.ptr 80 [] (some 0)), (.agg [(.vw _ _), (.vw _ _), (.vw _ _)])] z (call_okt (call_ok (rs := [80]) (rd := []) z z z z (argL_cons z (argL_cons (argT_a (argL_cons z (argL_cons z (argL_cons z (argL_nil))))) (argL_nil))) z z (spec_l1Cur_calls_ok hv7) z z z bindR_r z)) (ev_nil)) (rl_cons z (ev_den (.ptr 80 [] (some 0)) z z (ev_nil)) (rl_cons z (ev_den (.ptr 80 [] (some 0)) z z (ev_nil)) (rl_cons z (ev_call1 [(.ptr 80 [] (some 0)), (.vw _ _)] z (call_okt (call_ok (rs := [80]) (rd := []) z z z z (argL_cons z (argL_cons z (argL_nil))) z z (spec_l1Cur_pick_ok hv8) z z z z z)) (ev_nil)) (rl_cons z (ev_den (.agg [(.vw _ _), (.vw _ _), (.vw _ _)]) z (d_ld_os z (rget_of z (get_nil)) z (cells_cons z (cells_cons z (cells_cons z (cells_nil))))) (ev_nil)) (rl_cons z (ev_den (.ptr 80 [] (some 0)) z z (ev_nil)) (rl_cons z (ev_call1 [(.ptr 80 [] (some 0)), (.vw _ _)] z (call_okt (call_ok (rs := [80]) (rd := []) z z z z (argL_cons z (argL_cons z (argL_nil))) z z (spec_l1Cur_pick_ok hv9) z z z z z)) (ev_nil)) (rl_cons z (ev_v z z (ev_nil)) (rl_cons z (ev_call1 [(.ptr 80 [] (some 0)), (.vw _ _)] z (call_okt (call_ok (rs := [80]) (rd := []) z z z z (argL_cons z (argL_cons z (argL_nil))) z z (spec_l1Cur_among_ok hv10) z z z z z)) (ev_nil)) (rl_cons z (ev_wr0 z (w_st_a z z z (stL_cons (st1_of z z z (get_f z (get_nil)) z (rput_p (put_f z (put_nil)))) z (stL_cons (st1_of z z z (get_f z (get_nil)) z (rput_p (put_f z (put_nil)))) z (stL_cons (st1_of z z z (get_f z (get_nil)) z (rput_p (put_f z (put_nil)))) z (stL_nil))))) (ev_nil)) (rl_cons z (ev_den (.ref 224 _ _ _ _) z z (ev_nil)) (rl_cons z (ev_v z z (ev_nil)) (rl_nil))))))))))))))) (gc_to [0, 224] (e := [(2, .ptr 0 [] (some 0)), (3, .ref 1 [] 3 0 (List.length v7.1)), (4, .vw [] (.int .i64 v10.1))]) (ts := [some (.ptr (.agg [.int .i64 v6.1.1, .int .i64 v6.1.2.1, .int .i64 v6.1.2.2])), some (.rows 3 (List.map e0 v7.1))]) (n := 2) z z z z) (ar_cons (nx' := 400) z (rl_cons z (ev_den (.ptr 80 [] (some 0)) z z (ev_nil)) (rl_cons z (ev_den (.agg [(.vw _ _), (.vw _ _), (.vw _ _)]) z (d_ld_os z (rget_of z (get_nil)) z (cells_cons z (cells_cons z (cells_cons z (cells_nil))))) (ev_nil)) (rl_cons z (ev_call1 [(.ptr 80 [] (some 0)), (.agg [(.vw _ _), (.vw _ _), (.vw _ _)])] z (call_okt (call_ok (rs := [80]) (rd := []) z z z z (argL_cons z (argL_cons (argT_a (argL_cons z (argL_cons z (argL_cons z (argL_nil))))) (argL_nil))) z z (spec_l1Cur_calls_ok hv7) z z z bindR_r z)) (ev_nil)) (rl_cons z (ev_den (.ptr 80 [] (some 0)) z z (ev_nil)) (rl_cons z (ev_den (.ptr 80 [] (some 0)) z z (ev_nil)) (rl_cons z (ev_call1 [(.ptr 80 [] (some 0)), (.vw _ _)] z (call_okt (call_ok (rs := [80]) (rd := []) z z z z (argL_cons z (argL_cons z (argL_nil))) z z (spec_l1Cur_pick_ok hv8) z z z z z)) (ev_nil)) (rl_cons z (ev_den (.ptr 80 [] (some 0)) z z (ev_nil)) (rl_cons z (ev_call1 [(.ptr 80 [] (some 0)), (.vw _ _)] z (call_okt (call_ok (rs := [80]) (rd := []) z z z z (argL_cons z (argL_cons z (argL_nil))) z z (spec_l1Cur_pick_ok hv9) z z z z z)) (ev_nil)) (rl_cons z (ev_den (.agg [(.vw _ _), (.vw _ _), (.vw _ _)]) z (d_ld_os z (rget_of z (get_nil)) z (cells_cons z (cells_cons z (cells_cons z (cells_nil))))) (ev_nil)) (rl_cons z (ev_v z z (ev_nil)) (rl_cons z (ev_call1 [(.ptr 80 [] (some 0)), (.vw _ _)] z (call_okt (call_ok (rs := [80]) (rd := []) z z z z (argL_cons z (argL_cons z (argL_nil))) z z (spec_l1Cur_among_ok hv10) z z z z z)) (ev_nil)) (rl_cons z (ev_wr0 z (w_st_a z z z (stL_cons (st1_of z z z (get_f z (get_nil)) z (rput_p (put_f z (put_nil)))) z (stL_cons (st1_of z z z (get_f z (get_nil)) z (rput_p (put_f z (put_nil)))) z (stL_cons (st1_of z z z (get_f z (get_nil)) z (rput_p (put_f z (put_nil)))) z (stL_nil))))) (ev_nil)) (rl_cons z (ev_den (.ref 224 _ _ _ _) z z (ev_nil)) (rl_cons z (ev_v z z (ev_nil)) (rl_nil))))))))))))))) (gc_to [0, 224] (e := [(2, .ptr 0 [] (some 0)), (3, .ref 1 [] 3 0 (List.length v7.1)), (4, .vw [] (.int .i64 v10.1))]) (ts := [some (.ptr (.agg [.int .i64 v6.1.1, .int .i64 v6.1.2.1, .int .i64 v6.1.2.2])), some (.rows 3 (List.map e0 v7.1))]) (n := 2) z z z z) (ar_cons (nx' := 400) z (rl_cons z (ev_den (.ptr 80 [] (some 0)) z z (ev_nil)) (rl_cons z (ev_den (.agg [(.vw _ _), (.vw _ _), (.vw _ _)]) z (d_ld_os z (rget_of z (get_nil)) z (cells_cons z (cells_cons z (cells_cons z (cells_nil))))) (ev_nil)) (rl_cons z (ev_call1 [(.ptr 80 [] (some 0)), (.agg [(.vw _ _), (.vw _ _), (.vw _ _)])] z (call_okt (call_ok (rs := [80]) (rd := []) z z z z (argL_cons z (argL_cons (argT_a (argL_cons z (argL_cons z (argL_cons z (argL_nil))))) (argL_nil))) z z (spec_l1Cur_calls_ok hv7) z z z bindR_r z)) (ev_nil)) (rl_cons z (ev_den (.ptr 80 [] (some 0)) z z (ev_nil)) (rl_cons z (ev_den (.ptr 80 [] (some 0)) z z (ev_nil)) (rl_cons z (ev_call1 [(.ptr 80 [] (some 0)), (.vw _ _)] z (call_okt (call_ok (rs := [80]) (rd := []) z z z z (argL_cons z (argL_cons z (argL_nil))) z z (spec_l1Cur_pick_ok hv8) z z z z z)) (ev_nil)) (rl_cons z (ev_den (.ptr 80 [] (some 0)) z z (ev_nil)) (rl_cons z (ev_call1 [(.ptr 80 [] (some 0)), (.vw _ _)] z (call_okt (call_ok (rs := [80]) (rd := []) z z z z (argL_cons z (argL_cons z (argL_nil))) z z (spec_l1Cur_pick_ok hv9) z z z z z)) (ev_nil)) (rl_cons z (ev_v z z (ev_nil)) (rl_cons z (ev_call1 [(.ptr 80 [] (some 0)), (.vw _ _)] z (call_okt (call_ok (rs := [80]) (rd := []) z z z z (argL_cons z (argL_cons z (argL_nil))) z z (spec_l1Cur_among_ok hv10) z z z z z)) (ev_nil)) (rl_cons z (ev_den (.agg [(.vw _ _), (.vw _ _), (.vw _ _)]) z (d_ld_os z (rget_of z (get_nil)) z (cells_cons z (cells_cons z (cells_cons z (cells_nil))))) (ev_nil)) (rl_cons z (ev_wr0 z (w_st_a z z z (stL_cons (st1_of z z z (get_f z (get_nil)) z (rput_p (put_f z (put_nil)))) z (stL_cons (st1_of z z z (get_f z (get_nil)) z (rput_p (put_f z (put_nil)))) z (stL_cons (st1_of z z z (get_f z (get_nil)) z (rput_p (put_f z (put_nil)))) z (stL_nil))))) (ev_nil)) (rl_cons z (ev_den (.ref 224 _ _ _ _) z z (ev_nil)) (rl_cons z (ev_v z z (ev_nil)) (rl_nil))))))))))))))) (gc_to [0, 224] (e := [(2, .ptr 0 [] (some 0)), (3, .ref 1 [] 3 0 (List.length v7.1)), (4, .vw [] (.int .i64 v10.1))]) (ts := [some (.ptr (.agg [.int .i64 v6.1.1, .int .i64 v6.1.2.1, .int .i64 v6.1.2.2])), some (.rows 3 (List.map e0 v7.1))]) (n := 2) z z z z) (ar_nil)))))) (seqQ_n (?_))
 replace h := Option.some.inj h
 subst h
 exact wp_ret (qf_r ((outs_ok (vs := [(.agg [(.vw _ _), (.vw _ _), (.vw _ _)]), (.ref 1 _ _ _ _), (.vw _ _)]) z (absW_cons (retT_agg (absW_cons z z (absW_cons z z (absW_cons z z (absW_nil))))) z (absW_cons (retT_ref (abs_ref z sub_r)) z (absW_cons z z (absW_nil)))) z z)))
noncomputable def impl_TokenAt_s2 (p2 : Int) : (Int × Int × Int × (List (Int × Int × Int)) × Int × Int × (List Int)) → Option ((Int × Int × Int × (List (Int × Int × Int)) × Int × Int × (List Int)) ⊕ ((Int × Bool))) := fun (x77, x78, x79, x80, x81, x82, x83) =>
(impl_walker_visit ((x77, x78, x79, x80, x81, x82, x83))).bind fun v116 =>
(at? v116.1 ((0 : Int))).bind fun v119 =>
if (decide (p2 < v119)) = true then
some (.inr ((0 : Int), false))
else
(at? v116.1 ((2 : Int))).bind fun v121 =>
if (decide (p2 < (w64 (v119 + (if v121 > (1 : Int) then v121 else (1 : Int)))))) = true then
(at? v116.1 ((1 : Int))).bind fun v123 =>
some (.inr (v123, true))
else
some (.inl (v116.2.1, v116.2.2.1, v116.2.2.2.1, v116.2.2.2.2.1, v116.2.2.2.2.2.1, v116.2.2.2.2.2.2.1, v116.2.2.2.2.2.2.2))
noncomputable def impl_TokenAt_l2 (p2 : Int) : (Int × Int × Int × (List (Int × Int × Int)) × Int × Int × (List Int)) → Option ((Int × Bool)) := iter (impl_TokenAt_s2 p2)
noncomputable def impl_TokenAt_j1 (p0 : Int × Int × Int) (p1 : List (Int × Int × Int)) (p2 : Int) : Bool → Option ((Int × Bool)) := fun x41 =>
if x41 = true then
some ((0 : Int), false)
else
(impl_newWalker p0 p1).bind fun v44 =>
(impl_TokenAt_l2 p2 (v44.1, v44.2.1, v44.2.2.1, v44.2.2.2.1, v44.2.2.2.2.1, v44.2.2.2.2.2.1, v44.2.2.2.2.2.2)).bind fun r132 =>
some r132
noncomputable def impl_TokenAt (p0 : Int × Int × Int) (p1 : List (Int × Int × Int)) (p2 : Int) : Option ((Int × Bool)) :=
(impl_isCalled p0 p1).bind fun v133 =>
if (!v133) = true then
impl_TokenAt_j1 p0 p1 p2 true
else
(impl_isTick p2).bind fun v136 =>
impl_TokenAt_j1 p0 p1 p2 (!v136)
theorem impl_TokenAt_ok {p0 : Int × Int × Int} {p1 : List (Int × Int × Int)} {p2 : Int} {o : (Int × Bool)} (h : impl_TokenAt p0 p1 p2 = some o) : RN 25 [.agg [.int .i64 p0.1, .int .i64 p0.2.1, .int .i64 p0.2.2], .rows 3 (List.map e0 p1), .int .i64 p2] [] = some (.tup [.int .i64 o.1, .bool o.2], []) := by
 refine fn_run (o := o) (nr := 0) (F := k25) (st := ⟨entry 0 [.agg [.vw [] (.int .i64 p0.1), .vw [] (.int .i64 p0.2.1), .vw [] (.int .i64 p0.2.2)], .vw [] (.rows 3 (List.map e0 p1)), .vw [] (.int .i64 p2)], fun n => ([] : List T)[n]?, 0⟩) (fun (o : (Int × Bool)) => (.tup [.int .i64 o.1, .bool o.2], [])) z fns_25 z z z ?_
 refine wp_seq ?_
 refine wp_reg (nx' := 48) z (ev_wr z (w_box (sv := (.agg [(.vw _ _), (.vw _ _), (.vw _ _)])) z z (absW_cons z z (absW_cons z z (absW_cons z z (absW_nil))))) (ev_v z z (ev_v z z (ev_nil)))) (seqQ_n (?_))
 refine wp_seq ?_
 refine wp_gc ?_
 refine wp_seq ?_
 refine wp_join (impl_TokenAt_j1 p0 p1 p2) (fun (x41 : Bool) => (⟨al .dead [(1, .vw [] (.rows 3 (List.map e0 p1))), (2, .vw [] (.int .i64 p2)), (3, .ptr 0 [] (some 0)), (18, .vw [] (.bool x41))], hl [some (.ptr (.agg [.int .i64 p0.1, .int .i64 p0.2.1, .int .i64 p0.2.2]))], 1⟩ : St)) ?_ ?_
 ·rintro x41 o h
  unfold impl_TokenAt_j1 at h
  refine seqQ_n (?_)
  rcases its h with ⟨hc42, h⟩ | ⟨hc42, h⟩
  ·refine wp_ct z hc42 ?_
   refine wp_seq ?_
   refine wp_reg (nx' := 33) z (ev_v z z (ev_v z z (ev_nil))) (seqQ_n (?_))
   replace h := Option.some.inj h
   subst h
   exact wp_ret (gcQ_r (seqQ_r (qf_r ((outs_ok (vs := [(.vw _ _), (.vw _ _)]) z (absW_cons z z (absW_cons z z (absW_nil))) z z)))))
  ·refine wp_cf z hc42 ?_
   refine wp_skip (gcQ_n (gc_to [0] (e := [(1, .vw [] (.rows 3 (List.map e0 p1))), (2, .vw [] (.int .i64 p2)), (3, .ptr 0 [] (some 0))]) (ts := [some (.ptr (.agg [.int .i64 p0.1, .int .i64 p0.2.1, .int .i64 p0.2.2]))]) (n := 1) z z z z) (seqQ_n (?_)))
   refine wp_seq ?_
   refine wp_gc ?_
   obtain ⟨v44, hv44, h⟩ := bs h
   refine wp_reg (nx' := 65) z (ev_den (.agg [(.vw _ _), (.vw _ _), (.vw _ _)]) z (d_ld_os z (rget_of z (get_nil)) z (cells_cons z (cells_cons z (cells_cons z (cells_nil))))) (ev_v z z (ev_call0 [(.agg [(.vw _ _), (.vw _ _), (.vw _ _)]), (.vw _ _)] z (call_okf (vs' := [(.agg [(.vw _ _), (.vw _ _), (.vw _ _)]), (.vw _ _)]) z (call_ok (rs := []) (rd := []) z z z z (argL_cons (argT_a (argL_cons z (argL_cons z (argL_cons z (argL_nil))))) (argL_cons z (argL_nil))) z z (impl_newWalker_ok hv44) z z z z z)) (ev_den (.ptr 33 [] (some 0)) z z (ev_nil))))) (gcQ_n (gc_to [33] (e := [(2, .vw [] (.int .i64 p2)), (8, .ptr 0 [] (some 0))]) (ts := [some (.ptr (.agg [.int .i64 v44.1, .int .i64 v44.2.1, .int .i64 v44.2.2.1, .sh (.rows 3 (List.map e0 v44.2.2.2.1)), .int .i64 v44.2.2.2.2.1, .int .i64 v44.2.2.2.2.2.1, .ints .i64 v44.2.2.2.2.2.2]))]) (n := 1) z z z z) (seqQ_n (?_)))
   refine wp_gc ?_
   refine wp_blk ?_
   obtain ⟨r132, hw131, h⟩ := bs h
   refine wp_mono (wp_loop (fun ((x77, x78, x79, x80, x81, x82, x83) : Int × Int × Int × (List (Int × Int × Int)) × Int × Int × (List Int)) => (⟨al .dead [(2, .vw [] (.int .i64 p2)), (8, .ptr 0 [] (some 0))], hl [some (.ptr (.agg [.int .i64 x77, .int .i64 x78, .int .i64 x79, .sh (.rows 3 (List.map e0 x80)), .int .i64 x81, .int .i64 x82, .ints .i64 x83]))], 1⟩ : St)) (fun (rr : (Int × Bool)) e st => e = .ret ∧ outs 0 k25 st = some (.tup [.int .i64 rr.1, .bool rr.2], [])) hw131 ?_) ?_
   ·rintro ⟨x77, x78, x79, x80, x81, x82, x83⟩ o h
    refine wp_gc ?_
    refine wp_gc ?_
    refine wp_blk ?_
    refine wp_seq ?_
    obtain ⟨v116, hv116, h⟩ := bs h
    refine wp_reg (nx' := 49) z (ev_den (.ptr 0 [] (some 0)) z z (ev_call1 [(.ptr 0 [] (some 0))] z (call_okt (call_ok (rs := [0]) (rd := []) z z z z (argL_cons z (argL_nil)) z z (impl_walker_visit_ok hv116) z z z z z)) (ev_den (.ref 17 _ _ _ _) z z (ev_nil)))) (seqQ_n (?_))
    refine wp_seq ?_
    refine wp_gc ?_
    refine wp_seq ?_
    obtain ⟨v119, hv119, h⟩ := bs h
    refine wp_reg (nx' := 129) z (ev_v z z (ev_den (.ref 17 _ _ _ _) z z (ev_den (.ptr 17 [.e (Int.toNat ((0 : Int)))] none) z (d_idx_r (p := []) z z hv119) (ev_v z (d_ld_p z (rget_of z (get_i hv119)) z) (ev_v z z (ev_nil)))))) (seqQ_n (?_))
    rcases its h with ⟨hc120, h⟩ | ⟨hc120, h⟩
    ·refine wp_ct z hc120 ?_
     refine wp_seq ?_
     refine wp_reg (nx' := 161) z (ev_v z z (ev_v z z (ev_nil))) (seqQ_n (?_))
     replace h := Option.some.inj h
     subst h
     exact wp_ret (gcQ_r (seqQ_r (blkQ_r (gcQ_r (gcQ_r (loopQ_r (And.intro z (outs_ok (vs := [(.vw _ _), (.vw _ _)]) z (absW_cons z z (absW_cons z z (absW_nil))) z z))))))))
    ·refine wp_cf z hc120 ?_
     refine wp_skip (gcQ_n (gc_to [0, 17] (e := [(2, .vw [] (.int .i64 p2)), (8, .ptr 0 [] (some 0)), (9, .ref 1 [] 1 0 (List.length v116.1))]) (ts := [some (.ptr (.agg [.int .i64 v116.2.1, .int .i64 v116.2.2.1, .int .i64 v116.2.2.2.1, .sh (.rows 3 (List.map e0 v116.2.2.2.2.1)), .int .i64 v116.2.2.2.2.2.1, .int .i64 v116.2.2.2.2.2.2.1, .ints .i64 v116.2.2.2.2.2.2.2])), some (.ints .i64 v116.1)]) (n := 2) z z z z) (seqQ_n (?_)))
     refine wp_seq ?_
     obtain ⟨v121, hv121, h⟩ := bs h
     refine wp_reg (nx' := 162) z (ev_v z z (ev_den (.ref 1 _ _ _ _) z z (ev_den (.ptr 1 [.e (Int.toNat ((0 : Int)))] none) z (d_idx_r (p := []) z z hv119) (ev_v z (d_ld_p z (rget_of z (get_i hv119)) z) (ev_den (.ref 1 _ _ _ _) z z (ev_den (.ptr 1 [.e (Int.toNat ((2 : Int)))] none) z (d_idx_r (p := []) z z hv121) (ev_v z (d_ld_p z (rget_of z (get_i hv121)) z) (ev_v z z (ev_v z z (ev_v z z (ev_nil))))))))))) (seqQ_n (?_))
     rcases its h with ⟨hc122, h⟩ | ⟨hc122, h⟩
     ·refine wp_ct z hc122 ?_
      refine wp_seq ?_
      obtain ⟨v123, hv123, h⟩ := bs h
      refine wp_reg (nx' := 242) z (ev_den (.ref 1 _ _ _ _) z z (ev_den (.ptr 1 [.e (Int.toNat ((1 : Int)))] none) z (d_idx_r (p := []) z z hv123) (ev_v z (d_ld_p z (rget_of z (get_i hv123)) z) (ev_v z z (ev_v z z (ev_nil)))))) (seqQ_n (?_))
      replace h := Option.some.inj h
      subst h
      exact wp_ret (blkQ_r (gcQ_r (gcQ_r (loopQ_r (And.intro z (outs_ok (vs := [(.vw _ _), (.vw _ _)]) z (absW_cons z z (absW_cons z z (absW_nil))) z z))))))
     ·refine wp_cf z hc122 ?_
      replace h := Option.some.inj h
      subst h
      exact wp_skip (blkQ_n (gcQ_n (gc_to [0] (e := [(2, .vw [] (.int .i64 p2)), (8, .ptr 0 [] (some 0))]) (ts := [some (.ptr (.agg [.int .i64 v116.2.1, .int .i64 v116.2.2.1, .int .i64 v116.2.2.2.1, .sh (.rows 3 (List.map e0 v116.2.2.2.2.1)), .int .i64 v116.2.2.2.2.2.1, .int .i64 v116.2.2.2.2.2.2.1, .ints .i64 v116.2.2.2.2.2.2.2]))]) (n := 1) z z z z) (gcQ_n (gc_to [0] (e := [(2, .vw [] (.int .i64 p2)), (8, .ptr 0 [] (some 0))]) (ts := [some (.ptr (.agg [.int .i64 v116.2.1, .int .i64 v116.2.2.1, .int .i64 v116.2.2.2.1, .sh (.rows 3 (List.map e0 v116.2.2.2.2.1)), .int .i64 v116.2.2.2.2.2.1, .int .i64 v116.2.2.2.2.2.2.1, .ints .i64 v116.2.2.2.2.2.2.2]))]) (n := 1) z z z z) (loopQ_n z))))
   ·intro e st131 hg131
    obtain ⟨rfl, hg131⟩ := hg131
    replace h := Option.some.inj h
    subst h
    exact blkQ_r (gcQ_r (qf_r (hg131)))
 ·obtain ⟨v133, hv133, h⟩ := bs h
  rcases its h with ⟨hc134, h⟩ | ⟨hc134, h⟩
  ·exact wp_reg (nx' := 192) z (ev_den (.agg [(.vw _ _), (.vw _ _), (.vw _ _)]) z (d_ld_os z (rget_of z (get_nil)) z (cells_cons z (cells_cons z (cells_cons z (cells_nil))))) (ev_v z z (ev_call0 [(.agg [(.vw _ _), (.vw _ _), (.vw _ _)]), (.vw _ _)] z (call_okf (vs' := [(.agg [(.vw _ _), (.vw _ _), (.vw _ _)]), (.vw _ _)]) z (call_ok (rs := []) (rd := []) z z z z (argL_cons (argT_a (argL_cons z (argL_cons z (argL_cons z (argL_nil))))) (argL_cons z (argL_nil))) z z (impl_isCalled_ok hv133) z z z z z)) (ev_v z z (ev_v z z (ev_off z hc134 (ev_off z hc134 (ev_off z hc134 (ev_v z (d_pick_t z hc134 z) (ev_nil)))))))))) (joinQ_n true h (gc_to [0] z z z z))
  ·obtain ⟨v136, hv136, h⟩ := bs h
   exact wp_reg (nx' := 192) z (ev_den (.agg [(.vw _ _), (.vw _ _), (.vw _ _)]) z (d_ld_os z (rget_of z (get_nil)) z (cells_cons z (cells_cons z (cells_cons z (cells_nil))))) (ev_v z z (ev_call0 [(.agg [(.vw _ _), (.vw _ _), (.vw _ _)]), (.vw _ _)] z (call_okf (vs' := [(.agg [(.vw _ _), (.vw _ _), (.vw _ _)]), (.vw _ _)]) z (call_ok (rs := []) (rd := []) z z z z (argL_cons (argT_a (argL_cons z (argL_cons z (argL_cons z (argL_nil))))) (argL_cons z (argL_nil))) z z (impl_isCalled_ok hv133) z z z z z)) (ev_v z z (ev_v z z (ev_on z hc134 (ev_v z z (ev_on z hc134 (ev_call0 [(.vw _ _)] z (call_okf (vs' := [(.vw _ _)]) z (call_ok (rs := []) (rd := []) z z z z (argL_cons z (argL_nil)) z z (impl_isTick_ok hv136) z z z z z)) (ev_on z hc134 (ev_v z z (ev_v z (d_pick_f z hc134 z) (ev_nil))))))))))))) (joinQ_n (!v136) h (gc_to [0] z z z z))
noncomputable def spec_TokenAt_s2 (p2 : Int) : (Int × Int × Int × (List (Int × Int × Int)) × (List Int) × (List (List Int)) × Int) → Option ((Int × Int × Int × (List (Int × Int × Int)) × (List Int) × (List (List Int)) × Int) ⊕ (Int × Int × Int × (List (Int × Int × Int)) × (List Int) × (List (List Int)) × Int)) := fun (x103, x104, x105, x106, x107, x108, x109) =>
if (decide (x109 ≤ p2)) = true then
(spec_tkRun_visit ((x103, x104, x105, x106, x107, x108, x109))).bind fun v138 =>
some (.inl (v138.1, v138.2.1, v138.2.2.1, v138.2.2.2.1, v138.2.2.2.2.1, v138.2.2.2.2.2.1, v138.2.2.2.2.2.2))
else
some (.inr (x103, x104, x105, x106, x107, x108, x109))
noncomputable def spec_TokenAt_l2 (p2 : Int) : (Int × Int × Int × (List (Int × Int × Int)) × (List Int) × (List (List Int)) × Int) → Option (Int × Int × Int × (List (Int × Int × Int)) × (List Int) × (List (List Int)) × Int) := iter (spec_TokenAt_s2 p2)
noncomputable def spec_TokenAt_j3 (v154 : List Int) : Bool → Option ((Int × Bool)) := fun x164 =>
if x164 = true then
(at? v154 ((1 : Int))).bind fun v166 =>
some (v166, true)
else
some ((0 : Int), false)
noncomputable def spec_TokenAt_j1 (p0 : Int × Int × Int) (p1 : List (Int × Int × Int)) (p2 : Int) : Bool → Option ((Int × Bool)) := fun x47 =>
if x47 = true then
some ((0 : Int), false)
else
(spec_tkStart p0 p1).bind fun v50 =>
(spec_TokenAt_l2 p2 (v50.1, v50.2.1, v50.2.2.1, v50.2.2.2.1, v50.2.2.2.2.1, v50.2.2.2.2.2.1, v50.2.2.2.2.2.2)).bind fun (x119, x120, x121, x122, x123, x124, x125) =>
(at? x124 ((w64 ((List.length x124 : Int) - (1 : Int))))).bind fun v154 =>
(at? v154 ((0 : Int))).bind fun v167 =>
if (p2 == v167) = true then
spec_TokenAt_j3 v154 true
else
(at? v154 ((2 : Int))).bind fun v170 =>
spec_TokenAt_j3 v154 (decide (p2 < (w64 (v167 + v170))))
noncomputable def spec_TokenAt (p0 : Int × Int × Int) (p1 : List (Int × Int × Int)) (p2 : Int) : Option ((Int × Bool)) :=
(spec_tkCalls p0 p1).bind fun v172 =>
if (!v172) = true then
spec_TokenAt_j1 p0 p1 p2 true
else
(spec_l1In p2 ((0 : Int)) ((1000 : Int))).bind fun v175 =>
spec_TokenAt_j1 p0 p1 p2 (!v175)
theorem spec_TokenAt_ok {p0 : Int × Int × Int} {p1 : List (Int × Int × Int)} {p2 : Int} {o : (Int × Bool)} (h : spec_TokenAt p0 p1 p2 = some o) : RN 26 [.agg [.int .i64 p0.1, .int .i64 p0.2.1, .int .i64 p0.2.2], .rows 3 (List.map e0 p1), .int .i64 p2] [] = some (.tup [.int .i64 o.1, .bool o.2], []) := by
 refine fn_run (o := o) (nr := 0) (F := k26) (st := ⟨entry 0 [.agg [.vw [] (.int .i64 p0.1), .vw [] (.int .i64 p0.2.1), .vw [] (.int .i64 p0.2.2)], .vw [] (.rows 3 (List.map e0 p1)), .vw [] (.int .i64 p2)], fun n => ([] : List T)[n]?, 0⟩) (fun (o : (Int × Bool)) => (.tup [.int .i64 o.1, .bool o.2], [])) z fns_26 z z z ?_
 refine wp_seq ?_
 refine wp_reg (nx' := 48) z (ev_wr z (w_box (sv := (.agg [(.vw _ _), (.vw _ _), (.vw _ _)])) z z (absW_cons z z (absW_cons z z (absW_cons z z (absW_nil))))) (ev_v z z (ev_v z z (ev_nil)))) (seqQ_n (?_))
 refine wp_seq ?_
 refine wp_gc ?_
 refine wp_seq ?_
 refine wp_join (spec_TokenAt_j1 p0 p1 p2) (fun (x47 : Bool) => (⟨al .dead [(1, .vw [] (.rows 3 (List.map e0 p1))), (2, .vw [] (.int .i64 p2)), (3, .ptr 0 [] (some 0)), (18, .vw [] (.bool x47))], hl [some (.ptr (.agg [.int .i64 p0.1, .int .i64 p0.2.1, .int .i64 p0.2.2]))], 1⟩ : St)) ?_ ?_
 ·rintro x47 o h
  unfold spec_TokenAt_j1 at h
  refine seqQ_n (?_)
  rcases its h with ⟨hc48, h⟩ | ⟨hc48, h⟩
  ·refine wp_ct z hc48 ?_
   refine wp_seq ?_
   refine wp_reg (nx' := 33) z (ev_v z z (ev_v z z (ev_nil))) (seqQ_n (?_))
   replace h := Option.some.inj h
   subst h
   exact wp_ret (gcQ_r (seqQ_r (qf_r ((outs_ok (vs := [(.vw _ _), (.vw _ _)]) z (absW_cons z z (absW_cons z z (absW_nil))) z z)))))
  ·refine wp_cf z hc48 ?_
   refine wp_skip (gcQ_n (gc_to [0] (e := [(1, .vw [] (.rows 3 (List.map e0 p1))), (2, .vw [] (.int .i64 p2)), (3, .ptr 0 [] (some 0))]) (ts := [some (.ptr (.agg [.int .i64 p0.1, .int .i64 p0.2.1, .int .i64 p0.2.2]))]) (n := 1) z z z z) (seqQ_n (?_)))
   refine wp_seq ?_
   refine wp_gc ?_
   obtain ⟨v50, hv50, h⟩ := bs h
   refine wp_reg (nx' := 65) z (ev_den (.agg [(.vw _ _), (.vw _ _), (.vw _ _)]) z (d_ld_os z (rget_of z (get_nil)) z (cells_cons z (cells_cons z (cells_cons z (cells_nil))))) (ev_v z z (ev_call0 [(.agg [(.vw _ _), (.vw _ _), (.vw _ _)]), (.vw _ _)] z (call_okf (vs' := [(.agg [(.vw _ _), (.vw _ _), (.vw _ _)]), (.vw _ _)]) z (call_ok (rs := []) (rd := []) z z z z (argL_cons (argT_a (argL_cons z (argL_cons z (argL_cons z (argL_nil))))) (argL_cons z (argL_nil))) z z (spec_tkStart_ok hv50) z z z z z)) (ev_den (.ptr 33 [] (some 0)) z z (ev_nil))))) (gcQ_n (gc_to [33] (e := [(2, .vw [] (.int .i64 p2)), (8, .ptr 0 [] (some 0))]) (ts := [some (.ptr (.agg [.int .i64 v50.1, .int .i64 v50.2.1, .int .i64 v50.2.2.1, .sh (.rows 3 (List.map e0 v50.2.2.2.1)), .ints .i64 v50.2.2.2.2.1, .rows 1 (List.map (T.ints .i64) v50.2.2.2.2.2.1), .int .i64 v50.2.2.2.2.2.2]))]) (n := 1) z z z z) (seqQ_n (?_)))
   refine wp_seq ?_
   refine wp_gc ?_
   refine wp_gc ?_
   refine wp_blk ?_
   obtain ⟨w153, hw153, h⟩ := bs h
   refine wp_mono (wp_loop (fun ((x103, x104, x105, x106, x107, x108, x109) : Int × Int × Int × (List (Int × Int × Int)) × (List Int) × (List (List Int)) × Int) => (⟨al .dead [(2, .vw [] (.int .i64 p2)), (8, .ptr 0 [] (some 0))], hl [some (.ptr (.agg [.int .i64 x103, .int .i64 x104, .int .i64 x105, .sh (.rows 3 (List.map e0 x106)), .ints .i64 x107, .rows 1 (List.map (T.ints .i64) x108), .int .i64 x109]))], 1⟩ : St)) (fun ((x119, x120, x121, x122, x123, x124, x125) : Int × Int × Int × (List (Int × Int × Int)) × (List Int) × (List (List Int)) × Int) e st => e = .exit 0 ∧ gc 0 [2, 8] st = ⟨al .dead [(2, .vw [] (.int .i64 p2)), (8, .ptr 0 [] (some 0))], hl [some (.ptr (.agg [.int .i64 x119, .int .i64 x120, .int .i64 x121, .sh (.rows 3 (List.map e0 x122)), .ints .i64 x123, .rows 1 (List.map (T.ints .i64) x124), .int .i64 x125]))], 1⟩) hw153 ?_) ?_
   ·rintro ⟨x103, x104, x105, x106, x107, x108, x109⟩ o h
    refine wp_gc ?_
    refine wp_seq ?_
    refine wp_gc ?_
    refine wp_seq ?_
    refine wp_reg (nx' := 97) z (ev_den (.ptr 0 [] (some 0)) z z (ev_den (.ptr 0 [] (some 0)) z z (ev_den (.ptr 0 [] (some 6)) z z (ev_v z (d_ld_o z (rget_of z (get_nil)) z z) (ev_v z z (ev_v z z (ev_nil))))))) (seqQ_n (?_))
    rcases its h with ⟨hc136, h⟩ | ⟨hc136, h⟩
    ·refine wp_ct z hc136 ?_
     refine wp_skip (gcQ_n (gc_to [0] (e := [(2, .vw [] (.int .i64 p2)), (8, .ptr 0 [] (some 0))]) (ts := [some (.ptr (.agg [.int .i64 x103, .int .i64 x104, .int .i64 x105, .sh (.rows 3 (List.map e0 x106)), .ints .i64 x107, .rows 1 (List.map (T.ints .i64) x108), .int .i64 x109]))]) (n := 1) z z z z) (seqQ_n (?_)))
     refine wp_gc ?_
     refine wp_blk ?_
     obtain ⟨v138, hv138, h⟩ := bs h
     replace h := Option.some.inj h
     subst h
     exact wp_reg (nx' := 33) z (ev_den (.ptr 0 [] (some 0)) z z (ev_call1 [(.ptr 0 [] (some 0))] z (call_okt (call_ok (rs := [0]) (rd := []) z z z z (argL_cons z (argL_nil)) z z (spec_tkRun_visit_ok hv138) z z z (bindR_t (bindL_nil)) z)) (ev_nil))) (blkQ_n (gcQ_n (gc_to [0] (e := [(2, .vw [] (.int .i64 p2)), (8, .ptr 0 [] (some 0))]) (ts := [some (.ptr (.agg [.int .i64 v138.1, .int .i64 v138.2.1, .int .i64 v138.2.2.1, .sh (.rows 3 (List.map e0 v138.2.2.2.1)), .ints .i64 v138.2.2.2.2.1, .rows 1 (List.map (T.ints .i64) v138.2.2.2.2.2.1), .int .i64 v138.2.2.2.2.2.2]))]) (n := 1) z z z z) (gcQ_n (gc_to [0] (e := [(2, .vw [] (.int .i64 p2)), (8, .ptr 0 [] (some 0))]) (ts := [some (.ptr (.agg [.int .i64 v138.1, .int .i64 v138.2.1, .int .i64 v138.2.2.1, .sh (.rows 3 (List.map e0 v138.2.2.2.1)), .ints .i64 v138.2.2.2.2.1, .rows 1 (List.map (T.ints .i64) v138.2.2.2.2.2.1), .int .i64 v138.2.2.2.2.2.2]))]) (n := 1) z z z z) (loopQ_n z))))
    ·refine wp_cf z hc136 ?_
     replace h := Option.some.inj h
     subst h
     exact wp_exit (gcQ_e (seqQ_e (gcQ_e (loopQ_e (And.intro z (gc_to [0] (e := [(2, .vw [] (.int .i64 p2)), (8, .ptr 0 [] (some 0))]) (ts := [some (.ptr (.agg [.int .i64 x103, .int .i64 x104, .int .i64 x105, .sh (.rows 3 (List.map e0 x106)), .ints .i64 x107, .rows 1 (List.map (T.ints .i64) x108), .int .i64 x109]))]) (n := 1) z z z z))))))
   ·intro e st153 hg153
    obtain ⟨x119, x120, x121, x122, x123, x124, x125⟩ := w153
    obtain ⟨rfl, hg153⟩ := hg153
    refine blkQ_h (gcQ_n hg153 (gcQ_n (gc_to [0] (e := [(2, .vw [] (.int .i64 p2)), (8, .ptr 0 [] (some 0))]) (ts := [some (.ptr (.agg [.int .i64 x119, .int .i64 x120, .int .i64 x121, .sh (.rows 3 (List.map e0 x122)), .ints .i64 x123, .rows 1 (List.map (T.ints .i64) x124), .int .i64 x125]))]) (n := 1) z z z z) (seqQ_n (?_))))
    refine wp_seq ?_
    obtain ⟨v154, hv154, h⟩ := bs h
    refine wp_reg (nx' := 209) z (ev_den (.ptr 0 [] (some 0)) z z (ev_den (.ptr 0 [] (some 0)) z z (ev_den (.ptr 0 [] (some 5)) z z (ev_den (.ref 0 [.f 5] _ _ _) z (d_ld_o z (rget_of z (get_nil)) z cell_r) (ev_den (.ptr 0 [] (some 0)) z z (ev_den (.ptr 0 [] (some 0)) z z (ev_den (.ptr 0 [] (some 5)) z z (ev_den (.ref 0 [.f 5] _ _ _) z (d_ld_o z (rget_of z (get_nil)) z cell_r) (ev_v z z (ev_v z z (ev_den (.ptr 0 [.f 5, .e (Int.toNat ((w64 ((List.length x124 : Int) - (1 : Int)))))] none) z (d_idx_r (p := [.f 5]) z z hv154) (ev_den (.ref 0 [.f 5, .e (Int.toNat ((w64 ((List.length x124 : Int) - (1 : Int)))))] _ _ _) z (d_ld_p z (rget_of z (get_f z (get_r (e := (T.ints .i64)) hv154 (get_nil)))) z) (ev_den (.ref 0 [.f 5, .e (Int.toNat ((w64 ((List.length x124 : Int) - (1 : Int)))))] _ _ _) z z (ev_nil)))))))))))))) (seqQ_n (?_))
    refine wp_seq ?_
    refine wp_gc ?_
    refine wp_seq ?_
    refine wp_join (spec_TokenAt_j3 v154) (fun (x164 : Bool) => (⟨al .dead [(9, .ref 0 [.f 5, .e (Int.toNat ((w64 ((List.length x124 : Int) - (1 : Int)))))] 1 0 (List.length v154)), (57, .vw [] (.bool x164))], hl [some (.ptr (.agg [.int .i64 x119, .int .i64 x120, .int .i64 x121, .sh (.rows 3 (List.map e0 x122)), .ints .i64 x123, .rows 1 (List.map (T.ints .i64) x124), .int .i64 x125]))], 1⟩ : St)) ?_ ?_
    ·rintro x164 o h
     unfold spec_TokenAt_j3 at h
     refine seqQ_n (?_)
     rcases its h with ⟨hc165, h⟩ | ⟨hc165, h⟩
     ·refine wp_ct z hc165 ?_
      refine wp_seq ?_
      obtain ⟨v166, hv166, h⟩ := bs h
      refine wp_reg (nx' := 81) z (ev_den (.ref 0 [.f 5, .e (Int.toNat ((w64 ((List.length x124 : Int) - (1 : Int)))))] _ _ _) z z (ev_den (.ptr 0 [.f 5, .e (Int.toNat ((w64 ((List.length x124 : Int) - (1 : Int))))), .e (Int.toNat ((1 : Int)))] none) z (d_idx_r (p := [.f 5, .e (Int.toNat ((w64 ((List.length x124 : Int) - (1 : Int)))))]) z z hv166) (ev_v z (d_ld_p z (rget_of z (get_f z (get_r (e := (T.ints .i64)) hv154 (get_i hv166)))) z) (ev_v z z (ev_v z z (ev_nil)))))) (seqQ_n (?_))
      replace h := Option.some.inj h
      subst h
      exact wp_ret (gcQ_r (seqQ_r (qf_r ((outs_ok (vs := [(.vw _ _), (.vw _ _)]) z (absW_cons z z (absW_cons z z (absW_nil))) z z)))))
     ·refine wp_cf z hc165 ?_
      refine wp_skip (gcQ_n (gc_to [] (e := []) (ts := []) (n := 0) z z z z) (seqQ_n (?_)))
      refine wp_seq ?_
      refine wp_reg (nx' := 32) z (ev_v z z (ev_v z z (ev_nil))) (seqQ_n (?_))
      replace h := Option.some.inj h
      subst h
      exact wp_ret (qf_r ((outs_ok (vs := [(.vw _ _), (.vw _ _)]) z (absW_cons z z (absW_cons z z (absW_nil))) z z)))
    ·obtain ⟨v167, hv167, h⟩ := bs h
     rcases its h with ⟨hc168, h⟩ | ⟨hc168, h⟩
     ·exact wp_reg (nx' := 465) z (ev_v z z (ev_den (.ref 0 [.f 5, .e (Int.toNat ((w64 ((List.length x124 : Int) - (1 : Int)))))] _ _ _) z z (ev_den (.ptr 0 [.f 5, .e (Int.toNat ((w64 ((List.length x124 : Int) - (1 : Int))))), .e (Int.toNat ((0 : Int)))] none) z (d_idx_r (p := [.f 5, .e (Int.toNat ((w64 ((List.length x124 : Int) - (1 : Int)))))]) z z hv167) (ev_v z (d_ld_p z (rget_of z (get_f z (get_r (e := (T.ints .i64)) hv154 (get_i hv167)))) z) (ev_v z z (ev_v z z (ev_off z hc168 (ev_off z hc168 (ev_off z hc168 (ev_off z hc168 (ev_off z hc168 (ev_off z hc168 (ev_off z hc168 (ev_off z hc168 (ev_off z hc168 (ev_v z (d_pick_t z hc168 z) (ev_nil))))))))))))))))) (joinQ_n true h (gc_to [0] z z z z))
     ·obtain ⟨v170, hv170, h⟩ := bs h
      exact wp_reg (nx' := 465) z (ev_v z z (ev_den (.ref 0 [.f 5, .e (Int.toNat ((w64 ((List.length x124 : Int) - (1 : Int)))))] _ _ _) z z (ev_den (.ptr 0 [.f 5, .e (Int.toNat ((w64 ((List.length x124 : Int) - (1 : Int))))), .e (Int.toNat ((0 : Int)))] none) z (d_idx_r (p := [.f 5, .e (Int.toNat ((w64 ((List.length x124 : Int) - (1 : Int)))))]) z z hv167) (ev_v z (d_ld_p z (rget_of z (get_f z (get_r (e := (T.ints .i64)) hv154 (get_i hv167)))) z) (ev_v z z (ev_v z z (ev_on z hc168 (ev_v z z (ev_on z hc168 (ev_den (.ref 0 [.f 5, .e (Int.toNat ((w64 ((List.length x124 : Int) - (1 : Int)))))] _ _ _) z z (ev_on z hc168 (ev_den (.ptr 0 [.f 5, .e (Int.toNat ((w64 ((List.length x124 : Int) - (1 : Int))))), .e (Int.toNat ((0 : Int)))] none) z (d_idx_r (p := [.f 5, .e (Int.toNat ((w64 ((List.length x124 : Int) - (1 : Int)))))]) z z hv167) (ev_on z hc168 (ev_v z (d_ld_p z (rget_of z (get_f z (get_r (e := (T.ints .i64)) hv154 (get_i hv167)))) z) (ev_on z hc168 (ev_den (.ref 0 [.f 5, .e (Int.toNat ((w64 ((List.length x124 : Int) - (1 : Int)))))] _ _ _) z z (ev_on z hc168 (ev_den (.ptr 0 [.f 5, .e (Int.toNat ((w64 ((List.length x124 : Int) - (1 : Int))))), .e (Int.toNat ((2 : Int)))] none) z (d_idx_r (p := [.f 5, .e (Int.toNat ((w64 ((List.length x124 : Int) - (1 : Int)))))]) z z hv170) (ev_on z hc168 (ev_v z (d_ld_p z (rget_of z (get_f z (get_r (e := (T.ints .i64)) hv154 (get_i hv170)))) z) (ev_on z hc168 (ev_v z z (ev_on z hc168 (ev_v z z (ev_v z (d_pick_f z hc168 z) (ev_nil)))))))))))))))))))))))))) (joinQ_n (decide (p2 < (w64 (v167 + v170)))) h (gc_to [0] z z z z))
 ·obtain ⟨v172, hv172, h⟩ := bs h
  rcases its h with ⟨hc173, h⟩ | ⟨hc173, h⟩
  ·exact wp_reg (nx' := 192) z (ev_den (.agg [(.vw _ _), (.vw _ _), (.vw _ _)]) z (d_ld_os z (rget_of z (get_nil)) z (cells_cons z (cells_cons z (cells_cons z (cells_nil))))) (ev_v z z (ev_call0 [(.agg [(.vw _ _), (.vw _ _), (.vw _ _)]), (.vw _ _)] z (call_okf (vs' := [(.agg [(.vw _ _), (.vw _ _), (.vw _ _)]), (.vw _ _)]) z (call_ok (rs := []) (rd := []) z z z z (argL_cons (argT_a (argL_cons z (argL_cons z (argL_cons z (argL_nil))))) (argL_cons z (argL_nil))) z z (spec_tkCalls_ok hv172) z z z z z)) (ev_v z z (ev_v z z (ev_off z hc173 (ev_off z hc173 (ev_off z hc173 (ev_v z (d_pick_t z hc173 z) (ev_nil)))))))))) (joinQ_n true h (gc_to [0] z z z z))
  ·obtain ⟨v175, hv175, h⟩ := bs h
   exact wp_reg (nx' := 192) z (ev_den (.agg [(.vw _ _), (.vw _ _), (.vw _ _)]) z (d_ld_os z (rget_of z (get_nil)) z (cells_cons z (cells_cons z (cells_cons z (cells_nil))))) (ev_v z z (ev_call0 [(.agg [(.vw _ _), (.vw _ _), (.vw _ _)]), (.vw _ _)] z (call_okf (vs' := [(.agg [(.vw _ _), (.vw _ _), (.vw _ _)]), (.vw _ _)]) z (call_ok (rs := []) (rd := []) z z z z (argL_cons (argT_a (argL_cons z (argL_cons z (argL_cons z (argL_nil))))) (argL_cons z (argL_nil))) z z (spec_tkCalls_ok hv172) z z z z z)) (ev_v z z (ev_v z z (ev_on z hc173 (ev_v z z (ev_on z hc173 (ev_call0 [(.vw _ _), (.vw _ _), (.vw _ _)] z (call_okf (vs' := [(.vw _ _), (.vw _ _), (.vw _ _)]) z (call_ok (rs := []) (rd := []) z z z z (argL_cons z (argL_cons z (argL_cons z (argL_nil)))) z z (spec_l1In_ok hv175) z z z z z)) (ev_on z hc173 (ev_v z z (ev_v z (d_pick_f z hc173 z) (ev_nil))))))))))))) (joinQ_n (!v175) h (gc_to [0] z z z z))
end Go.Proofs.Ytdblfocadcgmaaa.Ev.W7
