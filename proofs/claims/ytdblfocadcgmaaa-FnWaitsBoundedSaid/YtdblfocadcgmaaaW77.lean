/- What functions of the program come to, as plain functions; no condition. -/
import Derived.Test.YtdblfocadcgmaaaW76
set_option linter.unusedVariables false
set_option linter.unusedSimpArgs false
set_option maxRecDepth 100000
set_option maxHeartbeats 4000000
set_option linter.unusedVariables false
namespace Go.Proofs.Ytdblfocadcgmaaa.Ev.W7
open Go
noncomputable def spec_DrawBacklogAt (p0 : List Int) : Option (((Int × Int × Int) × (List (Int × Int × Int)) × Int)) :=
(spec_DrawTokenAt p0).bind fun v2 =>
some v2
theorem spec_DrawBacklogAt_ok {p0 : List Int} {o : ((Int × Int × Int) × (List (Int × Int × Int)) × Int)} (h : spec_DrawBacklogAt p0 = some o) : RN 27 [.ints .u8 p0] [] = some (.tup [.agg [.int .i64 o.1.1, .int .i64 o.1.2.1, .int .i64 o.1.2.2], .rows 3 (List.map e0 o.2.1), .int .i64 o.2.2], []) := by
 refine fn_run (o := o) (nr := 0) (F := k27) (st := ⟨entry 0 [.vw [] (.ints .u8 p0)], fun n => ([] : List T)[n]?, 0⟩) (fun (o : ((Int × Int × Int) × (List (Int × Int × Int)) × Int)) => (.tup [.agg [.int .i64 o.1.1, .int .i64 o.1.2.1, .int .i64 o.1.2.2], .rows 3 (List.map e0 o.2.1), .int .i64 o.2.2], [])) z fns_27 z z z ?_
 refine wp_seq ?_
 refine wp_reg (nx' := 48) z (ev_new (.ptr 0 [] (some 0)) (.ptr (.agg [.int .i64 ((0 : Int)), .int .i64 ((0 : Int)), .int .i64 ((0 : Int))])) z z (ev_new (.ref 16 [] 3 0 0) (.rows 3 []) z z (ev_v z z (ev_nil)))) (seqQ_n (?_))
 refine wp_seq ?_
 obtain ⟨v2, hv2, h⟩ := bs h
 refine wp_reg (nx' := 176) z (ev_v z z (ev_call0 [(.vw _ _)] z (call_okf (vs' := [(.vw _ _)]) z (call_ok (rs := []) (rd := []) z z z z (argL_cons z (argL_nil)) z z (spec_DrawTokenAt_ok hv2) z z z (bindR_t (bindL_cons (bindR_a (bindL_cons z (bindL_cons z (bindL_cons z (bindL_nil))))) (bindL_cons bindR_r (bindL_cons z (bindL_nil))))) z)) (ev_den (.agg [(.vw _ _), (.vw _ _), (.vw _ _)]) z z (ev_den (.ref 64 _ _ _ _) z z (ev_v z z (ev_wr0 z (w_st_a z z z (stL_cons (st1_of z z z (get_f z (get_nil)) z (rput_p (put_f z (put_nil)))) z (stL_cons (st1_of z z z (get_f z (get_nil)) z (rput_p (put_f z (put_nil)))) z (stL_cons (st1_of z z z (get_f z (get_nil)) z (rput_p (put_f z (put_nil)))) z (stL_nil))))) (ev_den (.ref 64 _ _ _ _) z z (ev_v z z (ev_nil))))))))) (seqQ_n (?_))
 replace h := Option.some.inj h
 subst h
 exact wp_ret (qf_r ((outs_ok (vs := [(.agg [(.vw _ _), (.vw _ _), (.vw _ _)]), (.ref 64 _ _ _ _), (.vw _ _)]) z (absW_cons (retT_agg (absW_cons z z (absW_cons z z (absW_cons z z (absW_nil))))) z (absW_cons (retT_ref (abs_ref z sub_r)) z (absW_cons z z (absW_nil)))) z z)))
noncomputable def spec_BacklogAt_j3 (x101 : Int) : ((List Int)) → Option (((List Int) × Int) ⊕ ((List Int))) := fun x134 =>
some (.inl (x134, (w64 (x101 + (1 : Int)))))
noncomputable def spec_BacklogAt_j4 (p1 : List (Int × Int × Int)) (x100 : List Int) (x101 : Int) : Bool → Option (((List Int) × Int) ⊕ ((List Int))) := fun x147 =>
if x147 = true then
(at? p1 x101).bind fun v149 =>
(at? x100 v149.2.1).bind fun v150 =>
spec_BacklogAt_j3 x101 (List.set x100 (Int.toNat v149.2.1) ((w64 (v150 + (1 : Int)))))
else
spec_BacklogAt_j3 x101 x100
noncomputable def spec_BacklogAt_s2 (p1 : List (Int × Int × Int)) (p2 : Int) (v67 : (List Int)) : ((List Int) × Int) → Option (((List Int) × Int) ⊕ ((List Int))) := fun (x100, x101) =>
if (decide (x101 < (List.length v67 : Int))) = true then
(at? v67 x101).bind fun v144 =>
(at? p1 x101).bind fun v153 =>
if (decide (v153.1 ≤ p2)) = true then
spec_BacklogAt_j4 p1 x100 x101 (decide (v144 > p2))
else
spec_BacklogAt_j4 p1 x100 x101 false
else
some (.inr x100)
noncomputable def spec_BacklogAt_l2 (p1 : List (Int × Int × Int)) (p2 : Int) (v67 : (List Int)) : ((List Int) × Int) → Option ((List Int)) := iter (spec_BacklogAt_s2 p1 p2 v67)
noncomputable def spec_BacklogAt_j1 (p0 : Int × Int × Int) (p1 : List (Int × Int × Int)) (p2 : Int) : Bool → Option (((List Int) × Bool)) := fun x39 =>
if x39 = true then
some ([], false)
else
(mk? p0.1 p0.1).bind fun u41 =>
(spec_tkSent p0 p1).bind fun v67 =>
(spec_BacklogAt_l2 p1 p2 v67 ((List.replicate (Int.toNat p0.1) (0 : Int)), (0 : Int))).bind fun x113 =>
some (x113, true)
noncomputable def spec_BacklogAt (p0 : Int × Int × Int) (p1 : List (Int × Int × Int)) (p2 : Int) : Option (((List Int) × Bool)) :=
(spec_tkCalls p0 p1).bind fun v159 =>
if (!v159) = true then
spec_BacklogAt_j1 p0 p1 p2 true
else
(spec_l1In p2 ((0 : Int)) ((1000 : Int))).bind fun v162 =>
spec_BacklogAt_j1 p0 p1 p2 (!v162)
theorem spec_BacklogAt_ok {p0 : Int × Int × Int} {p1 : List (Int × Int × Int)} {p2 : Int} {o : ((List Int) × Bool)} (h : spec_BacklogAt p0 p1 p2 = some o) : RN 28 [.agg [.int .i64 p0.1, .int .i64 p0.2.1, .int .i64 p0.2.2], .rows 3 (List.map e0 p1), .int .i64 p2] [] = some (.tup [.ints .i64 o.1, .bool o.2], []) := by
 refine fn_run (o := o) (nr := 0) (F := k28) (st := ⟨entry 0 [.agg [.vw [] (.int .i64 p0.1), .vw [] (.int .i64 p0.2.1), .vw [] (.int .i64 p0.2.2)], .vw [] (.rows 3 (List.map e0 p1)), .vw [] (.int .i64 p2)], fun n => ([] : List T)[n]?, 0⟩) (fun (o : ((List Int) × Bool)) => (.tup [.ints .i64 o.1, .bool o.2], [])) z fns_28 z z z ?_
 refine wp_seq ?_
 refine wp_reg (nx' := 48) z (ev_wr z (w_box (sv := (.agg [(.vw _ _), (.vw _ _), (.vw _ _)])) z z (absW_cons z z (absW_cons z z (absW_cons z z (absW_nil))))) (ev_new (.ref 16 [] 1 0 0) (.ints .i64 []) z z (ev_v z z (ev_nil)))) (seqQ_n (?_))
 refine wp_seq ?_
 refine wp_gc ?_
 refine wp_seq ?_
 refine wp_join (spec_BacklogAt_j1 p0 p1 p2) (fun (x39 : Bool) => (⟨al .dead [(1, .vw [] (.rows 3 (List.map e0 p1))), (2, .vw [] (.int .i64 p2)), (3, .ptr 0 [] (some 0)), (19, .vw [] (.bool x39))], hl [some (.ptr (.agg [.int .i64 p0.1, .int .i64 p0.2.1, .int .i64 p0.2.2]))], 1⟩ : St)) ?_ ?_
 ·rintro x39 o h
  unfold spec_BacklogAt_j1 at h
  refine seqQ_n (?_)
  rcases its h with ⟨hc40, h⟩ | ⟨hc40, h⟩
  ·refine wp_ct z hc40 ?_
   refine wp_seq ?_
   refine wp_reg (nx' := 33) z (ev_new (.ref 1 [] 1 0 0) (.ints .i64 []) z z (ev_v z z (ev_nil))) (seqQ_n (?_))
   replace h := Option.some.inj h
   subst h
   exact wp_ret (gcQ_r (seqQ_r (qf_r ((outs_ok (vs := [(.ref 1 _ _ _ _), (.vw _ _)]) z (absW_cons (retT_ref (abs_ref z sub_i)) z (absW_cons z z (absW_nil))) z z)))))
  ·refine wp_cf z hc40 ?_
   refine wp_skip (gcQ_n (gc_to [0] (e := [(1, .vw [] (.rows 3 (List.map e0 p1))), (2, .vw [] (.int .i64 p2)), (3, .ptr 0 [] (some 0))]) (ts := [some (.ptr (.agg [.int .i64 p0.1, .int .i64 p0.2.1, .int .i64 p0.2.2]))]) (n := 1) z z z z) (seqQ_n (?_)))
   refine wp_seq ?_
   obtain ⟨u41, hu41, h⟩ := bs h
   refine wp_reg (nx' := 65) z (ev_den (.ptr 0 [] (some 0)) z z (ev_v z (d_ld_o z (rget_of z (get_nil)) z z) (ev_new (.ref 33 [] 1 0 (List.length ((List.replicate (Int.toNat p0.1) (0 : Int))))) (.ints .i64 ((List.replicate (Int.toNat p0.1) (0 : Int)))) z (d_mks_i z z hu41) (ev_den (.ref 33 _ _ _ _) z z (ev_nil))))) (seqQ_n (?_))
   refine wp_seq ?_
   refine wp_gc ?_
   refine wp_seq ?_
   refine wp_gc ?_
   obtain ⟨v67, hv67, h⟩ := bs h
   refine wp_reg (nx' := 145) z (ev_den (.agg [(.vw _ _), (.vw _ _), (.vw _ _)]) z (d_ld_os z (rget_of z (get_nil)) z (cells_cons z (cells_cons z (cells_cons z (cells_nil))))) (ev_v z z (ev_call0 [(.agg [(.vw _ _), (.vw _ _), (.vw _ _)]), (.vw _ _)] z (call_okf (vs' := [(.agg [(.vw _ _), (.vw _ _), (.vw _ _)]), (.vw _ _)]) z (call_ok (rs := []) (rd := []) z z z z (argL_cons (argT_a (argL_cons z (argL_cons z (argL_cons z (argL_nil))))) (argL_cons z (argL_nil))) z z (spec_tkSent_ok hv67) z z z z z)) (ev_v z z (ev_v z z (ev_nil)))))) (gcQ_n (gc_to [33, 97] (e := [(1, .vw [] (.rows 3 (List.map e0 p1))), (2, .vw [] (.int .i64 p2)), (8, .ref 0 [] 1 0 (List.length ((List.replicate (Int.toNat p0.1) (0 : Int))))), (25, .ref 1 [] 1 0 (List.length v67)), (26, .vw [] (.int .i64 ((List.length v67 : Int)))), (27, .vw [] (.int .i64 ((0 : Int))))]) (ts := [some (.ints .i64 ((List.replicate (Int.toNat p0.1) (0 : Int)))), some (.ints .i64 v67)]) (n := 2) z z z z) (seqQ_n (?_)))
   refine wp_gc ?_
   refine wp_blk ?_
   obtain ⟨x113, hw158, h⟩ := bs h
   refine wp_mono (wp_loop (fun ((x100, x101) : (List Int) × Int) => (⟨al .dead [(1, .vw [] (.rows 3 (List.map e0 p1))), (2, .vw [] (.int .i64 p2)), (8, .ref 0 [] 1 0 (List.length x100)), (25, .ref 1 [] 1 0 (List.length v67)), (26, .vw [] (.int .i64 ((List.length v67 : Int)))), (27, .vw [] (.int .i64 x101))], hl [some (.ints .i64 x100), some (.ints .i64 v67)], 2⟩ : St)) (fun (x113 : (List Int)) e st => e = .exit 0 ∧ gc 0 [8] st = ⟨al .dead [(8, .ref 0 [] 1 0 (List.length x113))], hl [some (.ints .i64 x113)], 1⟩) hw158 ?_) ?_
   ·rintro ⟨x100, x101⟩ o h
    refine wp_gc ?_
    refine wp_seq ?_
    refine wp_reg (nx' := 18) z (ev_v z z (ev_nil)) (seqQ_n (?_))
    refine wp_seq ?_
    refine wp_gc ?_
    rcases its h with ⟨hc126, h⟩ | ⟨hc126, h⟩
    ·refine wp_ct z hc126 ?_
     refine wp_skip (gcQ_n (gc_to [0, 1] (e := [(1, .vw [] (.rows 3 (List.map e0 p1))), (2, .vw [] (.int .i64 p2)), (8, .ref 0 [] 1 0 (List.length x100)), (25, .ref 1 [] 1 0 (List.length v67)), (26, .vw [] (.int .i64 ((List.length v67 : Int)))), (27, .vw [] (.int .i64 x101))]) (ts := [some (.ints .i64 x100), some (.ints .i64 v67)]) (n := 2) z z z z) (seqQ_n (?_)))
     refine wp_seq ?_
     refine wp_join (spec_BacklogAt_j3 x101) (fun (x134 : (List Int)) => (⟨al .dead [(1, .vw [] (.rows 3 (List.map e0 p1))), (2, .vw [] (.int .i64 p2)), (8, .ref 0 [] 1 0 (List.length x134)), (25, .ref 1 [] 1 0 (List.length v67)), (26, .vw [] (.int .i64 ((List.length v67 : Int)))), (27, .vw [] (.int .i64 x101))], hl [some (.ints .i64 x134), some (.ints .i64 v67)], 2⟩ : St)) ?_ ?_
     ·rintro x134 o h
      unfold spec_BacklogAt_j3 at h
      refine seqQ_n (?_)
      replace h := Option.some.inj h
      subst h
      exact wp_reg (nx' := 34) z (ev_v z z (ev_v z z (ev_nil))) (gcQ_n (gc_to [0, 1] (e := [(1, .vw [] (.rows 3 (List.map e0 p1))), (2, .vw [] (.int .i64 p2)), (8, .ref 0 [] 1 0 (List.length x134)), (25, .ref 1 [] 1 0 (List.length v67)), (26, .vw [] (.int .i64 ((List.length v67 : Int)))), (27, .vw [] (.int .i64 ((w64 (x101 + (1 : Int))))))]) (ts := [some (.ints .i64 x134), some (.ints .i64 v67)]) (n := 2) z z z z) (loopQ_n z))
     ·refine wp_gc ?_
      refine wp_blk ?_
      refine wp_seq ?_
      obtain ⟨v144, hv144, h⟩ := bs h
      refine wp_reg (nx' := 82) z (ev_v z z (ev_den (.ptr 1 [.e (Int.toNat x101)] none) z (d_idx_r (p := []) z z hv144) (ev_v z (d_ld_p z (rget_of z (get_i hv144)) z) (ev_v z z (ev_v z z (ev_nil)))))) (seqQ_n (?_))
      refine wp_seq ?_
      refine wp_join (spec_BacklogAt_j4 p1 x100 x101) (fun (x147 : Bool) => (⟨al .dead [(1, .vw [] (.rows 3 (List.map e0 p1))), (2, .vw [] (.int .i64 p2)), (8, .ref 0 [] 1 0 (List.length x100)), (9, .vw [] (.int .i64 x101)), (25, .ref 1 [] 1 0 (List.length v67)), (26, .vw [] (.int .i64 ((List.length v67 : Int)))), (27, .vw [] (.int .i64 x101)), (43, .vw [] (.bool x147))], hl [some (.ints .i64 x100), some (.ints .i64 v67)], 2⟩ : St)) ?_ ?_
      ·rintro x147 o h
       unfold spec_BacklogAt_j4 at h
       refine seqQ_n (?_)
       rcases its h with ⟨hc148, h⟩ | ⟨hc148, h⟩
       ·refine wp_ct z hc148 ?_
        obtain ⟨v149, hv149, h⟩ := bs h
        obtain ⟨v150, hv150, h⟩ := bs h
        exact wp_reg (nx' := 178) z (ev_den (.ref 0 _ _ _ _) z z (ev_v z z (ev_v z z (ev_den (.pv _ _) z (d_idx_vr e0 z z hv149) (ev_den (.pv _ _) z z (ev_v z z (ev_den (.ptr 0 [.e (Int.toNat v149.2.1)] none) z (d_idx_r (p := []) z z hv150) (ev_v z (d_ld_p z (rget_of z (get_i hv150)) z) (ev_v z z (ev_den (.ptr 0 [.e (Int.toNat v149.2.1)] none) z (d_idx_r (p := []) z z hv150) (ev_wr0 z (w_st_p z (st1_of z z z (get_i hv150) z (rput_i (put_i hv150)))) (ev_relen (b := (List.length ((List.set x100 (Int.toNat v149.2.1) ((w64 (v150 + (1 : Int)))))))) 8 z List.length_set.symm (ev_nil))))))))))))) (blkQ_n (gcQ_n (gc_to [0, 1] (e := [(1, .vw [] (.rows 3 (List.map e0 p1))), (2, .vw [] (.int .i64 p2)), (8, .ref 0 [] 1 0 (List.length ((List.set x100 (Int.toNat v149.2.1) ((w64 (v150 + (1 : Int)))))))), (25, .ref 1 [] 1 0 (List.length v67)), (26, .vw [] (.int .i64 ((List.length v67 : Int)))), (27, .vw [] (.int .i64 x101))]) (ts := [some (.ints .i64 ((List.set x100 (Int.toNat v149.2.1) ((w64 (v150 + (1 : Int))))))), some (.ints .i64 v67)]) (n := 2) z z z z) (joinQ_n (List.set x100 (Int.toNat v149.2.1) ((w64 (v150 + (1 : Int))))) h (gc_to [0, 1] z z z z))))
       ·refine wp_cf z hc148 ?_
        exact wp_skip (blkQ_n (gcQ_n (gc_to [0, 1] (e := [(1, .vw [] (.rows 3 (List.map e0 p1))), (2, .vw [] (.int .i64 p2)), (8, .ref 0 [] 1 0 (List.length x100)), (25, .ref 1 [] 1 0 (List.length v67)), (26, .vw [] (.int .i64 ((List.length v67 : Int)))), (27, .vw [] (.int .i64 x101))]) (ts := [some (.ints .i64 x100), some (.ints .i64 v67)]) (n := 2) z z z z) (joinQ_n x100 h (gc_to [0, 1] z z z z))))
      ·obtain ⟨v153, hv153, h⟩ := bs h
       rcases its h with ⟨hc154, h⟩ | ⟨hc154, h⟩
       ·exact wp_reg (nx' := 274) z (ev_v z z (ev_v z z (ev_den (.pv _ _) z (d_idx_vr e0 z z hv153) (ev_den (.pv _ _) z z (ev_v z z (ev_v z z (ev_v z z (ev_v z z (ev_on z hc154 (ev_v z z (ev_on z hc154 (ev_v z z (ev_on z hc154 (ev_v z z (ev_v z (d_pick_t z hc154 z) (ev_nil)))))))))))))))) (joinQ_n (decide (v144 > p2)) h (gc_to [0, 1] z z z z))
       ·exact wp_reg (nx' := 274) z (ev_v z z (ev_v z z (ev_den (.pv _ _) z (d_idx_vr e0 z z hv153) (ev_den (.pv _ _) z z (ev_v z z (ev_v z z (ev_v z z (ev_v z z (ev_off z hc154 (ev_off z hc154 (ev_off z hc154 (ev_v z (d_pick_f z hc154 z) (ev_nil))))))))))))) (joinQ_n false h (gc_to [0, 1] z z z z))
    ·refine wp_cf z hc126 ?_
     replace h := Option.some.inj h
     subst h
     exact wp_exit (gcQ_e (seqQ_e (gcQ_e (loopQ_e (And.intro z (gc_to [0] (e := [(8, .ref 0 [] 1 0 (List.length x100))]) (ts := [some (.ints .i64 x100)]) (n := 1) z z z z))))))
   ·intro e st158 hg158
    obtain ⟨rfl, hg158⟩ := hg158
    refine blkQ_h (gcQ_n hg158 (gcQ_n (gc_to [0] (e := [(8, .ref 0 [] 1 0 (List.length x113))]) (ts := [some (.ints .i64 x113)]) (n := 1) z z z z) (seqQ_n (?_))))
    refine wp_seq ?_
    refine wp_reg (nx' := 49) z (ev_den (.ref 0 _ _ _ _) z z (ev_den (.ref 0 _ _ _ _) z z (ev_v z z (ev_nil)))) (seqQ_n (?_))
    replace h := Option.some.inj h
    subst h
    exact wp_ret (qf_r ((outs_ok (vs := [(.ref 0 _ _ _ _), (.vw _ _)]) z (absW_cons (retT_ref (abs_ref z sub_i)) z (absW_cons z z (absW_nil))) z z)))
 ·obtain ⟨v159, hv159, h⟩ := bs h
  rcases its h with ⟨hc160, h⟩ | ⟨hc160, h⟩
  ·exact wp_reg (nx' := 192) z (ev_den (.agg [(.vw _ _), (.vw _ _), (.vw _ _)]) z (d_ld_os z (rget_of z (get_nil)) z (cells_cons z (cells_cons z (cells_cons z (cells_nil))))) (ev_v z z (ev_call0 [(.agg [(.vw _ _), (.vw _ _), (.vw _ _)]), (.vw _ _)] z (call_okf (vs' := [(.agg [(.vw _ _), (.vw _ _), (.vw _ _)]), (.vw _ _)]) z (call_ok (rs := []) (rd := []) z z z z (argL_cons (argT_a (argL_cons z (argL_cons z (argL_cons z (argL_nil))))) (argL_cons z (argL_nil))) z z (spec_tkCalls_ok hv159) z z z z z)) (ev_v z z (ev_v z z (ev_off z hc160 (ev_off z hc160 (ev_off z hc160 (ev_v z (d_pick_t z hc160 z) (ev_nil)))))))))) (joinQ_n true h (gc_to [0] z z z z))
  ·obtain ⟨v162, hv162, h⟩ := bs h
   exact wp_reg (nx' := 192) z (ev_den (.agg [(.vw _ _), (.vw _ _), (.vw _ _)]) z (d_ld_os z (rget_of z (get_nil)) z (cells_cons z (cells_cons z (cells_cons z (cells_nil))))) (ev_v z z (ev_call0 [(.agg [(.vw _ _), (.vw _ _), (.vw _ _)]), (.vw _ _)] z (call_okf (vs' := [(.agg [(.vw _ _), (.vw _ _), (.vw _ _)]), (.vw _ _)]) z (call_ok (rs := []) (rd := []) z z z z (argL_cons (argT_a (argL_cons z (argL_cons z (argL_cons z (argL_nil))))) (argL_cons z (argL_nil))) z z (spec_tkCalls_ok hv159) z z z z z)) (ev_v z z (ev_v z z (ev_on z hc160 (ev_v z z (ev_on z hc160 (ev_call0 [(.vw _ _), (.vw _ _), (.vw _ _)] z (call_okf (vs' := [(.vw _ _), (.vw _ _), (.vw _ _)]) z (call_ok (rs := []) (rd := []) z z z z (argL_cons z (argL_cons z (argL_cons z (argL_nil)))) z z (spec_l1In_ok hv162) z z z z z)) (ev_on z hc160 (ev_v z z (ev_v z (d_pick_f z hc160 z) (ev_nil))))))))))))) (joinQ_n (!v162) h (gc_to [0] z z z z))
noncomputable def spec_tkRound (p0 : Int × Int × Int) : Option Int :=
some (w64 (p0.1 * (w64 (p0.2.1 + p0.2.2))))
theorem spec_tkRound_ok {p0 : Int × Int × Int} {o : Int} (h : spec_tkRound p0 = some o) : RN 68 [.agg [.int .i64 p0.1, .int .i64 p0.2.1, .int .i64 p0.2.2]] [] = some (.int .i64 o, []) := by
 refine fn_run (o := o) (nr := 0) (F := k68) (st := ⟨entry 0 [.agg [.vw [] (.int .i64 p0.1), .vw [] (.int .i64 p0.2.1), .vw [] (.int .i64 p0.2.2)]], fun n => ([] : List T)[n]?, 0⟩) (fun (o : Int) => (.int .i64 o, [])) z fns_68 z z z ?_
 refine wp_seq ?_
 refine wp_reg (nx' := 32) z (ev_wr z (w_box (sv := (.agg [(.vw _ _), (.vw _ _), (.vw _ _)])) z z (absW_cons z z (absW_cons z z (absW_cons z z (absW_nil))))) (ev_v z z (ev_nil))) (seqQ_n (?_))
 refine wp_seq ?_
 refine wp_reg (nx' := 176) z (ev_den (.ptr 0 [] (some 0)) z z (ev_v z (d_ld_o z (rget_of z (get_nil)) z z) (ev_den (.ptr 0 [] (some 1)) z z (ev_v z (d_ld_o z (rget_of z (get_nil)) z z) (ev_den (.ptr 0 [] (some 2)) z z (ev_v z (d_ld_o z (rget_of z (get_nil)) z z) (ev_v z z (ev_v z z (ev_v z z (ev_nil)))))))))) (seqQ_n (?_))
 replace h := Option.some.inj h
 subst h
 exact wp_ret (qf_r ((outs_ok (vs := [(.vw _ _)]) z (absW_cons z z (absW_nil)) z z)))
noncomputable def spec_WaitBound_j1 (p0 : Int × Int × Int) (p1 : Int) : Bool → Option ((Int × Bool)) := fun x17 =>
if x17 = true then
some ((0 : Int), false)
else
(nz? p0.2.1).bind fun u19 =>
(spec_tkRound p0).bind fun v20 =>
(some ((w64 ((w64 ((w64 ((w64 ((w64 (Int.tdiv p1 p0.2.1)) + (1 : Int))) * v20)) + p1)) - (w64 ((w64 (Int.tdiv p1 p0.2.1)) * p0.2.1)))))).bind fun v21 =>
some ((w64 (v21 - (1 : Int))), true)
noncomputable def spec_WaitBound (p0 : Int × Int × Int) (p1 : Int) : Option ((Int × Bool)) :=
(spec_tkGood p0).bind fun v22 =>
if (!v22) = true then
spec_WaitBound_j1 p0 p1 true
else
(spec_l1In p1 ((0 : Int)) ((100 : Int))).bind fun v25 =>
spec_WaitBound_j1 p0 p1 (!v25)
theorem spec_WaitBound_ok {p0 : Int × Int × Int} {p1 : Int} {o : (Int × Bool)} (h : spec_WaitBound p0 p1 = some o) : RN 30 [.agg [.int .i64 p0.1, .int .i64 p0.2.1, .int .i64 p0.2.2], .int .i64 p1] [] = some (.tup [.int .i64 o.1, .bool o.2], []) := by
 refine fn_run (o := o) (nr := 0) (F := k30) (st := ⟨entry 0 [.agg [.vw [] (.int .i64 p0.1), .vw [] (.int .i64 p0.2.1), .vw [] (.int .i64 p0.2.2)], .vw [] (.int .i64 p1)], fun n => ([] : List T)[n]?, 0⟩) (fun (o : (Int × Bool)) => (.tup [.int .i64 o.1, .bool o.2], [])) z fns_30 z z z ?_
 refine wp_seq ?_
 refine wp_reg (nx' := 48) z (ev_wr z (w_box (sv := (.agg [(.vw _ _), (.vw _ _), (.vw _ _)])) z z (absW_cons z z (absW_cons z z (absW_cons z z (absW_nil))))) (ev_v z z (ev_v z z (ev_nil)))) (seqQ_n (?_))
 refine wp_seq ?_
 refine wp_gc ?_
 refine wp_seq ?_
 refine wp_join (spec_WaitBound_j1 p0 p1) (fun (x17 : Bool) => (⟨al .dead [(1, .vw [] (.int .i64 p1)), (2, .ptr 0 [] (some 0)), (14, .vw [] (.bool x17))], hl [some (.ptr (.agg [.int .i64 p0.1, .int .i64 p0.2.1, .int .i64 p0.2.2]))], 1⟩ : St)) ?_ ?_
 ·rintro x17 o h
  unfold spec_WaitBound_j1 at h
  refine seqQ_n (?_)
  rcases its h with ⟨hc18, h⟩ | ⟨hc18, h⟩
  ·refine wp_ct z hc18 ?_
   refine wp_seq ?_
   refine wp_reg (nx' := 33) z (ev_v z z (ev_v z z (ev_nil))) (seqQ_n (?_))
   replace h := Option.some.inj h
   subst h
   exact wp_ret (gcQ_r (seqQ_r (qf_r ((outs_ok (vs := [(.vw _ _), (.vw _ _)]) z (absW_cons z z (absW_cons z z (absW_nil))) z z)))))
  ·refine wp_cf z hc18 ?_
   refine wp_skip (gcQ_n (gc_to [0] (e := [(1, .vw [] (.int .i64 p1)), (2, .ptr 0 [] (some 0))]) (ts := [some (.ptr (.agg [.int .i64 p0.1, .int .i64 p0.2.1, .int .i64 p0.2.2]))]) (n := 1) z z z z) (seqQ_n (?_)))
   refine wp_seq ?_
   obtain ⟨u19, hu19, h⟩ := bs h
   refine wp_reg (nx' := 81) z (ev_v z z (ev_den (.ptr 0 [] (some 1)) z z (ev_v z (d_ld_o z (rget_of z (get_nil)) z z) (ev_v z (d_quo z z hu19) (ev_v z z (ev_nil)))))) (seqQ_n (?_))
   refine wp_seq ?_
   obtain ⟨v20, hv20, h⟩ := bs (x := spec_tkRound p0) h
   obtain ⟨v21, hv21, h⟩ := bs h
   refine wp_reg (nx' := 321) z (ev_v z z (ev_v z z (ev_den (.agg [(.vw _ _), (.vw _ _), (.vw _ _)]) z (d_ld_os z (rget_of z (get_nil)) z (cells_cons z (cells_cons z (cells_cons z (cells_nil))))) (ev_call0 [(.agg [(.vw _ _), (.vw _ _), (.vw _ _)])] z (call_okf (vs' := [(.agg [(.vw _ _), (.vw _ _), (.vw _ _)])]) z (call_ok (rs := []) (rd := []) z z z z (argL_cons (argT_a (argL_cons z (argL_cons z (argL_cons z (argL_nil))))) (argL_nil)) z z (spec_tkRound_ok hv20) z z z z z)) (ev_v z z (ev_v z z (ev_v z z (ev_v z z (ev_den (.ptr 0 [] (some 1)) z z (ev_v z (d_ld_o z (rget_of z (get_nil)) z z) (ev_v z z (ev_den (.vw [] (.int .i64 v21)) z (d_as_i z (Option.some.inj hv21)) (ev_v z z (ev_v z z (ev_v z z (ev_nil)))))))))))))))) (seqQ_n (?_))
   replace h := Option.some.inj h
   subst h
   exact wp_ret (qf_r ((outs_ok (vs := [(.vw _ _), (.vw _ _)]) z (absW_cons z z (absW_cons z z (absW_nil))) z z)))
 ·obtain ⟨v22, hv22, h⟩ := bs h
  rcases its h with ⟨hc23, h⟩ | ⟨hc23, h⟩
  ·exact wp_reg (nx' := 176) z (ev_den (.agg [(.vw _ _), (.vw _ _), (.vw _ _)]) z (d_ld_os z (rget_of z (get_nil)) z (cells_cons z (cells_cons z (cells_cons z (cells_nil))))) (ev_call0 [(.agg [(.vw _ _), (.vw _ _), (.vw _ _)])] z (call_okf (vs' := [(.agg [(.vw _ _), (.vw _ _), (.vw _ _)])]) z (call_ok (rs := []) (rd := []) z z z z (argL_cons (argT_a (argL_cons z (argL_cons z (argL_cons z (argL_nil))))) (argL_nil)) z z (spec_tkGood_ok hv22) z z z z z)) (ev_v z z (ev_v z z (ev_off z hc23 (ev_off z hc23 (ev_off z hc23 (ev_v z (d_pick_t z hc23 z) (ev_nil))))))))) (joinQ_n true h (gc_to [0] z z z z))
  ·obtain ⟨v25, hv25, h⟩ := bs h
   exact wp_reg (nx' := 176) z (ev_den (.agg [(.vw _ _), (.vw _ _), (.vw _ _)]) z (d_ld_os z (rget_of z (get_nil)) z (cells_cons z (cells_cons z (cells_cons z (cells_nil))))) (ev_call0 [(.agg [(.vw _ _), (.vw _ _), (.vw _ _)])] z (call_okf (vs' := [(.agg [(.vw _ _), (.vw _ _), (.vw _ _)])]) z (call_ok (rs := []) (rd := []) z z z z (argL_cons (argT_a (argL_cons z (argL_cons z (argL_cons z (argL_nil))))) (argL_nil)) z z (spec_tkGood_ok hv22) z z z z z)) (ev_v z z (ev_v z z (ev_on z hc23 (ev_v z z (ev_on z hc23 (ev_call0 [(.vw _ _), (.vw _ _), (.vw _ _)] z (call_okf (vs' := [(.vw _ _), (.vw _ _), (.vw _ _)]) z (call_ok (rs := []) (rd := []) z z z z (argL_cons z (argL_cons z (argL_cons z (argL_nil)))) z z (spec_l1In_ok hv25) z z z z z)) (ev_on z hc23 (ev_v z z (ev_v z (d_pick_f z hc23 z) (ev_nil)))))))))))) (joinQ_n (!v25) h (gc_to [0] z z z z))
noncomputable def spec_DrawIsTokenRing (p0 : List Int) : Option ((Int × Int × Int)) :=
(spec_l1Cur_tokens ((p0, (0 : Int), (0 : Int)))).bind fun v2 =>
some v2.1
theorem spec_DrawIsTokenRing_ok {p0 : List Int} {o : (Int × Int × Int)} (h : spec_DrawIsTokenRing p0 = some o) : RN 69 [.ints .u8 p0] [] = some (.agg [.int .i64 o.1, .int .i64 o.2.1, .int .i64 o.2.2], []) := by
 refine fn_run (o := o) (nr := 0) (F := k69) (st := ⟨entry 0 [.vw [] (.ints .u8 p0)], fun n => ([] : List T)[n]?, 0⟩) (fun (o : (Int × Int × Int)) => (.agg [.int .i64 o.1, .int .i64 o.2.1, .int .i64 o.2.2], [])) z fns_69 z z z ?_
 refine wp_seq ?_
 refine wp_reg (nx' := 16) z (ev_new (.ptr 0 [] (some 0)) (.ptr (.agg [.int .i64 ((0 : Int)), .int .i64 ((0 : Int)), .int .i64 ((0 : Int))])) z z (ev_nil)) (seqQ_n (?_))
 refine wp_seq ?_
 refine wp_reg (nx' := 80) z (ev_v z z (ev_den (.agg [(.vw _ _), (.vw _ _), (.vw _ _)]) z z (ev_wr z (w_box (sv := (.agg [(.vw _ _), (.vw _ _), (.vw _ _)])) z z (absW_cons z z (absW_cons z z (absW_cons z z (absW_nil))))) (ev_den (.ptr 48 [] (some 0)) z z (ev_nil))))) (seqQ_n (?_))
 refine wp_seq ?_
 obtain ⟨v2, hv2, h⟩ := bs h
 refine wp_reg (nx' := 128) z (ev_den (.ptr 48 [] (some 0)) z z (ev_call1 [(.ptr 48 [] (some 0))] z (call_okt (call_ok (rs := [48]) (rd := []) z z z z (argL_cons z (argL_nil)) z z (spec_l1Cur_tokens_ok hv2) z z z (bindR_a (bindL_cons z (bindL_cons z (bindL_cons z (bindL_nil))))) z)) (ev_wr0 z (w_st_a z z z (stL_cons (st1_of z z z (get_f z (get_nil)) z (rput_p (put_f z (put_nil)))) z (stL_cons (st1_of z z z (get_f z (get_nil)) z (rput_p (put_f z (put_nil)))) z (stL_cons (st1_of z z z (get_f z (get_nil)) z (rput_p (put_f z (put_nil)))) z (stL_nil))))) (ev_nil)))) (seqQ_n (?_))
 replace h := Option.some.inj h
 subst h
 exact wp_ret (qf_r ((outs_ok (vs := [(.agg [(.vw _ _), (.vw _ _), (.vw _ _)])]) z (absW_cons (retT_agg (absW_cons z z (absW_cons z z (absW_cons z z (absW_nil))))) z (absW_nil)) z z)))
noncomputable def spec_DrawLongestRound (p0 : List Int) : Option ((Int × Int × Int)) :=
(spec_DrawIsTokenRing p0).bind fun v2 =>
some v2
theorem spec_DrawLongestRound_ok {p0 : List Int} {o : (Int × Int × Int)} (h : spec_DrawLongestRound p0 = some o) : RN 31 [.ints .u8 p0] [] = some (.agg [.int .i64 o.1, .int .i64 o.2.1, .int .i64 o.2.2], []) := by
 refine fn_run (o := o) (nr := 0) (F := k31) (st := ⟨entry 0 [.vw [] (.ints .u8 p0)], fun n => ([] : List T)[n]?, 0⟩) (fun (o : (Int × Int × Int)) => (.agg [.int .i64 o.1, .int .i64 o.2.1, .int .i64 o.2.2], [])) z fns_31 z z z ?_
 refine wp_seq ?_
 refine wp_reg (nx' := 16) z (ev_new (.ptr 0 [] (some 0)) (.ptr (.agg [.int .i64 ((0 : Int)), .int .i64 ((0 : Int)), .int .i64 ((0 : Int))])) z z (ev_nil)) (seqQ_n (?_))
 refine wp_seq ?_
 obtain ⟨v2, hv2, h⟩ := bs h
 refine wp_reg (nx' := 64) z (ev_v z z (ev_call0 [(.vw _ _)] z (call_okf (vs' := [(.vw _ _)]) z (call_ok (rs := []) (rd := []) z z z z (argL_cons z (argL_nil)) z z (spec_DrawIsTokenRing_ok hv2) z z z (bindR_a (bindL_cons z (bindL_cons z (bindL_cons z (bindL_nil))))) z)) (ev_wr0 z (w_st_a z z z (stL_cons (st1_of z z z (get_f z (get_nil)) z (rput_p (put_f z (put_nil)))) z (stL_cons (st1_of z z z (get_f z (get_nil)) z (rput_p (put_f z (put_nil)))) z (stL_cons (st1_of z z z (get_f z (get_nil)) z (rput_p (put_f z (put_nil)))) z (stL_nil))))) (ev_nil)))) (seqQ_n (?_))
 replace h := Option.some.inj h
 subst h
 exact wp_ret (qf_r ((outs_ok (vs := [(.agg [(.vw _ _), (.vw _ _), (.vw _ _)])]) z (absW_cons (retT_agg (absW_cons z z (absW_cons z z (absW_cons z z (absW_nil))))) z (absW_nil)) z z)))
noncomputable def impl_LongestRound (p0 : Int × Int × Int) : Option ((Int × Bool)) :=
(impl_IsTokenRing p0).bind fun v6 =>
if (!v6) = true then
some ((0 : Int), false)
else
(impl_TokenRing_longestRound p0).bind fun v8 =>
some (v8, true)
theorem impl_LongestRound_ok {p0 : Int × Int × Int} {o : (Int × Bool)} (h : impl_LongestRound p0 = some o) : RN 32 [.agg [.int .i64 p0.1, .int .i64 p0.2.1, .int .i64 p0.2.2]] [] = some (.tup [.int .i64 o.1, .bool o.2], []) := by
 refine fn_run (o := o) (nr := 0) (F := k32) (st := ⟨entry 0 [.agg [.vw [] (.int .i64 p0.1), .vw [] (.int .i64 p0.2.1), .vw [] (.int .i64 p0.2.2)]], fun n => ([] : List T)[n]?, 0⟩) (fun (o : (Int × Bool)) => (.tup [.int .i64 o.1, .bool o.2], [])) z fns_32 z z z ?_
 refine wp_seq ?_
 refine wp_reg (nx' := 48) z (ev_wr z (w_box (sv := (.agg [(.vw _ _), (.vw _ _), (.vw _ _)])) z z (absW_cons z z (absW_cons z z (absW_cons z z (absW_nil))))) (ev_v z z (ev_v z z (ev_nil)))) (seqQ_n (?_))
 refine wp_seq ?_
 refine wp_gc ?_
 refine wp_seq ?_
 obtain ⟨v6, hv6, h⟩ := bs h
 refine wp_reg (nx' := 96) z (ev_den (.agg [(.vw _ _), (.vw _ _), (.vw _ _)]) z (d_ld_os z (rget_of z (get_nil)) z (cells_cons z (cells_cons z (cells_cons z (cells_nil))))) (ev_call0 [(.agg [(.vw _ _), (.vw _ _), (.vw _ _)])] z (call_okf (vs' := [(.agg [(.vw _ _), (.vw _ _), (.vw _ _)])]) z (call_ok (rs := []) (rd := []) z z z z (argL_cons (argT_a (argL_cons z (argL_cons z (argL_cons z (argL_nil))))) (argL_nil)) z z (impl_IsTokenRing_ok hv6) z z z z z)) (ev_v z z (ev_nil)))) (seqQ_n (?_))
 rcases its h with ⟨hc7, h⟩ | ⟨hc7, h⟩
 ·refine wp_ct z hc7 ?_
  refine wp_seq ?_
  refine wp_reg (nx' := 128) z (ev_v z z (ev_v z z (ev_nil))) (seqQ_n (?_))
  replace h := Option.some.inj h
  subst h
  exact wp_ret (gcQ_r (seqQ_r (qf_r ((outs_ok (vs := [(.vw _ _), (.vw _ _)]) z (absW_cons z z (absW_cons z z (absW_nil))) z z)))))
 ·refine wp_cf z hc7 ?_
  refine wp_skip (gcQ_n (gc_to [0] (e := [(1, .ptr 0 [] (some 0))]) (ts := [some (.ptr (.agg [.int .i64 p0.1, .int .i64 p0.2.1, .int .i64 p0.2.2]))]) (n := 1) z z z z) (seqQ_n (?_)))
  refine wp_seq ?_
  obtain ⟨v8, hv8, h⟩ := bs (x := impl_TokenRing_longestRound p0) h
  refine wp_reg (nx' := 65) z (ev_den (.agg [(.vw _ _), (.vw _ _), (.vw _ _)]) z (d_ld_os z (rget_of z (get_nil)) z (cells_cons z (cells_cons z (cells_cons z (cells_nil))))) (ev_call0 [(.agg [(.vw _ _), (.vw _ _), (.vw _ _)])] z (call_okf (vs' := [(.agg [(.vw _ _), (.vw _ _), (.vw _ _)])]) z (call_ok (rs := []) (rd := []) z z z z (argL_cons (argT_a (argL_cons z (argL_cons z (argL_cons z (argL_nil))))) (argL_nil)) z z (impl_TokenRing_longestRound_ok hv8) z z z z z)) (ev_v z z (ev_v z z (ev_nil))))) (seqQ_n (?_))
  replace h := Option.some.inj h
  subst h
  exact wp_ret (qf_r ((outs_ok (vs := [(.vw _ _), (.vw _ _)]) z (absW_cons z z (absW_cons z z (absW_nil))) z z)))
noncomputable def spec_LongestRound (p0 : Int × Int × Int) : Option ((Int × Bool)) :=
(spec_tkGood p0).bind fun v6 =>
if (!v6) = true then
some ((0 : Int), false)
else
(spec_tkRound p0).bind fun v8 =>
some (v8, true)
theorem spec_LongestRound_ok {p0 : Int × Int × Int} {o : (Int × Bool)} (h : spec_LongestRound p0 = some o) : RN 33 [.agg [.int .i64 p0.1, .int .i64 p0.2.1, .int .i64 p0.2.2]] [] = some (.tup [.int .i64 o.1, .bool o.2], []) := by
 refine fn_run (o := o) (nr := 0) (F := k33) (st := ⟨entry 0 [.agg [.vw [] (.int .i64 p0.1), .vw [] (.int .i64 p0.2.1), .vw [] (.int .i64 p0.2.2)]], fun n => ([] : List T)[n]?, 0⟩) (fun (o : (Int × Bool)) => (.tup [.int .i64 o.1, .bool o.2], [])) z fns_33 z z z ?_
 refine wp_seq ?_
 refine wp_reg (nx' := 48) z (ev_wr z (w_box (sv := (.agg [(.vw _ _), (.vw _ _), (.vw _ _)])) z z (absW_cons z z (absW_cons z z (absW_cons z z (absW_nil))))) (ev_v z z (ev_v z z (ev_nil)))) (seqQ_n (?_))
 refine wp_seq ?_
 refine wp_gc ?_
 refine wp_seq ?_
 obtain ⟨v6, hv6, h⟩ := bs h
 refine wp_reg (nx' := 96) z (ev_den (.agg [(.vw _ _), (.vw _ _), (.vw _ _)]) z (d_ld_os z (rget_of z (get_nil)) z (cells_cons z (cells_cons z (cells_cons z (cells_nil))))) (ev_call0 [(.agg [(.vw _ _), (.vw _ _), (.vw _ _)])] z (call_okf (vs' := [(.agg [(.vw _ _), (.vw _ _), (.vw _ _)])]) z (call_ok (rs := []) (rd := []) z z z z (argL_cons (argT_a (argL_cons z (argL_cons z (argL_cons z (argL_nil))))) (argL_nil)) z z (spec_tkGood_ok hv6) z z z z z)) (ev_v z z (ev_nil)))) (seqQ_n (?_))
 rcases its h with ⟨hc7, h⟩ | ⟨hc7, h⟩
 ·refine wp_ct z hc7 ?_
  refine wp_seq ?_
  refine wp_reg (nx' := 128) z (ev_v z z (ev_v z z (ev_nil))) (seqQ_n (?_))
  replace h := Option.some.inj h
  subst h
  exact wp_ret (gcQ_r (seqQ_r (qf_r ((outs_ok (vs := [(.vw _ _), (.vw _ _)]) z (absW_cons z z (absW_cons z z (absW_nil))) z z)))))
 ·refine wp_cf z hc7 ?_
  refine wp_skip (gcQ_n (gc_to [0] (e := [(1, .ptr 0 [] (some 0))]) (ts := [some (.ptr (.agg [.int .i64 p0.1, .int .i64 p0.2.1, .int .i64 p0.2.2]))]) (n := 1) z z z z) (seqQ_n (?_)))
  refine wp_seq ?_
  obtain ⟨v8, hv8, h⟩ := bs (x := spec_tkRound p0) h
  refine wp_reg (nx' := 65) z (ev_den (.agg [(.vw _ _), (.vw _ _), (.vw _ _)]) z (d_ld_os z (rget_of z (get_nil)) z (cells_cons z (cells_cons z (cells_cons z (cells_nil))))) (ev_call0 [(.agg [(.vw _ _), (.vw _ _), (.vw _ _)])] z (call_okf (vs' := [(.agg [(.vw _ _), (.vw _ _), (.vw _ _)])]) z (call_ok (rs := []) (rd := []) z z z z (argL_cons (argT_a (argL_cons z (argL_cons z (argL_cons z (argL_nil))))) (argL_nil)) z z (spec_tkRound_ok hv8) z z z z z)) (ev_v z z (ev_v z z (ev_nil))))) (seqQ_n (?_))
  replace h := Option.some.inj h
  subst h
  exact wp_ret (qf_r ((outs_ok (vs := [(.vw _ _), (.vw _ _)]) z (absW_cons z z (absW_cons z z (absW_nil))) z z)))
noncomputable def impl_IdleRound (p0 : Int × Int × Int) : Option ((Int × Bool)) :=
(impl_IsTokenRing p0).bind fun v5 =>
if (!v5) = true then
some ((0 : Int), false)
else
some ((w64 (p0.1 * p0.2.2)), true)
theorem impl_IdleRound_ok {p0 : Int × Int × Int} {o : (Int × Bool)} (h : impl_IdleRound p0 = some o) : RN 34 [.agg [.int .i64 p0.1, .int .i64 p0.2.1, .int .i64 p0.2.2]] [] = some (.tup [.int .i64 o.1, .bool o.2], []) := by
 refine fn_run (o := o) (nr := 0) (F := k34) (st := ⟨entry 0 [.agg [.vw [] (.int .i64 p0.1), .vw [] (.int .i64 p0.2.1), .vw [] (.int .i64 p0.2.2)]], fun n => ([] : List T)[n]?, 0⟩) (fun (o : (Int × Bool)) => (.tup [.int .i64 o.1, .bool o.2], [])) z fns_34 z z z ?_
 refine wp_seq ?_
 refine wp_reg (nx' := 48) z (ev_wr z (w_box (sv := (.agg [(.vw _ _), (.vw _ _), (.vw _ _)])) z z (absW_cons z z (absW_cons z z (absW_cons z z (absW_nil))))) (ev_v z z (ev_v z z (ev_nil)))) (seqQ_n (?_))
 refine wp_seq ?_
 refine wp_gc ?_
 refine wp_seq ?_
 obtain ⟨v5, hv5, h⟩ := bs h
 refine wp_reg (nx' := 96) z (ev_den (.agg [(.vw _ _), (.vw _ _), (.vw _ _)]) z (d_ld_os z (rget_of z (get_nil)) z (cells_cons z (cells_cons z (cells_cons z (cells_nil))))) (ev_call0 [(.agg [(.vw _ _), (.vw _ _), (.vw _ _)])] z (call_okf (vs' := [(.agg [(.vw _ _), (.vw _ _), (.vw _ _)])]) z (call_ok (rs := []) (rd := []) z z z z (argL_cons (argT_a (argL_cons z (argL_cons z (argL_cons z (argL_nil))))) (argL_nil)) z z (impl_IsTokenRing_ok hv5) z z z z z)) (ev_v z z (ev_nil)))) (seqQ_n (?_))
 rcases its h with ⟨hc6, h⟩ | ⟨hc6, h⟩
 ·refine wp_ct z hc6 ?_
  refine wp_seq ?_
  refine wp_reg (nx' := 128) z (ev_v z z (ev_v z z (ev_nil))) (seqQ_n (?_))
  replace h := Option.some.inj h
  subst h
  exact wp_ret (gcQ_r (seqQ_r (qf_r ((outs_ok (vs := [(.vw _ _), (.vw _ _)]) z (absW_cons z z (absW_cons z z (absW_nil))) z z)))))
 ·refine wp_cf z hc6 ?_
  refine wp_skip (gcQ_n (gc_to [0] (e := [(1, .ptr 0 [] (some 0))]) (ts := [some (.ptr (.agg [.int .i64 p0.1, .int .i64 p0.2.1, .int .i64 p0.2.2]))]) (n := 1) z z z z) (seqQ_n (?_)))
  refine wp_seq ?_
  refine wp_reg (nx' := 113) z (ev_den (.ptr 0 [] (some 0)) z z (ev_v z (d_ld_o z (rget_of z (get_nil)) z z) (ev_den (.ptr 0 [] (some 2)) z z (ev_v z (d_ld_o z (rget_of z (get_nil)) z z) (ev_v z z (ev_v z z (ev_v z z (ev_nil)))))))) (seqQ_n (?_))
  replace h := Option.some.inj h
  subst h
  exact wp_ret (qf_r ((outs_ok (vs := [(.vw _ _), (.vw _ _)]) z (absW_cons z z (absW_cons z z (absW_nil))) z z)))
noncomputable def spec_IdleRound (p0 : Int × Int × Int) : Option ((Int × Bool)) :=
(spec_tkGood p0).bind fun v5 =>
if (!v5) = true then
some ((0 : Int), false)
else
some ((w64 (p0.1 * p0.2.2)), true)
theorem spec_IdleRound_ok {p0 : Int × Int × Int} {o : (Int × Bool)} (h : spec_IdleRound p0 = some o) : RN 35 [.agg [.int .i64 p0.1, .int .i64 p0.2.1, .int .i64 p0.2.2]] [] = some (.tup [.int .i64 o.1, .bool o.2], []) := by
 refine fn_run (o := o) (nr := 0) (F := k35) (st := ⟨entry 0 [.agg [.vw [] (.int .i64 p0.1), .vw [] (.int .i64 p0.2.1), .vw [] (.int .i64 p0.2.2)]], fun n => ([] : List T)[n]?, 0⟩) (fun (o : (Int × Bool)) => (.tup [.int .i64 o.1, .bool o.2], [])) z fns_35 z z z ?_
 refine wp_seq ?_
 refine wp_reg (nx' := 48) z (ev_wr z (w_box (sv := (.agg [(.vw _ _), (.vw _ _), (.vw _ _)])) z z (absW_cons z z (absW_cons z z (absW_cons z z (absW_nil))))) (ev_v z z (ev_v z z (ev_nil)))) (seqQ_n (?_))
 refine wp_seq ?_
 refine wp_gc ?_
 refine wp_seq ?_
 obtain ⟨v5, hv5, h⟩ := bs h
 refine wp_reg (nx' := 96) z (ev_den (.agg [(.vw _ _), (.vw _ _), (.vw _ _)]) z (d_ld_os z (rget_of z (get_nil)) z (cells_cons z (cells_cons z (cells_cons z (cells_nil))))) (ev_call0 [(.agg [(.vw _ _), (.vw _ _), (.vw _ _)])] z (call_okf (vs' := [(.agg [(.vw _ _), (.vw _ _), (.vw _ _)])]) z (call_ok (rs := []) (rd := []) z z z z (argL_cons (argT_a (argL_cons z (argL_cons z (argL_cons z (argL_nil))))) (argL_nil)) z z (spec_tkGood_ok hv5) z z z z z)) (ev_v z z (ev_nil)))) (seqQ_n (?_))
 rcases its h with ⟨hc6, h⟩ | ⟨hc6, h⟩
 ·refine wp_ct z hc6 ?_
  refine wp_seq ?_
  refine wp_reg (nx' := 128) z (ev_v z z (ev_v z z (ev_nil))) (seqQ_n (?_))
  replace h := Option.some.inj h
  subst h
  exact wp_ret (gcQ_r (seqQ_r (qf_r ((outs_ok (vs := [(.vw _ _), (.vw _ _)]) z (absW_cons z z (absW_cons z z (absW_nil))) z z)))))
 ·refine wp_cf z hc6 ?_
  refine wp_skip (gcQ_n (gc_to [0] (e := [(1, .ptr 0 [] (some 0))]) (ts := [some (.ptr (.agg [.int .i64 p0.1, .int .i64 p0.2.1, .int .i64 p0.2.2]))]) (n := 1) z z z z) (seqQ_n (?_)))
  refine wp_seq ?_
  refine wp_reg (nx' := 113) z (ev_den (.ptr 0 [] (some 0)) z z (ev_v z (d_ld_o z (rget_of z (get_nil)) z z) (ev_den (.ptr 0 [] (some 2)) z z (ev_v z (d_ld_o z (rget_of z (get_nil)) z z) (ev_v z z (ev_v z z (ev_v z z (ev_nil)))))))) (seqQ_n (?_))
  replace h := Option.some.inj h
  subst h
  exact wp_ret (qf_r ((outs_ok (vs := [(.vw _ _), (.vw _ _)]) z (absW_cons z z (absW_cons z z (absW_nil))) z z)))
end Go.Proofs.Ytdblfocadcgmaaa.Ev.W7
