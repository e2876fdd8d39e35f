/- What functions of the program come to, as plain functions; no condition. -/
import Derived.Test.YtdblfocadcgmaaaW73
set_option linter.unusedVariables false
set_option linter.unusedSimpArgs false
set_option maxRecDepth 100000
set_option maxHeartbeats 4000000
set_option linter.unusedVariables false
namespace Go.Proofs.Ytdblfocadcgmaaa.Ev.W7
open Go
noncomputable def spec_tkSent (p0 : Int × Int × Int) (p1 : List (Int × Int × Int)) : Option ((List Int)) :=
(spec_tkStart p0 p1).bind fun v3 =>
(spec_tkRun_all v3).bind fun v4 =>
some v4.2.2.2.2.1
theorem spec_tkSent_ok {p0 : Int × Int × Int} {p1 : List (Int × Int × Int)} {o : (List Int)} (h : spec_tkSent p0 p1 = some o) : RN 50 [.agg [.int .i64 p0.1, .int .i64 p0.2.1, .int .i64 p0.2.2], .rows 3 (List.map e0 p1)] [] = some (.ints .i64 o, []) := by
 refine fn_run (o := o) (nr := 0) (F := k50) (st := ⟨entry 0 [.agg [.vw [] (.int .i64 p0.1), .vw [] (.int .i64 p0.2.1), .vw [] (.int .i64 p0.2.2)], .vw [] (.rows 3 (List.map e0 p1))], fun n => ([] : List T)[n]?, 0⟩) (fun (o : (List Int)) => (.ints .i64 o, [])) z fns_50 z z z ?_
 refine wp_seq ?_
 refine wp_reg (nx' := 32) z (ev_wr z (w_box (sv := (.agg [(.vw _ _), (.vw _ _), (.vw _ _)])) z z (absW_cons z z (absW_cons z z (absW_cons z z (absW_nil))))) (ev_new (.ref 16 [] 1 0 0) (.ints .i64 []) z z (ev_nil))) (seqQ_n (?_))
 refine wp_seq ?_
 obtain ⟨v3, hv3, h⟩ := bs h
 refine wp_reg (nx' := 96) z (ev_den (.agg [(.vw _ _), (.vw _ _), (.vw _ _)]) z (d_ld_os z (rget_of z (get_nil)) z (cells_cons z (cells_cons z (cells_cons z (cells_nil))))) (ev_v z z (ev_call0 [(.agg [(.vw _ _), (.vw _ _), (.vw _ _)]), (.vw _ _)] z (call_okf (vs' := [(.agg [(.vw _ _), (.vw _ _), (.vw _ _)]), (.vw _ _)]) z (call_ok (rs := []) (rd := []) z z z z (argL_cons (argT_a (argL_cons z (argL_cons z (argL_cons z (argL_nil))))) (argL_cons z (argL_nil))) z z (spec_tkStart_ok hv3) z z z z z)) (ev_den (.ptr 64 [] (some 0)) z z (ev_nil))))) (seqQ_n (?_))
 refine wp_seq ?_
 obtain ⟨v4, hv4, h⟩ := bs h
 refine wp_reg (nx' := 128) z (ev_den (.ptr 64 [] (some 0)) z z (ev_call1 [(.ptr 64 [] (some 0))] z (call_okt (call_ok (rs := [64]) (rd := []) z z z z (argL_cons z (argL_nil)) z z (spec_tkRun_all_ok hv4) z z z (bindR_t (bindL_nil)) z)) (ev_nil))) (seqQ_n (?_))
 refine wp_seq ?_
 refine wp_reg (nx' := 208) z (ev_den (.ptr 64 [] (some 0)) z z (ev_den (.ptr 64 [] (some 0)) z z (ev_den (.ptr 64 [] (some 4)) z z (ev_den (.ref 64 [.f 4] _ _ _) z (d_ld_o z (rget_of z (get_nil)) z z) (ev_den (.ref 64 [.f 4] _ _ _) z z (ev_nil)))))) (seqQ_n (?_))
 replace h := Option.some.inj h
 subst h
 exact wp_ret (qf_r ((outs_ok (vs := [(.ref 64 [.f 4] _ _ _)]) z (absW_cons (retT_ref (abs_refp (r := .ptr (.agg [.int .i64 v4.1, .int .i64 v4.2.1, .int .i64 v4.2.2.1, .sh (.rows 3 (List.map e0 v4.2.2.2.1)), .ints .i64 v4.2.2.2.2.1, .rows 1 (List.map (T.ints .i64) v4.2.2.2.2.2.1), .int .i64 v4.2.2.2.2.2.2])) z (get_f z (get_nil)) sub_i (rput_p (put_f z (put_nil))))) z (absW_nil)) z z)))
noncomputable def spec_LongestWait_s1 (p1 : List (Int × Int × Int)) (v36 : (List Int)) : (Int × Int) → Option ((Int × Int) ⊕ Int) := fun (x54, x55) =>
if (decide (x55 < (List.length v36 : Int))) = true then
(at? v36 x55).bind fun v77 =>
(at? p1 x55).bind fun v78 =>
(spec_l1Most x54 ((w64 (v77 - v78.1)))).bind fun v79 =>
some (.inl (v79, (w64 (x55 + (1 : Int)))))
else
some (.inr x54)
noncomputable def spec_LongestWait_l1 (p1 : List (Int × Int × Int)) (v36 : (List Int)) : (Int × Int) → Option Int := iter (spec_LongestWait_s1 p1 v36)
noncomputable def spec_LongestWait (p0 : Int × Int × Int) (p1 : List (Int × Int × Int)) : Option ((Int × Bool)) :=
(spec_tkCalls p0 p1).bind fun v19 =>
if (!v19) = true then
some ((0 : Int), false)
else
(spec_tkSent p0 p1).bind fun v36 =>
(spec_LongestWait_l1 p1 v36 ((0 : Int), (0 : Int))).bind fun x62 =>
some (x62, true)
theorem spec_LongestWait_ok {p0 : Int × Int × Int} {p1 : List (Int × Int × Int)} {o : (Int × Bool)} (h : spec_LongestWait p0 p1 = some o) : RN 8 [.agg [.int .i64 p0.1, .int .i64 p0.2.1, .int .i64 p0.2.2], .rows 3 (List.map e0 p1)] [] = some (.tup [.int .i64 o.1, .bool o.2], []) := by
 refine fn_run (o := o) (nr := 0) (F := k8) (st := ⟨entry 0 [.agg [.vw [] (.int .i64 p0.1), .vw [] (.int .i64 p0.2.1), .vw [] (.int .i64 p0.2.2)], .vw [] (.rows 3 (List.map e0 p1))], fun n => ([] : List T)[n]?, 0⟩) (fun (o : (Int × Bool)) => (.tup [.int .i64 o.1, .bool o.2], [])) z fns_8 z z z ?_
 refine wp_seq ?_
 refine wp_reg (nx' := 48) z (ev_wr z (w_box (sv := (.agg [(.vw _ _), (.vw _ _), (.vw _ _)])) z z (absW_cons z z (absW_cons z z (absW_cons z z (absW_nil))))) (ev_v z z (ev_v z z (ev_nil)))) (seqQ_n (?_))
 refine wp_seq ?_
 refine wp_gc ?_
 refine wp_seq ?_
 obtain ⟨v19, hv19, h⟩ := bs h
 refine wp_reg (nx' := 112) z (ev_den (.agg [(.vw _ _), (.vw _ _), (.vw _ _)]) z (d_ld_os z (rget_of z (get_nil)) z (cells_cons z (cells_cons z (cells_cons z (cells_nil))))) (ev_v z z (ev_call0 [(.agg [(.vw _ _), (.vw _ _), (.vw _ _)]), (.vw _ _)] z (call_okf (vs' := [(.agg [(.vw _ _), (.vw _ _), (.vw _ _)]), (.vw _ _)]) z (call_ok (rs := []) (rd := []) z z z z (argL_cons (argT_a (argL_cons z (argL_cons z (argL_cons z (argL_nil))))) (argL_cons z (argL_nil))) z z (spec_tkCalls_ok hv19) z z z z z)) (ev_v z z (ev_nil))))) (seqQ_n (?_))
 rcases its h with ⟨hc20, h⟩ | ⟨hc20, h⟩
 ·refine wp_ct z hc20 ?_
  refine wp_seq ?_
  refine wp_reg (nx' := 144) z (ev_v z z (ev_v z z (ev_nil))) (seqQ_n (?_))
  replace h := Option.some.inj h
  subst h
  exact wp_ret (gcQ_r (seqQ_r (qf_r ((outs_ok (vs := [(.vw _ _), (.vw _ _)]) z (absW_cons z z (absW_cons z z (absW_nil))) z z)))))
 ·refine wp_cf z hc20 ?_
  refine wp_skip (gcQ_n (gc_to [0] (e := [(1, .vw [] (.rows 3 (List.map e0 p1))), (2, .ptr 0 [] (some 0))]) (ts := [some (.ptr (.agg [.int .i64 p0.1, .int .i64 p0.2.1, .int .i64 p0.2.2]))]) (n := 1) z z z z) (seqQ_n (?_)))
  refine wp_seq ?_
  refine wp_reg (nx' := 17) z (ev_v z z (ev_nil)) (seqQ_n (?_))
  refine wp_seq ?_
  refine wp_gc ?_
  refine wp_seq ?_
  refine wp_gc ?_
  obtain ⟨v36, hv36, h⟩ := bs h
  refine wp_reg (nx' := 97) z (ev_den (.agg [(.vw _ _), (.vw _ _), (.vw _ _)]) z (d_ld_os z (rget_of z (get_nil)) z (cells_cons z (cells_cons z (cells_cons z (cells_nil))))) (ev_v z z (ev_call0 [(.agg [(.vw _ _), (.vw _ _), (.vw _ _)]), (.vw _ _)] z (call_okf (vs' := [(.agg [(.vw _ _), (.vw _ _), (.vw _ _)]), (.vw _ _)]) z (call_ok (rs := []) (rd := []) z z z z (argL_cons (argT_a (argL_cons z (argL_cons z (argL_cons z (argL_nil))))) (argL_cons z (argL_nil))) z z (spec_tkSent_ok hv36) z z z z z)) (ev_v z z (ev_v z z (ev_nil)))))) (gcQ_n (gc_to [49] (e := [(1, .vw [] (.rows 3 (List.map e0 p1))), (6, .vw [] (.int .i64 ((0 : Int)))), (15, .ref 0 [] 1 0 (List.length v36)), (16, .vw [] (.int .i64 ((List.length v36 : Int)))), (17, .vw [] (.int .i64 ((0 : Int))))]) (ts := [some (.ints .i64 v36)]) (n := 1) z z z z) (seqQ_n (?_)))
  refine wp_gc ?_
  refine wp_blk ?_
  obtain ⟨x62, hw83, h⟩ := bs h
  refine wp_mono (wp_loop (fun ((x54, x55) : Int × Int) => (⟨al .dead [(1, .vw [] (.rows 3 (List.map e0 p1))), (6, .vw [] (.int .i64 x54)), (15, .ref 0 [] 1 0 (List.length v36)), (16, .vw [] (.int .i64 ((List.length v36 : Int)))), (17, .vw [] (.int .i64 x55))], hl [some (.ints .i64 v36)], 1⟩ : St)) (fun (x62 : Int) e st => e = .exit 0 ∧ gc 0 [6] st = ⟨al .dead [(6, .vw [] (.int .i64 x62))], hl [], 0⟩) hw83 ?_) ?_
  ·rintro ⟨x54, x55⟩ o h
   refine wp_gc ?_
   refine wp_seq ?_
   refine wp_reg (nx' := 17) z (ev_v z z (ev_nil)) (seqQ_n (?_))
   refine wp_seq ?_
   refine wp_gc ?_
   rcases its h with ⟨hc70, h⟩ | ⟨hc70, h⟩
   ·refine wp_ct z hc70 ?_
    refine wp_skip (gcQ_n (gc_to [0] (e := [(1, .vw [] (.rows 3 (List.map e0 p1))), (6, .vw [] (.int .i64 x54)), (15, .ref 0 [] 1 0 (List.length v36)), (16, .vw [] (.int .i64 ((List.length v36 : Int)))), (17, .vw [] (.int .i64 x55))]) (ts := [some (.ints .i64 v36)]) (n := 1) z z z z) (seqQ_n (?_)))
    refine wp_seq ?_
    refine wp_gc ?_
    refine wp_gc ?_
    refine wp_blk ?_
    refine wp_seq ?_
    obtain ⟨v77, hv77, h⟩ := bs h
    refine wp_reg (nx' := 81) z (ev_v z z (ev_den (.ptr 0 [.e (Int.toNat x55)] none) z (d_idx_r (p := []) z z hv77) (ev_v z (d_ld_p z (rget_of z (get_i hv77)) z) (ev_v z z (ev_v z z (ev_nil)))))) (seqQ_n (?_))
    obtain ⟨v78, hv78, h⟩ := bs h
    obtain ⟨v79, hv79, h⟩ := bs h
    refine wp_reg (nx' := 241) z (ev_v z z (ev_v z z (ev_v z z (ev_v z z (ev_den (.pv _ _) z (d_idx_vr e0 z z hv78) (ev_den (.pv _ _) z z (ev_v z z (ev_v z z (ev_call0 [(.vw _ _), (.vw _ _)] z (call_okf (vs' := [(.vw _ _), (.vw _ _)]) z (call_ok (rs := []) (rd := []) z z z z (argL_cons z (argL_cons z (argL_nil))) z z (spec_l1Most_ok hv79) z z z z z)) (ev_v z z (ev_nil))))))))))) (blkQ_n (gcQ_n (gc_to [0] (e := [(1, .vw [] (.rows 3 (List.map e0 p1))), (6, .vw [] (.int .i64 v79)), (15, .ref 0 [] 1 0 (List.length v36)), (16, .vw [] (.int .i64 ((List.length v36 : Int)))), (17, .vw [] (.int .i64 x55))]) (ts := [some (.ints .i64 v36)]) (n := 1) z z z z) (gcQ_n (gc_to [0] (e := [(1, .vw [] (.rows 3 (List.map e0 p1))), (6, .vw [] (.int .i64 v79)), (15, .ref 0 [] 1 0 (List.length v36)), (16, .vw [] (.int .i64 ((List.length v36 : Int)))), (17, .vw [] (.int .i64 x55))]) (ts := [some (.ints .i64 v36)]) (n := 1) z z z z) (seqQ_n (?_)))))
    replace h := Option.some.inj h
    subst h
    exact wp_reg (nx' := 33) z (ev_v z z (ev_v z z (ev_nil))) (gcQ_n (gc_to [0] (e := [(1, .vw [] (.rows 3 (List.map e0 p1))), (6, .vw [] (.int .i64 v79)), (15, .ref 0 [] 1 0 (List.length v36)), (16, .vw [] (.int .i64 ((List.length v36 : Int)))), (17, .vw [] (.int .i64 ((w64 (x55 + (1 : Int))))))]) (ts := [some (.ints .i64 v36)]) (n := 1) z z z z) (loopQ_n z))
   ·refine wp_cf z hc70 ?_
    replace h := Option.some.inj h
    subst h
    exact wp_exit (gcQ_e (seqQ_e (gcQ_e (loopQ_e (And.intro z (gc_to [] (e := [(6, .vw [] (.int .i64 x54))]) (ts := []) (n := 0) z z z z))))))
  ·intro e st83 hg83
   obtain ⟨rfl, hg83⟩ := hg83
   refine blkQ_h (gcQ_n hg83 (gcQ_n (gc_to [] (e := [(6, .vw [] (.int .i64 x62))]) (ts := []) (n := 0) z z z z) (seqQ_n (?_))))
   refine wp_seq ?_
   refine wp_reg (nx' := 48) z (ev_v z z (ev_v z z (ev_v z z (ev_nil)))) (seqQ_n (?_))
   replace h := Option.some.inj h
   subst h
   exact wp_ret (qf_r ((outs_ok (vs := [(.vw _ _), (.vw _ _)]) z (absW_cons z z (absW_cons z z (absW_nil))) z z)))
noncomputable def impl_ArrivedAt_s1 (v11 : ((List Int) × Bool)) : ((List Int) × Int) → Option (((List Int) × Int) ⊕ ((List Int))) := fun (x32, x33) =>
if (decide (x33 < (List.length v11.1 : Int))) = true then
(at? x32 x33).bind fun v47 =>
some (.inl ((List.set x32 (Int.toNat x33) ((w64 (v47 + (1 : Int))))), (w64 (x33 + (1 : Int)))))
else
some (.inr x32)
noncomputable def impl_ArrivedAt_l1 (v11 : ((List Int) × Bool)) : ((List Int) × Int) → Option ((List Int)) := iter (impl_ArrivedAt_s1 v11)
noncomputable def impl_ArrivedAt (p0 : Int × Int × Int) (p1 : List (Int × Int × Int)) : Option (((List Int) × Bool)) :=
(impl_SentAt p0 p1).bind fun v11 =>
(impl_ArrivedAt_l1 v11 (v11.1, (0 : Int))).bind fun x38 =>
some (x38, v11.2)
theorem impl_ArrivedAt_ok {p0 : Int × Int × Int} {p1 : List (Int × Int × Int)} {o : ((List Int) × Bool)} (h : impl_ArrivedAt p0 p1 = some o) : RN 44 [.agg [.int .i64 p0.1, .int .i64 p0.2.1, .int .i64 p0.2.2], .rows 3 (List.map e0 p1)] [] = some (.tup [.ints .i64 o.1, .bool o.2], []) := by
 refine fn_run (o := o) (nr := 0) (F := k44) (st := ⟨entry 0 [.agg [.vw [] (.int .i64 p0.1), .vw [] (.int .i64 p0.2.1), .vw [] (.int .i64 p0.2.2)], .vw [] (.rows 3 (List.map e0 p1))], fun n => ([] : List T)[n]?, 0⟩) (fun (o : ((List Int) × Bool)) => (.tup [.ints .i64 o.1, .bool o.2], [])) z fns_44 z z z ?_
 refine wp_seq ?_
 refine wp_reg (nx' := 48) z (ev_wr z (w_box (sv := (.agg [(.vw _ _), (.vw _ _), (.vw _ _)])) z z (absW_cons z z (absW_cons z z (absW_cons z z (absW_nil))))) (ev_new (.ref 16 [] 1 0 0) (.ints .i64 []) z z (ev_v z z (ev_nil)))) (seqQ_n (?_))
 refine wp_seq ?_
 obtain ⟨v11, hv11, h⟩ := bs h
 refine wp_reg (nx' := 176) z (ev_den (.agg [(.vw _ _), (.vw _ _), (.vw _ _)]) z (d_ld_os z (rget_of z (get_nil)) z (cells_cons z (cells_cons z (cells_cons z (cells_nil))))) (ev_v z z (ev_call0 [(.agg [(.vw _ _), (.vw _ _), (.vw _ _)]), (.vw _ _)] z (call_okf (vs' := [(.agg [(.vw _ _), (.vw _ _), (.vw _ _)]), (.vw _ _)]) z (call_ok (rs := []) (rd := []) z z z z (argL_cons (argT_a (argL_cons z (argL_cons z (argL_cons z (argL_nil))))) (argL_cons z (argL_nil))) z z (impl_SentAt_ok hv11) z z z (bindR_t (bindL_cons z (bindL_cons z (bindL_nil)))) z)) (ev_den (.tup [(.ref 80 _ _ _ _), (.vw _ _)]) z z (ev_den (.ref 80 _ _ _ _) z z (ev_v z z (ev_den (.ref 80 _ _ _ _) z z (ev_v z z (ev_nil))))))))) (seqQ_n (?_))
 refine wp_seq ?_
 refine wp_gc ?_
 refine wp_seq ?_
 refine wp_gc ?_
 refine wp_reg (nx' := 224) z (ev_den (.ref 80 _ _ _ _) z z (ev_v z z (ev_v z z (ev_nil)))) (gcQ_n (gc_to [80] (e := [(6, .ref 0 [] 1 0 (List.length v11.1)), (7, .vw [] (.bool v11.2)), (16, .vw [] (.int .i64 ((List.length v11.1 : Int)))), (17, .vw [] (.int .i64 ((0 : Int))))]) (ts := [some (.ints .i64 v11.1)]) (n := 1) z z z z) (seqQ_n (?_)))
 refine wp_gc ?_
 refine wp_blk ?_
 obtain ⟨x38, hw51, h⟩ := bs h
 refine wp_mono (wp_loop (fun ((x32, x33) : (List Int) × Int) => (⟨al .dead [(6, .ref 0 [] 1 0 (List.length x32)), (7, .vw [] (.bool v11.2)), (16, .vw [] (.int .i64 ((List.length v11.1 : Int)))), (17, .vw [] (.int .i64 x33))], hl [some (.ints .i64 x32)], 1⟩ : St)) (fun (x38 : (List Int)) e st => e = .exit 0 ∧ gc 0 [6, 7] st = ⟨al .dead [(6, .ref 0 [] 1 0 (List.length x38)), (7, .vw [] (.bool v11.2))], hl [some (.ints .i64 x38)], 1⟩) hw51 ?_) ?_
 ·rintro ⟨x32, x33⟩ o h
  refine wp_gc ?_
  refine wp_seq ?_
  refine wp_reg (nx' := 17) z (ev_v z z (ev_nil)) (seqQ_n (?_))
  refine wp_seq ?_
  refine wp_gc ?_
  rcases its h with ⟨hc44, h⟩ | ⟨hc44, h⟩
  ·refine wp_ct z hc44 ?_
   refine wp_skip (gcQ_n (gc_to [0] (e := [(6, .ref 0 [] 1 0 (List.length x32)), (7, .vw [] (.bool v11.2)), (16, .vw [] (.int .i64 ((List.length v11.1 : Int)))), (17, .vw [] (.int .i64 x33))]) (ts := [some (.ints .i64 x32)]) (n := 1) z z z z) (seqQ_n (?_)))
   refine wp_seq ?_
   refine wp_gc ?_
   refine wp_gc ?_
   refine wp_blk ?_
   refine wp_seq ?_
   refine wp_reg (nx' := 33) z (ev_v z z (ev_v z z (ev_nil))) (seqQ_n (?_))
   obtain ⟨v47, hv47, h⟩ := bs h
   refine wp_reg (nx' := 145) z (ev_den (.ref 0 _ _ _ _) z z (ev_v z z (ev_den (.ptr 0 [.e (Int.toNat x33)] none) z (d_idx_r (p := []) z z hv47) (ev_v z (d_ld_p z (rget_of z (get_i hv47)) z) (ev_v z z (ev_den (.ptr 0 [.e (Int.toNat x33)] none) z (d_idx_r (p := []) z z hv47) (ev_wr0 z (w_st_p z (st1_of z z z (get_i hv47) z (rput_i (put_i hv47)))) (ev_relen (b := (List.length ((List.set x32 (Int.toNat x33) ((w64 (v47 + (1 : Int)))))))) 6 z List.length_set.symm (ev_nil))))))))) (blkQ_n (gcQ_n (gc_to [0] (e := [(6, .ref 0 [] 1 0 (List.length ((List.set x32 (Int.toNat x33) ((w64 (v47 + (1 : Int)))))))), (7, .vw [] (.bool v11.2)), (16, .vw [] (.int .i64 ((List.length v11.1 : Int)))), (17, .vw [] (.int .i64 x33))]) (ts := [some (.ints .i64 ((List.set x32 (Int.toNat x33) ((w64 (v47 + (1 : Int)))))))]) (n := 1) z z z z) (gcQ_n (gc_to [0] (e := [(6, .ref 0 [] 1 0 (List.length ((List.set x32 (Int.toNat x33) ((w64 (v47 + (1 : Int)))))))), (7, .vw [] (.bool v11.2)), (16, .vw [] (.int .i64 ((List.length v11.1 : Int)))), (17, .vw [] (.int .i64 x33))]) (ts := [some (.ints .i64 ((List.set x32 (Int.toNat x33) ((w64 (v47 + (1 : Int)))))))]) (n := 1) z z z z) (seqQ_n (?_)))))
   replace h := Option.some.inj h
   subst h
   exact wp_reg (nx' := 33) z (ev_v z z (ev_v z z (ev_nil))) (gcQ_n (gc_to [0] (e := [(6, .ref 0 [] 1 0 (List.length ((List.set x32 (Int.toNat x33) ((w64 (v47 + (1 : Int)))))))), (7, .vw [] (.bool v11.2)), (16, .vw [] (.int .i64 ((List.length v11.1 : Int)))), (17, .vw [] (.int .i64 ((w64 (x33 + (1 : Int))))))]) (ts := [some (.ints .i64 ((List.set x32 (Int.toNat x33) ((w64 (v47 + (1 : Int)))))))]) (n := 1) z z z z) (loopQ_n z))
  ·refine wp_cf z hc44 ?_
   replace h := Option.some.inj h
   subst h
   exact wp_exit (gcQ_e (seqQ_e (gcQ_e (loopQ_e (And.intro z (gc_to [0] (e := [(6, .ref 0 [] 1 0 (List.length x32)), (7, .vw [] (.bool v11.2))]) (ts := [some (.ints .i64 x32)]) (n := 1) z z z z))))))
 ·intro e st51 hg51
  obtain ⟨rfl, hg51⟩ := hg51
  refine blkQ_h (gcQ_n hg51 (gcQ_n (gc_to [0] (e := [(6, .ref 0 [] 1 0 (List.length x38)), (7, .vw [] (.bool v11.2))]) (ts := [some (.ints .i64 x38)]) (n := 1) z z z z) (seqQ_n (?_))))
  refine wp_seq ?_
  refine wp_reg (nx' := 65) z (ev_den (.ref 0 _ _ _ _) z z (ev_v z z (ev_den (.ref 0 _ _ _ _) z z (ev_v z z (ev_nil))))) (seqQ_n (?_))
  replace h := Option.some.inj h
  subst h
  exact wp_ret (qf_r ((outs_ok (vs := [(.ref 0 _ _ _ _), (.vw _ _)]) z (absW_cons (retT_ref (abs_ref z sub_i)) z (absW_cons z z (absW_nil))) z z)))
noncomputable def impl_RestAt_s1 (v11 : ((List Int) × Bool)) : (Int × Int) → Option ((Int × Int) ⊕ Int) := fun (x32, x33) =>
if (decide (x33 < (List.length v11.1 : Int))) = true then
(at? v11.1 x33).bind fun v47 =>
some (.inl ((if v47 > x32 then v47 else x32), (w64 (x33 + (1 : Int)))))
else
some (.inr x32)
noncomputable def impl_RestAt_l1 (v11 : ((List Int) × Bool)) : (Int × Int) → Option Int := iter (impl_RestAt_s1 v11)
noncomputable def impl_RestAt (p0 : Int × Int × Int) (p1 : List (Int × Int × Int)) : Option ((Int × Bool)) :=
(impl_ArrivedAt p0 p1).bind fun v11 =>
(impl_RestAt_l1 v11 ((0 : Int), (0 : Int))).bind fun x38 =>
some (x38, v11.2)
theorem impl_RestAt_ok {p0 : Int × Int × Int} {p1 : List (Int × Int × Int)} {o : (Int × Bool)} (h : impl_RestAt p0 p1 = some o) : RN 9 [.agg [.int .i64 p0.1, .int .i64 p0.2.1, .int .i64 p0.2.2], .rows 3 (List.map e0 p1)] [] = some (.tup [.int .i64 o.1, .bool o.2], []) := by
 refine fn_run (o := o) (nr := 0) (F := k9) (st := ⟨entry 0 [.agg [.vw [] (.int .i64 p0.1), .vw [] (.int .i64 p0.2.1), .vw [] (.int .i64 p0.2.2)], .vw [] (.rows 3 (List.map e0 p1))], fun n => ([] : List T)[n]?, 0⟩) (fun (o : (Int × Bool)) => (.tup [.int .i64 o.1, .bool o.2], [])) z fns_9 z z z ?_
 refine wp_seq ?_
 refine wp_reg (nx' := 48) z (ev_wr z (w_box (sv := (.agg [(.vw _ _), (.vw _ _), (.vw _ _)])) z z (absW_cons z z (absW_cons z z (absW_cons z z (absW_nil))))) (ev_v z z (ev_v z z (ev_nil)))) (seqQ_n (?_))
 refine wp_seq ?_
 obtain ⟨v11, hv11, h⟩ := bs h
 refine wp_reg (nx' := 176) z (ev_den (.agg [(.vw _ _), (.vw _ _), (.vw _ _)]) z (d_ld_os z (rget_of z (get_nil)) z (cells_cons z (cells_cons z (cells_cons z (cells_nil))))) (ev_v z z (ev_call0 [(.agg [(.vw _ _), (.vw _ _), (.vw _ _)]), (.vw _ _)] z (call_okf (vs' := [(.agg [(.vw _ _), (.vw _ _), (.vw _ _)]), (.vw _ _)]) z (call_ok (rs := []) (rd := []) z z z z (argL_cons (argT_a (argL_cons z (argL_cons z (argL_cons z (argL_nil))))) (argL_cons z (argL_nil))) z z (impl_ArrivedAt_ok hv11) z z z (bindR_t (bindL_cons z (bindL_cons z (bindL_nil)))) z)) (ev_den (.tup [(.ref 80 _ _ _ _), (.vw _ _)]) z z (ev_den (.ref 80 _ _ _ _) z z (ev_v z z (ev_den (.ref 80 _ _ _ _) z z (ev_v z z (ev_nil))))))))) (seqQ_n (?_))
 refine wp_seq ?_
 refine wp_reg (nx' := 192) z (ev_v z z (ev_nil)) (seqQ_n (?_))
 refine wp_seq ?_
 refine wp_gc ?_
 refine wp_seq ?_
 refine wp_gc ?_
 refine wp_reg (nx' := 240) z (ev_den (.ref 80 _ _ _ _) z z (ev_v z z (ev_v z z (ev_nil)))) (gcQ_n (gc_to [80] (e := [(7, .vw [] (.bool v11.2)), (8, .vw [] (.int .i64 ((0 : Int)))), (17, .ref 0 [] 1 0 (List.length v11.1)), (18, .vw [] (.int .i64 ((List.length v11.1 : Int)))), (19, .vw [] (.int .i64 ((0 : Int))))]) (ts := [some (.ints .i64 v11.1)]) (n := 1) z z z z) (seqQ_n (?_)))
 refine wp_gc ?_
 refine wp_blk ?_
 obtain ⟨x38, hw51, h⟩ := bs h
 refine wp_mono (wp_loop (fun ((x32, x33) : Int × Int) => (⟨al .dead [(7, .vw [] (.bool v11.2)), (8, .vw [] (.int .i64 x32)), (17, .ref 0 [] 1 0 (List.length v11.1)), (18, .vw [] (.int .i64 ((List.length v11.1 : Int)))), (19, .vw [] (.int .i64 x33))], hl [some (.ints .i64 v11.1)], 1⟩ : St)) (fun (x38 : Int) e st => e = .exit 0 ∧ gc 0 [7, 8] st = ⟨al .dead [(7, .vw [] (.bool v11.2)), (8, .vw [] (.int .i64 x38))], hl [], 0⟩) hw51 ?_) ?_
 ·rintro ⟨x32, x33⟩ o h
  refine wp_gc ?_
  refine wp_seq ?_
  refine wp_reg (nx' := 17) z (ev_v z z (ev_nil)) (seqQ_n (?_))
  refine wp_seq ?_
  refine wp_gc ?_
  rcases its h with ⟨hc44, h⟩ | ⟨hc44, h⟩
  ·refine wp_ct z hc44 ?_
   refine wp_skip (gcQ_n (gc_to [0] (e := [(7, .vw [] (.bool v11.2)), (8, .vw [] (.int .i64 x32)), (17, .ref 0 [] 1 0 (List.length v11.1)), (18, .vw [] (.int .i64 ((List.length v11.1 : Int)))), (19, .vw [] (.int .i64 x33))]) (ts := [some (.ints .i64 v11.1)]) (n := 1) z z z z) (seqQ_n (?_)))
   refine wp_seq ?_
   refine wp_gc ?_
   refine wp_gc ?_
   refine wp_blk ?_
   refine wp_seq ?_
   obtain ⟨v47, hv47, h⟩ := bs h
   refine wp_reg (nx' := 49) z (ev_den (.ptr 0 [.e (Int.toNat x33)] none) z (d_idx_r (p := []) z z hv47) (ev_v z (d_ld_p z (rget_of z (get_i hv47)) z) (ev_v z z (ev_nil)))) (seqQ_n (?_))
   refine wp_reg (nx' := 113) z (ev_v z z (ev_v z z (ev_v z z (ev_v z z (ev_nil))))) (blkQ_n (gcQ_n (gc_to [0] (e := [(7, .vw [] (.bool v11.2)), (8, .vw [] (.int .i64 ((if v47 > x32 then v47 else x32)))), (17, .ref 0 [] 1 0 (List.length v11.1)), (18, .vw [] (.int .i64 ((List.length v11.1 : Int)))), (19, .vw [] (.int .i64 x33))]) (ts := [some (.ints .i64 v11.1)]) (n := 1) z z z z) (gcQ_n (gc_to [0] (e := [(7, .vw [] (.bool v11.2)), (8, .vw [] (.int .i64 ((if v47 > x32 then v47 else x32)))), (17, .ref 0 [] 1 0 (List.length v11.1)), (18, .vw [] (.int .i64 ((List.length v11.1 : Int)))), (19, .vw [] (.int .i64 x33))]) (ts := [some (.ints .i64 v11.1)]) (n := 1) z z z z) (seqQ_n (?_)))))
   replace h := Option.some.inj h
   subst h
   exact wp_reg (nx' := 33) z (ev_v z z (ev_v z z (ev_nil))) (gcQ_n (gc_to [0] (e := [(7, .vw [] (.bool v11.2)), (8, .vw [] (.int .i64 ((if v47 > x32 then v47 else x32)))), (17, .ref 0 [] 1 0 (List.length v11.1)), (18, .vw [] (.int .i64 ((List.length v11.1 : Int)))), (19, .vw [] (.int .i64 ((w64 (x33 + (1 : Int))))))]) (ts := [some (.ints .i64 v11.1)]) (n := 1) z z z z) (loopQ_n z))
  ·refine wp_cf z hc44 ?_
   replace h := Option.some.inj h
   subst h
   exact wp_exit (gcQ_e (seqQ_e (gcQ_e (loopQ_e (And.intro z (gc_to [] (e := [(7, .vw [] (.bool v11.2)), (8, .vw [] (.int .i64 x32))]) (ts := []) (n := 0) z z z z))))))
 ·intro e st51 hg51
  obtain ⟨rfl, hg51⟩ := hg51
  refine blkQ_h (gcQ_n hg51 (gcQ_n (gc_to [] (e := [(7, .vw [] (.bool v11.2)), (8, .vw [] (.int .i64 x38))]) (ts := []) (n := 0) z z z z) (seqQ_n (?_))))
  refine wp_seq ?_
  refine wp_reg (nx' := 64) z (ev_v z z (ev_v z z (ev_v z z (ev_v z z (ev_nil))))) (seqQ_n (?_))
  replace h := Option.some.inj h
  subst h
  exact wp_ret (qf_r ((outs_ok (vs := [(.vw _ _), (.vw _ _)]) z (absW_cons z z (absW_cons z z (absW_nil))) z z)))
noncomputable def spec_RestAt_s1 (v32 : (List Int)) : (Int × Int) → Option ((Int × Int) ⊕ Int) := fun (x47, x48) =>
if (decide (x48 < (List.length v32 : Int))) = true then
(at? v32 x48).bind fun v66 =>
(spec_l1Most x47 ((w64 (v66 + (1 : Int))))).bind fun v67 =>
some (.inl (v67, (w64 (x48 + (1 : Int)))))
else
some (.inr x47)
noncomputable def spec_RestAt_l1 (v32 : (List Int)) : (Int × Int) → Option Int := iter (spec_RestAt_s1 v32)
noncomputable def spec_RestAt (p0 : Int × Int × Int) (p1 : List (Int × Int × Int)) : Option ((Int × Bool)) :=
(spec_tkCalls p0 p1).bind fun v17 =>
if (!v17) = true then
some ((0 : Int), false)
else
(spec_tkSent p0 p1).bind fun v32 =>
(spec_RestAt_l1 v32 ((0 : Int), (0 : Int))).bind fun x54 =>
some (x54, true)
theorem spec_RestAt_ok {p0 : Int × Int × Int} {p1 : List (Int × Int × Int)} {o : (Int × Bool)} (h : spec_RestAt p0 p1 = some o) : RN 10 [.agg [.int .i64 p0.1, .int .i64 p0.2.1, .int .i64 p0.2.2], .rows 3 (List.map e0 p1)] [] = some (.tup [.int .i64 o.1, .bool o.2], []) := by
 refine fn_run (o := o) (nr := 0) (F := k10) (st := ⟨entry 0 [.agg [.vw [] (.int .i64 p0.1), .vw [] (.int .i64 p0.2.1), .vw [] (.int .i64 p0.2.2)], .vw [] (.rows 3 (List.map e0 p1))], fun n => ([] : List T)[n]?, 0⟩) (fun (o : (Int × Bool)) => (.tup [.int .i64 o.1, .bool o.2], [])) z fns_10 z z z ?_
 refine wp_seq ?_
 refine wp_reg (nx' := 48) z (ev_wr z (w_box (sv := (.agg [(.vw _ _), (.vw _ _), (.vw _ _)])) z z (absW_cons z z (absW_cons z z (absW_cons z z (absW_nil))))) (ev_v z z (ev_v z z (ev_nil)))) (seqQ_n (?_))
 refine wp_seq ?_
 refine wp_gc ?_
 refine wp_seq ?_
 obtain ⟨v17, hv17, h⟩ := bs h
 refine wp_reg (nx' := 112) z (ev_den (.agg [(.vw _ _), (.vw _ _), (.vw _ _)]) z (d_ld_os z (rget_of z (get_nil)) z (cells_cons z (cells_cons z (cells_cons z (cells_nil))))) (ev_v z z (ev_call0 [(.agg [(.vw _ _), (.vw _ _), (.vw _ _)]), (.vw _ _)] z (call_okf (vs' := [(.agg [(.vw _ _), (.vw _ _), (.vw _ _)]), (.vw _ _)]) z (call_ok (rs := []) (rd := []) z z z z (argL_cons (argT_a (argL_cons z (argL_cons z (argL_cons z (argL_nil))))) (argL_cons z (argL_nil))) z z (spec_tkCalls_ok hv17) z z z z z)) (ev_v z z (ev_nil))))) (seqQ_n (?_))
 rcases its h with ⟨hc18, h⟩ | ⟨hc18, h⟩
 ·refine wp_ct z hc18 ?_
  refine wp_seq ?_
  refine wp_reg (nx' := 144) z (ev_v z z (ev_v z z (ev_nil))) (seqQ_n (?_))
  replace h := Option.some.inj h
  subst h
  exact wp_ret (gcQ_r (seqQ_r (qf_r ((outs_ok (vs := [(.vw _ _), (.vw _ _)]) z (absW_cons z z (absW_cons z z (absW_nil))) z z)))))
 ·refine wp_cf z hc18 ?_
  refine wp_skip (gcQ_n (gc_to [0] (e := [(1, .vw [] (.rows 3 (List.map e0 p1))), (2, .ptr 0 [] (some 0))]) (ts := [some (.ptr (.agg [.int .i64 p0.1, .int .i64 p0.2.1, .int .i64 p0.2.2]))]) (n := 1) z z z z) (seqQ_n (?_)))
  refine wp_seq ?_
  refine wp_reg (nx' := 17) z (ev_v z z (ev_nil)) (seqQ_n (?_))
  refine wp_seq ?_
  refine wp_gc ?_
  refine wp_seq ?_
  refine wp_gc ?_
  obtain ⟨v32, hv32, h⟩ := bs h
  refine wp_reg (nx' := 97) z (ev_den (.agg [(.vw _ _), (.vw _ _), (.vw _ _)]) z (d_ld_os z (rget_of z (get_nil)) z (cells_cons z (cells_cons z (cells_cons z (cells_nil))))) (ev_v z z (ev_call0 [(.agg [(.vw _ _), (.vw _ _), (.vw _ _)]), (.vw _ _)] z (call_okf (vs' := [(.agg [(.vw _ _), (.vw _ _), (.vw _ _)]), (.vw _ _)]) z (call_ok (rs := []) (rd := []) z z z z (argL_cons (argT_a (argL_cons z (argL_cons z (argL_cons z (argL_nil))))) (argL_cons z (argL_nil))) z z (spec_tkSent_ok hv32) z z z z z)) (ev_v z z (ev_v z z (ev_nil)))))) (gcQ_n (gc_to [49] (e := [(6, .vw [] (.int .i64 ((0 : Int)))), (15, .ref 0 [] 1 0 (List.length v32)), (16, .vw [] (.int .i64 ((List.length v32 : Int)))), (17, .vw [] (.int .i64 ((0 : Int))))]) (ts := [some (.ints .i64 v32)]) (n := 1) z z z z) (seqQ_n (?_)))
  refine wp_gc ?_
  refine wp_blk ?_
  obtain ⟨x54, hw71, h⟩ := bs h
  refine wp_mono (wp_loop (fun ((x47, x48) : Int × Int) => (⟨al .dead [(6, .vw [] (.int .i64 x47)), (15, .ref 0 [] 1 0 (List.length v32)), (16, .vw [] (.int .i64 ((List.length v32 : Int)))), (17, .vw [] (.int .i64 x48))], hl [some (.ints .i64 v32)], 1⟩ : St)) (fun (x54 : Int) e st => e = .exit 0 ∧ gc 0 [6] st = ⟨al .dead [(6, .vw [] (.int .i64 x54))], hl [], 0⟩) hw71 ?_) ?_
  ·rintro ⟨x47, x48⟩ o h
   refine wp_gc ?_
   refine wp_seq ?_
   refine wp_reg (nx' := 17) z (ev_v z z (ev_nil)) (seqQ_n (?_))
   refine wp_seq ?_
   refine wp_gc ?_
   rcases its h with ⟨hc61, h⟩ | ⟨hc61, h⟩
   ·refine wp_ct z hc61 ?_
    refine wp_skip (gcQ_n (gc_to [0] (e := [(6, .vw [] (.int .i64 x47)), (15, .ref 0 [] 1 0 (List.length v32)), (16, .vw [] (.int .i64 ((List.length v32 : Int)))), (17, .vw [] (.int .i64 x48))]) (ts := [some (.ints .i64 v32)]) (n := 1) z z z z) (seqQ_n (?_)))
    refine wp_seq ?_
    refine wp_gc ?_
    refine wp_gc ?_
    refine wp_blk ?_
    refine wp_seq ?_
    obtain ⟨v66, hv66, h⟩ := bs h
    refine wp_reg (nx' := 49) z (ev_den (.ptr 0 [.e (Int.toNat x48)] none) z (d_idx_r (p := []) z z hv66) (ev_v z (d_ld_p z (rget_of z (get_i hv66)) z) (ev_v z z (ev_nil)))) (seqQ_n (?_))
    obtain ⟨v67, hv67, h⟩ := bs h
    refine wp_reg (nx' := 129) z (ev_v z z (ev_v z z (ev_v z z (ev_call0 [(.vw _ _), (.vw _ _)] z (call_okf (vs' := [(.vw _ _), (.vw _ _)]) z (call_ok (rs := []) (rd := []) z z z z (argL_cons z (argL_cons z (argL_nil))) z z (spec_l1Most_ok hv67) z z z z z)) (ev_v z z (ev_nil)))))) (blkQ_n (gcQ_n (gc_to [0] (e := [(6, .vw [] (.int .i64 v67)), (15, .ref 0 [] 1 0 (List.length v32)), (16, .vw [] (.int .i64 ((List.length v32 : Int)))), (17, .vw [] (.int .i64 x48))]) (ts := [some (.ints .i64 v32)]) (n := 1) z z z z) (gcQ_n (gc_to [0] (e := [(6, .vw [] (.int .i64 v67)), (15, .ref 0 [] 1 0 (List.length v32)), (16, .vw [] (.int .i64 ((List.length v32 : Int)))), (17, .vw [] (.int .i64 x48))]) (ts := [some (.ints .i64 v32)]) (n := 1) z z z z) (seqQ_n (?_)))))
    replace h := Option.some.inj h
    subst h
    exact wp_reg (nx' := 33) z (ev_v z z (ev_v z z (ev_nil))) (gcQ_n (gc_to [0] (e := [(6, .vw [] (.int .i64 v67)), (15, .ref 0 [] 1 0 (List.length v32)), (16, .vw [] (.int .i64 ((List.length v32 : Int)))), (17, .vw [] (.int .i64 ((w64 (x48 + (1 : Int))))))]) (ts := [some (.ints .i64 v32)]) (n := 1) z z z z) (loopQ_n z))
   ·refine wp_cf z hc61 ?_
    replace h := Option.some.inj h
    subst h
    exact wp_exit (gcQ_e (seqQ_e (gcQ_e (loopQ_e (And.intro z (gc_to [] (e := [(6, .vw [] (.int .i64 x47))]) (ts := []) (n := 0) z z z z))))))
  ·intro e st71 hg71
   obtain ⟨rfl, hg71⟩ := hg71
   refine blkQ_h (gcQ_n hg71 (gcQ_n (gc_to [] (e := [(6, .vw [] (.int .i64 x54))]) (ts := []) (n := 0) z z z z) (seqQ_n (?_))))
   refine wp_seq ?_
   refine wp_reg (nx' := 48) z (ev_v z z (ev_v z z (ev_v z z (ev_nil)))) (seqQ_n (?_))
   replace h := Option.some.inj h
   subst h
   exact wp_ret (qf_r ((outs_ok (vs := [(.vw _ _), (.vw _ _)]) z (absW_cons z z (absW_cons z z (absW_nil))) z z)))
noncomputable def impl_TokenRing_longestRound (p0 : Int × Int × Int) : Option Int :=
some (w64 (p0.1 * (w64 (p0.2.1 + p0.2.2))))
theorem impl_TokenRing_longestRound_ok {p0 : Int × Int × Int} {o : Int} (h : impl_TokenRing_longestRound p0 = some o) : RN 55 [.agg [.int .i64 p0.1, .int .i64 p0.2.1, .int .i64 p0.2.2]] [] = some (.int .i64 o, []) := by
 refine fn_run (o := o) (nr := 0) (F := k55) (st := ⟨entry 0 [.agg [.vw [] (.int .i64 p0.1), .vw [] (.int .i64 p0.2.1), .vw [] (.int .i64 p0.2.2)]], fun n => ([] : List T)[n]?, 0⟩) (fun (o : Int) => (.int .i64 o, [])) z fns_55 z z z ?_
 refine wp_seq ?_
 refine wp_reg (nx' := 32) z (ev_wr z (w_box (sv := (.agg [(.vw _ _), (.vw _ _), (.vw _ _)])) z z (absW_cons z z (absW_cons z z (absW_cons z z (absW_nil))))) (ev_v z z (ev_nil))) (seqQ_n (?_))
 refine wp_seq ?_
 refine wp_reg (nx' := 176) z (ev_den (.ptr 0 [] (some 0)) z z (ev_v z (d_ld_o z (rget_of z (get_nil)) z z) (ev_den (.ptr 0 [] (some 1)) z z (ev_v z (d_ld_o z (rget_of z (get_nil)) z z) (ev_den (.ptr 0 [] (some 2)) z z (ev_v z (d_ld_o z (rget_of z (get_nil)) z z) (ev_v z z (ev_v z z (ev_v z z (ev_nil)))))))))) (seqQ_n (?_))
 replace h := Option.some.inj h
 subst h
 exact wp_ret (qf_r ((outs_ok (vs := [(.vw _ _)]) z (absW_cons z z (absW_nil)) z z)))
noncomputable def impl_WaitBound_j1 (p0 : Int × Int × Int) (p1 : Int) : Bool → Option ((Int × Bool)) := fun x17 =>
if x17 = true then
some ((0 : Int), false)
else
(nz? p0.2.1).bind fun u19 =>
(impl_TokenRing_longestRound p0).bind fun v20 =>
(some ((w64 ((w64 ((w64 ((w64 ((w64 (Int.tdiv p1 p0.2.1)) + (1 : Int))) * v20)) + p1)) - (w64 ((w64 (Int.tdiv p1 p0.2.1)) * p0.2.1)))))).bind fun v21 =>
some ((w64 (v21 - (1 : Int))), true)
noncomputable def impl_WaitBound (p0 : Int × Int × Int) (p1 : Int) : Option ((Int × Bool)) :=
(impl_IsTokenRing p0).bind fun v22 =>
if (!v22) = true then
impl_WaitBound_j1 p0 p1 true
else
(impl_within p1 ((0 : Int)) ((100 : Int))).bind fun v25 =>
impl_WaitBound_j1 p0 p1 (!v25)
theorem impl_WaitBound_ok {p0 : Int × Int × Int} {p1 : Int} {o : (Int × Bool)} (h : impl_WaitBound p0 p1 = some o) : RN 12 [.agg [.int .i64 p0.1, .int .i64 p0.2.1, .int .i64 p0.2.2], .int .i64 p1] [] = some (.tup [.int .i64 o.1, .bool o.2], []) := by
 refine fn_run (o := o) (nr := 0) (F := k12) (st := ⟨entry 0 [.agg [.vw [] (.int .i64 p0.1), .vw [] (.int .i64 p0.2.1), .vw [] (.int .i64 p0.2.2)], .vw [] (.int .i64 p1)], fun n => ([] : List T)[n]?, 0⟩) (fun (o : (Int × Bool)) => (.tup [.int .i64 o.1, .bool o.2], [])) z fns_12 z z z ?_
 refine wp_seq ?_
 refine wp_reg (nx' := 48) z (ev_wr z (w_box (sv := (.agg [(.vw _ _), (.vw _ _), (.vw _ _)])) z z (absW_cons z z (absW_cons z z (absW_cons z z (absW_nil))))) (ev_v z z (ev_v z z (ev_nil)))) (seqQ_n (?_))
 refine wp_seq ?_
 refine wp_gc ?_
 refine wp_seq ?_
 refine wp_join (impl_WaitBound_j1 p0 p1) (fun (x17 : Bool) => (⟨al .dead [(1, .vw [] (.int .i64 p1)), (2, .ptr 0 [] (some 0)), (14, .vw [] (.bool x17))], hl [some (.ptr (.agg [.int .i64 p0.1, .int .i64 p0.2.1, .int .i64 p0.2.2]))], 1⟩ : St)) ?_ ?_
 ·rintro x17 o h
  unfold impl_WaitBound_j1 at h
  refine seqQ_n (?_)
  rcases its h with ⟨hc18, h⟩ | ⟨hc18, h⟩
  ·refine wp_ct z hc18 ?_
   refine wp_seq ?_
   refine wp_reg (nx' := 33) z (ev_v z z (ev_v z z (ev_nil))) (seqQ_n (?_))
   replace h := Option.some.inj h
   subst h
   exact wp_ret (gcQ_r (seqQ_r (qf_r ((outs_ok (vs := [(.vw _ _), (.vw _ _)]) z (absW_cons z z (absW_cons z z (absW_nil))) z z)))))
  ·refine wp_cf z hc18 ?_
   refine wp_skip (gcQ_n (gc_to [0] (e := [(1, .vw [] (.int .i64 p1)), (2, .ptr 0 [] (some 0))]) (ts := [some (.ptr (.agg [.int .i64 p0.1, .int .i64 p0.2.1, .int .i64 p0.2.2]))]) (n := 1) z z z z) (seqQ_n (?_)))
   refine wp_seq ?_
   obtain ⟨u19, hu19, h⟩ := bs h
   refine wp_reg (nx' := 81) z (ev_v z z (ev_den (.ptr 0 [] (some 1)) z z (ev_v z (d_ld_o z (rget_of z (get_nil)) z z) (ev_v z (d_quo z z hu19) (ev_v z z (ev_nil)))))) (seqQ_n (?_))
   refine wp_seq ?_
   obtain ⟨v20, hv20, h⟩ := bs (x := impl_TokenRing_longestRound p0) h
   obtain ⟨v21, hv21, h⟩ := bs h
   refine wp_reg (nx' := 321) z (ev_v z z (ev_v z z (ev_den (.agg [(.vw _ _), (.vw _ _), (.vw _ _)]) z (d_ld_os z (rget_of z (get_nil)) z (cells_cons z (cells_cons z (cells_cons z (cells_nil))))) (ev_call0 [(.agg [(.vw _ _), (.vw _ _), (.vw _ _)])] z (call_okf (vs' := [(.agg [(.vw _ _), (.vw _ _), (.vw _ _)])]) z (call_ok (rs := []) (rd := []) z z z z (argL_cons (argT_a (argL_cons z (argL_cons z (argL_cons z (argL_nil))))) (argL_nil)) z z (impl_TokenRing_longestRound_ok hv20) z z z z z)) (ev_v z z (ev_v z z (ev_v z z (ev_v z z (ev_den (.ptr 0 [] (some 1)) z z (ev_v z (d_ld_o z (rget_of z (get_nil)) z z) (ev_v z z (ev_den (.vw [] (.int .i64 v21)) z (d_as_i z (Option.some.inj hv21)) (ev_v z z (ev_v z z (ev_v z z (ev_nil)))))))))))))))) (seqQ_n (?_))
   replace h := Option.some.inj h
   subst h
   exact wp_ret (qf_r ((outs_ok (vs := [(.vw _ _), (.vw _ _)]) z (absW_cons z z (absW_cons z z (absW_nil))) z z)))
 ·obtain ⟨v22, hv22, h⟩ := bs h
  rcases its h with ⟨hc23, h⟩ | ⟨hc23, h⟩
  ·exact wp_reg (nx' := 176) z (ev_den (.agg [(.vw _ _), (.vw _ _), (.vw _ _)]) z (d_ld_os z (rget_of z (get_nil)) z (cells_cons z (cells_cons z (cells_cons z (cells_nil))))) (ev_call0 [(.agg [(.vw _ _), (.vw _ _), (.vw _ _)])] z (call_okf (vs' := [(.agg [(.vw _ _), (.vw _ _), (.vw _ _)])]) z (call_ok (rs := []) (rd := []) z z z z (argL_cons (argT_a (argL_cons z (argL_cons z (argL_cons z (argL_nil))))) (argL_nil)) z z (impl_IsTokenRing_ok hv22) z z z z z)) (ev_v z z (ev_v z z (ev_off z hc23 (ev_off z hc23 (ev_off z hc23 (ev_v z (d_pick_t z hc23 z) (ev_nil))))))))) (joinQ_n true h (gc_to [0] z z z z))
  ·obtain ⟨v25, hv25, h⟩ := bs h
   exact wp_reg (nx' := 176) z (ev_den (.agg [(.vw _ _), (.vw _ _), (.vw _ _)]) z (d_ld_os z (rget_of z (get_nil)) z (cells_cons z (cells_cons z (cells_cons z (cells_nil))))) (ev_call0 [(.agg [(.vw _ _), (.vw _ _), (.vw _ _)])] z (call_okf (vs' := [(.agg [(.vw _ _), (.vw _ _), (.vw _ _)])]) z (call_ok (rs := []) (rd := []) z z z z (argL_cons (argT_a (argL_cons z (argL_cons z (argL_cons z (argL_nil))))) (argL_nil)) z z (impl_IsTokenRing_ok hv22) z z z z z)) (ev_v z z (ev_v z z (ev_on z hc23 (ev_v z z (ev_on z hc23 (ev_call0 [(.vw _ _), (.vw _ _), (.vw _ _)] z (call_okf (vs' := [(.vw _ _), (.vw _ _), (.vw _ _)]) z (call_ok (rs := []) (rd := []) z z z z (argL_cons z (argL_cons z (argL_cons z (argL_nil)))) z z (impl_within_ok hv25) z z z z z)) (ev_on z hc23 (ev_v z z (ev_v z (d_pick_f z hc23 z) (ev_nil)))))))))))) (joinQ_n (!v25) h (gc_to [0] z z z z))
noncomputable def impl_BacklogAt_j3 (x89 : Int) : ((List Int)) → Option (((List Int) × Int) ⊕ ((List Int))) := fun x119 =>
some (.inl (x119, (w64 (x89 + (1 : Int)))))
noncomputable def impl_BacklogAt_j4 (x88 : List Int) (x89 : Int) (v128 : Int × Int × Int) : Bool → Option (((List Int) × Int) ⊕ ((List Int))) := fun x131 =>
if x131 = true then
(at? x88 v128.2.1).bind fun v133 =>
impl_BacklogAt_j3 x89 (List.set x88 (Int.toNat v128.2.1) ((w64 (v133 + (1 : Int)))))
else
impl_BacklogAt_j3 x89 x88
noncomputable def impl_BacklogAt_s2 (p1 : List (Int × Int × Int)) (p2 : Int) (v28 : ((List Int) × Bool)) : ((List Int) × Int) → Option (((List Int) × Int) ⊕ ((List Int))) := fun (x88, x89) =>
if (decide (x89 < (List.length p1 : Int))) = true then
(at? p1 x89).bind fun v128 =>
if (decide (v128.1 ≤ p2)) = true then
(at? v28.1 x89).bind fun v137 =>
impl_BacklogAt_j4 x88 x89 v128 (decide (v137 > p2))
else
impl_BacklogAt_j4 x88 x89 v128 false
else
some (.inr x88)
noncomputable def impl_BacklogAt_l2 (p1 : List (Int × Int × Int)) (p2 : Int) (v28 : ((List Int) × Bool)) : ((List Int) × Int) → Option ((List Int)) := iter (impl_BacklogAt_s2 p1 p2 v28)
noncomputable def impl_BacklogAt_j1 (p0 : Int × Int × Int) (p1 : List (Int × Int × Int)) (p2 : Int) (v28 : ((List Int) × Bool)) : Bool → Option (((List Int) × Bool)) := fun x35 =>
if x35 = true then
some ([], false)
else
(mk? p0.1 p0.1).bind fun u37 =>
(impl_BacklogAt_l2 p1 p2 v28 ((List.replicate (Int.toNat p0.1) (0 : Int)), (0 : Int))).bind fun x100 =>
some (x100, true)
noncomputable def impl_BacklogAt (p0 : Int × Int × Int) (p1 : List (Int × Int × Int)) (p2 : Int) : Option (((List Int) × Bool)) :=
(impl_SentAt p0 p1).bind fun v28 =>
if (!v28.2) = true then
impl_BacklogAt_j1 p0 p1 p2 v28 true
else
(impl_isTick p2).bind fun v144 =>
impl_BacklogAt_j1 p0 p1 p2 v28 (!v144)
theorem impl_BacklogAt_ok {p0 : Int × Int × Int} {p1 : List (Int × Int × Int)} {p2 : Int} {o : ((List Int) × Bool)} (h : impl_BacklogAt p0 p1 p2 = some o) : RN 13 [.agg [.int .i64 p0.1, .int .i64 p0.2.1, .int .i64 p0.2.2], .rows 3 (List.map e0 p1), .int .i64 p2] [] = some (.tup [.ints .i64 o.1, .bool o.2], []) := by
 refine fn_run (o := o) (nr := 0) (F := k13) (st := ⟨entry 0 [.agg [.vw [] (.int .i64 p0.1), .vw [] (.int .i64 p0.2.1), .vw [] (.int .i64 p0.2.2)], .vw [] (.rows 3 (List.map e0 p1)), .vw [] (.int .i64 p2)], fun n => ([] : List T)[n]?, 0⟩) (fun (o : ((List Int) × Bool)) => (.tup [.ints .i64 o.1, .bool o.2], [])) z fns_13 z z z ?_
 refine wp_seq ?_
 refine wp_reg (nx' := 48) z (ev_wr z (w_box (sv := (.agg [(.vw _ _), (.vw _ _), (.vw _ _)])) z z (absW_cons z z (absW_cons z z (absW_cons z z (absW_nil))))) (ev_new (.ref 16 [] 1 0 0) (.ints .i64 []) z z (ev_v z z (ev_nil)))) (seqQ_n (?_))
 refine wp_seq ?_
 obtain ⟨v28, hv28, h⟩ := bs h
 refine wp_reg (nx' := 176) z (ev_den (.agg [(.vw _ _), (.vw _ _), (.vw _ _)]) z (d_ld_os z (rget_of z (get_nil)) z (cells_cons z (cells_cons z (cells_cons z (cells_nil))))) (ev_v z z (ev_call0 [(.agg [(.vw _ _), (.vw _ _), (.vw _ _)]), (.vw _ _)] z (call_okf (vs' := [(.agg [(.vw _ _), (.vw _ _), (.vw _ _)]), (.vw _ _)]) z (call_ok (rs := []) (rd := []) z z z z (argL_cons (argT_a (argL_cons z (argL_cons z (argL_cons z (argL_nil))))) (argL_cons z (argL_nil))) z z (impl_SentAt_ok hv28) z z z (bindR_t (bindL_cons z (bindL_cons z (bindL_nil)))) z)) (ev_den (.tup [(.ref 80 _ _ _ _), (.vw _ _)]) z z (ev_den (.ref 80 _ _ _ _) z z (ev_v z z (ev_den (.ref 80 _ _ _ _) z z (ev_v z z (ev_nil))))))))) (seqQ_n (?_))
 refine wp_seq ?_
 refine wp_gc ?_
 refine wp_seq ?_
 refine wp_join (impl_BacklogAt_j1 p0 p1 p2 v28) (fun (x35 : Bool) => (⟨al .dead [(1, .vw [] (.rows 3 (List.map e0 p1))), (2, .vw [] (.int .i64 p2)), (3, .ptr 0 [] (some 0)), (8, .ref 1 [] 1 0 (List.length v28.1)), (25, .vw [] (.bool x35))], hl [some (.ptr (.agg [.int .i64 p0.1, .int .i64 p0.2.1, .int .i64 p0.2.2])), some (.ints .i64 v28.1)], 2⟩ : St)) ?_ ?_
 ·rintro x35 o h
  unfold impl_BacklogAt_j1 at h
  refine seqQ_n (?_)
  rcases its h with ⟨hc36, h⟩ | ⟨hc36, h⟩
  ·refine wp_ct z hc36 ?_
   refine wp_seq ?_
   refine wp_reg (nx' := 34) z (ev_new (.ref 2 [] 1 0 0) (.ints .i64 []) z z (ev_v z z (ev_nil))) (seqQ_n (?_))
   replace h := Option.some.inj h
   subst h
   exact wp_ret (gcQ_r (seqQ_r (qf_r ((outs_ok (vs := [(.ref 2 _ _ _ _), (.vw _ _)]) z (absW_cons (retT_ref (abs_ref z sub_i)) z (absW_cons z z (absW_nil))) z z)))))
  ·refine wp_cf z hc36 ?_
   refine wp_skip (gcQ_n (gc_to [0, 1] (e := [(1, .vw [] (.rows 3 (List.map e0 p1))), (2, .vw [] (.int .i64 p2)), (3, .ptr 0 [] (some 0)), (8, .ref 1 [] 1 0 (List.length v28.1))]) (ts := [some (.ptr (.agg [.int .i64 p0.1, .int .i64 p0.2.1, .int .i64 p0.2.2])), some (.ints .i64 v28.1)]) (n := 2) z z z z) (seqQ_n (?_)))
   refine wp_seq ?_
   obtain ⟨u37, hu37, h⟩ := bs h
   refine wp_reg (nx' := 66) z (ev_den (.ptr 0 [] (some 0)) z z (ev_v z (d_ld_o z (rget_of z (get_nil)) z z) (ev_new (.ref 34 [] 1 0 (List.length ((List.replicate (Int.toNat p0.1) (0 : Int))))) (.ints .i64 ((List.replicate (Int.toNat p0.1) (0 : Int)))) z (d_mks_i z z hu37) (ev_den (.ref 34 _ _ _ _) z z (ev_nil))))) (seqQ_n (?_))
   refine wp_seq ?_
   refine wp_gc ?_
   refine wp_seq ?_
   refine wp_gc ?_
   refine wp_reg (nx' := 114) z (ev_v z z (ev_v z (d_len_vr (e := e0) z) (ev_v z z (ev_nil)))) (gcQ_n (gc_to [1, 34] (e := [(2, .vw [] (.int .i64 p2)), (8, .ref 0 [] 1 0 (List.length v28.1)), (10, .ref 1 [] 1 0 (List.length ((List.replicate (Int.toNat p0.1) (0 : Int))))), (29, .vw [] (.rows 3 (List.map e0 p1))), (30, .vw [] (.int .i64 ((List.length p1 : Int)))), (31, .vw [] (.int .i64 ((0 : Int))))]) (ts := [some (.ints .i64 v28.1), some (.ints .i64 ((List.replicate (Int.toNat p0.1) (0 : Int))))]) (n := 2) z z z z) (seqQ_n (?_)))
   refine wp_gc ?_
   refine wp_blk ?_
   obtain ⟨x100, hw141, h⟩ := bs h
   refine wp_mono (wp_loop (fun ((x88, x89) : (List Int) × Int) => (⟨al .dead [(2, .vw [] (.int .i64 p2)), (8, .ref 0 [] 1 0 (List.length v28.1)), (10, .ref 1 [] 1 0 (List.length x88)), (29, .vw [] (.rows 3 (List.map e0 p1))), (30, .vw [] (.int .i64 ((List.length p1 : Int)))), (31, .vw [] (.int .i64 x89))], hl [some (.ints .i64 v28.1), some (.ints .i64 x88)], 2⟩ : St)) (fun (x100 : (List Int)) e st => e = .exit 0 ∧ gc 0 [10] st = ⟨al .dead [(10, .ref 0 [] 1 0 (List.length x100))], hl [some (.ints .i64 x100)], 1⟩) hw141 ?_) ?_
   ·rintro ⟨x88, x89⟩ o h
    refine wp_gc ?_
    refine wp_seq ?_
    refine wp_reg (nx' := 18) z (ev_v z z (ev_nil)) (seqQ_n (?_))
    refine wp_seq ?_
    refine wp_gc ?_
    rcases its h with ⟨hc112, h⟩ | ⟨hc112, h⟩
    ·refine wp_ct z hc112 ?_
     refine wp_skip (gcQ_n (gc_to [0, 1] (e := [(2, .vw [] (.int .i64 p2)), (8, .ref 0 [] 1 0 (List.length v28.1)), (10, .ref 1 [] 1 0 (List.length x88)), (29, .vw [] (.rows 3 (List.map e0 p1))), (30, .vw [] (.int .i64 ((List.length p1 : Int)))), (31, .vw [] (.int .i64 x89))]) (ts := [some (.ints .i64 v28.1), some (.ints .i64 x88)]) (n := 2) z z z z) (seqQ_n (?_)))
     refine wp_seq ?_
     refine wp_join (impl_BacklogAt_j3 x89) (fun (x119 : (List Int)) => (⟨al .dead [(2, .vw [] (.int .i64 p2)), (8, .ref 0 [] 1 0 (List.length v28.1)), (10, .ref 1 [] 1 0 (List.length x119)), (29, .vw [] (.rows 3 (List.map e0 p1))), (30, .vw [] (.int .i64 ((List.length p1 : Int)))), (31, .vw [] (.int .i64 x89))], hl [some (.ints .i64 v28.1), some (.ints .i64 x119)], 2⟩ : St)) ?_ ?_
     ·rintro x119 o h
      unfold impl_BacklogAt_j3 at h
      refine seqQ_n (?_)
      replace h := Option.some.inj h
      subst h
      exact wp_reg (nx' := 34) z (ev_v z z (ev_v z z (ev_nil))) (gcQ_n (gc_to [0, 1] (e := [(2, .vw [] (.int .i64 p2)), (8, .ref 0 [] 1 0 (List.length v28.1)), (10, .ref 1 [] 1 0 (List.length x119)), (29, .vw [] (.rows 3 (List.map e0 p1))), (30, .vw [] (.int .i64 ((List.length p1 : Int)))), (31, .vw [] (.int .i64 ((w64 (x89 + (1 : Int))))))]) (ts := [some (.ints .i64 v28.1), some (.ints .i64 x119)]) (n := 2) z z z z) (loopQ_n z))
     ·refine wp_gc ?_
      refine wp_blk ?_
      refine wp_seq ?_
      obtain ⟨v128, hv128, h⟩ := bs h
      refine wp_reg (nx' := 98) z (ev_v z z (ev_den (.pv _ _) z (d_idx_vr e0 z z hv128) (ev_den (.agg [(.vw _ _), (.vw _ _), (.vw _ _)]) z z (ev_new (.ptr 50 [] (some 0)) (.ptr (.agg [.int .i64 ((0 : Int)), .int .i64 ((0 : Int)), .int .i64 ((0 : Int))])) z z (ev_v z z (ev_wr0 z (w_st_a z z z (stL_cons (st1_of z z z (get_f z (get_nil)) z (rput_p (put_f z (put_nil)))) z (stL_cons (st1_of z z z (get_f z (get_nil)) z (rput_p (put_f z (put_nil)))) z (stL_cons (st1_of z z z (get_f z (get_nil)) z (rput_p (put_f z (put_nil)))) z (stL_nil))))) (ev_nil))))))) (seqQ_n (?_))
      refine wp_seq ?_
      refine wp_join (impl_BacklogAt_j4 x88 x89 v128) (fun (x131 : Bool) => (⟨al .dead [(2, .vw [] (.int .i64 p2)), (8, .ref 0 [] 1 0 (List.length v28.1)), (10, .ref 1 [] 1 0 (List.length x88)), (12, .ptr 2 [] (some 0)), (29, .vw [] (.rows 3 (List.map e0 p1))), (30, .vw [] (.int .i64 ((List.length p1 : Int)))), (31, .vw [] (.int .i64 x89)), (47, .vw [] (.bool x131))], hl [some (.ints .i64 v28.1), some (.ints .i64 x88), some (.ptr (.agg [.int .i64 v128.1, .int .i64 v128.2.1, .int .i64 v128.2.2]))], 3⟩ : St)) ?_ ?_
      ·rintro x131 o h
       unfold impl_BacklogAt_j4 at h
       refine seqQ_n (?_)
       rcases its h with ⟨hc132, h⟩ | ⟨hc132, h⟩
       ·refine wp_ct z hc132 ?_
        obtain ⟨v133, hv133, h⟩ := bs h
        exact wp_reg (nx' := 131) z (ev_den (.ref 1 _ _ _ _) z z (ev_den (.ptr 2 [] (some 1)) z z (ev_v z (d_ld_o z (rget_of z (get_nil)) z z) (ev_den (.ptr 1 [.e (Int.toNat v128.2.1)] none) z (d_idx_r (p := []) z z hv133) (ev_v z (d_ld_p z (rget_of z (get_i hv133)) z) (ev_v z z (ev_den (.ptr 1 [.e (Int.toNat v128.2.1)] none) z (d_idx_r (p := []) z z hv133) (ev_wr0 z (w_st_p z (st1_of z z z (get_i hv133) z (rput_i (put_i hv133)))) (ev_relen (b := (List.length ((List.set x88 (Int.toNat v128.2.1) ((w64 (v133 + (1 : Int)))))))) 10 z List.length_set.symm (ev_nil)))))))))) (blkQ_n (gcQ_n (gc_to [0, 1] (e := [(2, .vw [] (.int .i64 p2)), (8, .ref 0 [] 1 0 (List.length v28.1)), (10, .ref 1 [] 1 0 (List.length ((List.set x88 (Int.toNat v128.2.1) ((w64 (v133 + (1 : Int)))))))), (29, .vw [] (.rows 3 (List.map e0 p1))), (30, .vw [] (.int .i64 ((List.length p1 : Int)))), (31, .vw [] (.int .i64 x89))]) (ts := [some (.ints .i64 v28.1), some (.ints .i64 ((List.set x88 (Int.toNat v128.2.1) ((w64 (v133 + (1 : Int)))))))]) (n := 2) z z z z) (joinQ_n (List.set x88 (Int.toNat v128.2.1) ((w64 (v133 + (1 : Int))))) h (gc_to [0, 1] z z z z))))
       ·refine wp_cf z hc132 ?_
        exact wp_skip (blkQ_n (gcQ_n (gc_to [0, 1] (e := [(2, .vw [] (.int .i64 p2)), (8, .ref 0 [] 1 0 (List.length v28.1)), (10, .ref 1 [] 1 0 (List.length x88)), (29, .vw [] (.rows 3 (List.map e0 p1))), (30, .vw [] (.int .i64 ((List.length p1 : Int)))), (31, .vw [] (.int .i64 x89))]) (ts := [some (.ints .i64 v28.1), some (.ints .i64 x88)]) (n := 2) z z z z) (joinQ_n x88 h (gc_to [0, 1] z z z z))))
      ·rcases its h with ⟨hc136, h⟩ | ⟨hc136, h⟩
       ·obtain ⟨v137, hv137, h⟩ := bs h
        exact wp_reg (nx' := 290) z (ev_den (.ptr 50 [] (some 0)) z z (ev_v z (d_ld_o z (rget_of z (get_nil)) z z) (ev_v z z (ev_v z z (ev_v z z (ev_on z hc136 (ev_den (.ref 0 _ _ _ _) z z (ev_on z hc136 (ev_v z z (ev_on z hc136 (ev_den (.ptr 0 [.e (Int.toNat x89)] none) z (d_idx_r (p := []) z z hv137) (ev_on z hc136 (ev_v z (d_ld_p z (rget_of z (get_i hv137)) z) (ev_on z hc136 (ev_v z z (ev_on z hc136 (ev_v z z (ev_v z (d_pick_t z hc136 z) (ev_nil))))))))))))))))))) (joinQ_n (decide (v137 > p2)) h (gc_to [0, 1, 50] z z z z))
       ·exact wp_reg (nx' := 290) z (ev_den (.ptr 50 [] (some 0)) z z (ev_v z (d_ld_o z (rget_of z (get_nil)) z z) (ev_v z z (ev_v z z (ev_v z z (ev_off z hc136 (ev_off z hc136 (ev_off z hc136 (ev_off z hc136 (ev_off z hc136 (ev_off z hc136 (ev_v z (d_pick_f z hc136 z) (ev_nil))))))))))))) (joinQ_n false h (gc_to [0, 1, 50] z z z z))
    ·refine wp_cf z hc112 ?_
     replace h := Option.some.inj h
     subst h
     exact wp_exit (gcQ_e (seqQ_e (gcQ_e (loopQ_e (And.intro z (gc_to [1] (e := [(10, .ref 0 [] 1 0 (List.length x88))]) (ts := [some (.ints .i64 x88)]) (n := 1) z z z z))))))
   ·intro e st141 hg141
    obtain ⟨rfl, hg141⟩ := hg141
    refine blkQ_h (gcQ_n hg141 (gcQ_n (gc_to [0] (e := [(10, .ref 0 [] 1 0 (List.length x100))]) (ts := [some (.ints .i64 x100)]) (n := 1) z z z z) (seqQ_n (?_))))
    refine wp_seq ?_
    refine wp_reg (nx' := 49) z (ev_den (.ref 0 _ _ _ _) z z (ev_den (.ref 0 _ _ _ _) z z (ev_v z z (ev_nil)))) (seqQ_n (?_))
    replace h := Option.some.inj h
    subst h
    exact wp_ret (qf_r ((outs_ok (vs := [(.ref 0 _ _ _ _), (.vw _ _)]) z (absW_cons (retT_ref (abs_ref z sub_i)) z (absW_cons z z (absW_nil))) z z)))
 ·rcases its h with ⟨hc142, h⟩ | ⟨hc142, h⟩
  ·exact wp_reg (nx' := 288) z (ev_v z z (ev_v z z (ev_v z z (ev_off z hc142 (ev_off z hc142 (ev_off z hc142 (ev_v z (d_pick_t z hc142 z) (ev_nil)))))))) (joinQ_n true h (gc_to [0, 80] z z z z))
  ·obtain ⟨v144, hv144, h⟩ := bs h
   exact wp_reg (nx' := 288) z (ev_v z z (ev_v z z (ev_v z z (ev_on z hc142 (ev_v z z (ev_on z hc142 (ev_call0 [(.vw _ _)] z (call_okf (vs' := [(.vw _ _)]) z (call_ok (rs := []) (rd := []) z z z z (argL_cons z (argL_nil)) z z (impl_isTick_ok hv144) z z z z z)) (ev_on z hc142 (ev_v z z (ev_v z (d_pick_f z hc142 z) (ev_nil))))))))))) (joinQ_n (!v144) h (gc_to [0, 80] z z z z))
noncomputable def laws_zSum_s1 (p0 : List Int) : (Int × Int) → Option ((Int × Int) ⊕ Int) := fun (x30, x31) =>
if (decide (x31 < (List.length p0 : Int))) = true then
(at? p0 x31).bind fun v45 =>
some (.inl ((w64 (x30 + v45)), (w64 (x31 + (1 : Int)))))
else
some (.inr x30)
noncomputable def laws_zSum_l1 (p0 : List Int) : (Int × Int) → Option Int := iter (laws_zSum_s1 p0)
noncomputable def laws_zSum (p0 : List Int) : Option Int :=
(laws_zSum_l1 p0 ((0 : Int), (0 : Int))).bind fun x36 =>
some x36
theorem laws_zSum_ok {p0 : List Int} {o : Int} (h : laws_zSum p0 = some o) : RN 14 [.ints .i64 p0] [] = some (.int .i64 o, []) := by
 refine fn_run (o := o) (nr := 0) (F := k14) (st := ⟨entry 0 [.vw [] (.ints .i64 p0)], fun n => ([] : List T)[n]?, 0⟩) (fun (o : Int) => (.int .i64 o, [])) z fns_14 z z z ?_
 refine wp_seq ?_
 refine wp_reg (nx' := 16) z (ev_v z z (ev_nil)) (seqQ_n (?_))
 refine wp_seq ?_
 refine wp_reg (nx' := 32) z (ev_v z z (ev_nil)) (seqQ_n (?_))
 refine wp_seq ?_
 refine wp_gc ?_
 refine wp_seq ?_
 refine wp_gc ?_
 refine wp_reg (nx' := 80) z (ev_v z z (ev_v z z (ev_v z z (ev_nil)))) (gcQ_n (gc_to [] (e := [(3, .vw [] (.int .i64 ((0 : Int)))), (6, .vw [] (.ints .i64 p0)), (7, .vw [] (.int .i64 ((List.length p0 : Int)))), (8, .vw [] (.int .i64 ((0 : Int))))]) (ts := []) (n := 0) z z z z) (seqQ_n (?_)))
 refine wp_gc ?_
 refine wp_blk ?_
 obtain ⟨x36, hw49, h⟩ := bs h
 refine wp_mono (wp_loop (fun ((x30, x31) : Int × Int) => (⟨al .dead [(3, .vw [] (.int .i64 x30)), (6, .vw [] (.ints .i64 p0)), (7, .vw [] (.int .i64 ((List.length p0 : Int)))), (8, .vw [] (.int .i64 x31))], hl [], 0⟩ : St)) (fun (x36 : Int) e st => e = .exit 0 ∧ gc 0 [3] st = ⟨al .dead [(3, .vw [] (.int .i64 x36))], hl [], 0⟩) hw49 ?_) ?_
 ·rintro ⟨x30, x31⟩ o h
  refine wp_gc ?_
  refine wp_seq ?_
  refine wp_reg (nx' := 16) z (ev_v z z (ev_nil)) (seqQ_n (?_))
  refine wp_seq ?_
  refine wp_gc ?_
  rcases its h with ⟨hc42, h⟩ | ⟨hc42, h⟩
  ·refine wp_ct z hc42 ?_
   refine wp_skip (gcQ_n (gc_to [] (e := [(3, .vw [] (.int .i64 x30)), (6, .vw [] (.ints .i64 p0)), (7, .vw [] (.int .i64 ((List.length p0 : Int)))), (8, .vw [] (.int .i64 x31))]) (ts := []) (n := 0) z z z z) (seqQ_n (?_)))
   refine wp_seq ?_
   refine wp_gc ?_
   refine wp_gc ?_
   refine wp_blk ?_
   refine wp_seq ?_
   obtain ⟨v45, hv45, h⟩ := bs h
   refine wp_reg (nx' := 48) z (ev_den (.pv _ _) z (d_idx_vi z z hv45) (ev_v z z (ev_v z z (ev_nil)))) (seqQ_n (?_))
   refine wp_reg (nx' := 112) z (ev_v z z (ev_v z z (ev_v z z (ev_v z z (ev_nil))))) (blkQ_n (gcQ_n (gc_to [] (e := [(3, .vw [] (.int .i64 ((w64 (x30 + v45))))), (6, .vw [] (.ints .i64 p0)), (7, .vw [] (.int .i64 ((List.length p0 : Int)))), (8, .vw [] (.int .i64 x31))]) (ts := []) (n := 0) z z z z) (gcQ_n (gc_to [] (e := [(3, .vw [] (.int .i64 ((w64 (x30 + v45))))), (6, .vw [] (.ints .i64 p0)), (7, .vw [] (.int .i64 ((List.length p0 : Int)))), (8, .vw [] (.int .i64 x31))]) (ts := []) (n := 0) z z z z) (seqQ_n (?_)))))
   replace h := Option.some.inj h
   subst h
   exact wp_reg (nx' := 32) z (ev_v z z (ev_v z z (ev_nil))) (gcQ_n (gc_to [] (e := [(3, .vw [] (.int .i64 ((w64 (x30 + v45))))), (6, .vw [] (.ints .i64 p0)), (7, .vw [] (.int .i64 ((List.length p0 : Int)))), (8, .vw [] (.int .i64 ((w64 (x31 + (1 : Int))))))]) (ts := []) (n := 0) z z z z) (loopQ_n z))
  ·refine wp_cf z hc42 ?_
   replace h := Option.some.inj h
   subst h
   exact wp_exit (gcQ_e (seqQ_e (gcQ_e (loopQ_e (And.intro z (gc_to [] (e := [(3, .vw [] (.int .i64 x30))]) (ts := []) (n := 0) z z z z))))))
 ·intro e st49 hg49
  obtain ⟨rfl, hg49⟩ := hg49
  refine blkQ_h (gcQ_n hg49 (gcQ_n (gc_to [] (e := [(3, .vw [] (.int .i64 x36))]) (ts := []) (n := 0) z z z z) (seqQ_n (?_))))
  refine wp_seq ?_
  refine wp_reg (nx' := 32) z (ev_v z z (ev_v z z (ev_nil))) (seqQ_n (?_))
  replace h := Option.some.inj h
  subst h
  exact wp_ret (qf_r ((outs_ok (vs := [(.vw _ _)]) z (absW_cons z z (absW_nil)) z z)))
noncomputable def spec_DrawFullCalls (p0 : List Int) : Option (((Int × Int × Int) × Int)) :=
(spec_l1Cur_tokens ((p0, (0 : Int), (0 : Int)))).bind fun v3 =>
(spec_l1Cur_among (([(0 : Int), (1 : Int), (2 : Int), (3 : Int), (5 : Int), (10 : Int), (11 : Int), (-1 : Int)] : List Int)) v3.2).bind fun v4 =>
some (v3.1, v4.1)
theorem spec_DrawFullCalls_ok {p0 : List Int} {o : ((Int × Int × Int) × Int)} (h : spec_DrawFullCalls p0 = some o) : RN 15 [.ints .u8 p0] [] = some (.tup [.agg [.int .i64 o.1.1, .int .i64 o.1.2.1, .int .i64 o.1.2.2], .int .i64 o.2], []) := by
 refine fn_run (o := o) (nr := 0) (F := k15) (st := ⟨entry 0 [.vw [] (.ints .u8 p0)], fun n => ([] : List T)[n]?, 0⟩) (fun (o : ((Int × Int × Int) × Int)) => (.tup [.agg [.int .i64 o.1.1, .int .i64 o.1.2.1, .int .i64 o.1.2.2], .int .i64 o.2], [])) z fns_15 z z z ?_
 refine wp_seq ?_
 refine wp_reg (nx' := 32) z (ev_new (.ptr 0 [] (some 0)) (.ptr (.agg [.int .i64 ((0 : Int)), .int .i64 ((0 : Int)), .int .i64 ((0 : Int))])) z z (ev_v z z (ev_nil))) (seqQ_n (?_))
 refine wp_seq ?_
 refine wp_reg (nx' := 96) z (ev_v z z (ev_den (.agg [(.vw _ _), (.vw _ _), (.vw _ _)]) z z (ev_wr z (w_box (sv := (.agg [(.vw _ _), (.vw _ _), (.vw _ _)])) z z (absW_cons z z (absW_cons z z (absW_cons z z (absW_nil))))) (ev_den (.ptr 64 [] (some 0)) z z (ev_nil))))) (seqQ_n (?_))
 refine wp_seq ?_
 obtain ⟨v3, hv3, h⟩ := bs h
 obtain ⟨v4, hv4, h⟩ := bs h
 refine wp_reg (nx' := 208) z (ev_den (.ptr 64 [] (some 0)) z z (ev_call1 [(.ptr 64 [] (some 0))] z (call_okt (call_ok (rs := [64]) (rd := []) z z z z (argL_cons z (argL_nil)) z z (spec_l1Cur_tokens_ok hv3) z z z (bindR_a (bindL_cons z (bindL_cons z (bindL_cons z (bindL_nil))))) z)) (ev_den (.ptr 64 [] (some 0)) z z (ev_v z z (ev_call1 [(.ptr 64 [] (some 0)), (.vw _ _)] z (call_okt (call_ok (rs := [64]) (rd := []) z z z z (argL_cons z (argL_cons z (argL_nil))) z z (spec_l1Cur_among_ok hv4) z z z z z)) (ev_wr0 z (w_st_a z z z (stL_cons (st1_of z z z (get_f z (get_nil)) z (rput_p (put_f z (put_nil)))) z (stL_cons (st1_of z z z (get_f z (get_nil)) z (rput_p (put_f z (put_nil)))) z (stL_cons (st1_of z z z (get_f z (get_nil)) z (rput_p (put_f z (put_nil)))) z (stL_nil))))) (ev_v z z (ev_nil)))))))) (seqQ_n (?_))
 replace h := Option.some.inj h
 subst h
 exact wp_ret (qf_r ((outs_ok (vs := [(.agg [(.vw _ _), (.vw _ _), (.vw _ _)]), (.vw _ _)]) z (absW_cons (retT_agg (absW_cons z z (absW_cons z z (absW_cons z z (absW_nil))))) z (absW_cons z z (absW_nil))) z z)))
end Go.Proofs.Ytdblfocadcgmaaa.Ev.W7
