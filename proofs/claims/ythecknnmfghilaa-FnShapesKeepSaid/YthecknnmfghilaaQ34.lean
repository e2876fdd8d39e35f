/- What functions of the program come to, as plain functions; no condition. -/
import Derived.Test.YthecknnmfghilaaQ33
set_option linter.unusedVariables false
set_option linter.unusedSimpArgs false
set_option maxRecDepth 100000
set_option maxHeartbeats 4000000
set_option linter.unusedVariables false
namespace Go.Proofs.Ythecknnmfghilaa.Ev.Q3
open Go
noncomputable def impl_sent_v1_j5 (x550 : Int) : Int → Option ((Int × Int) ⊕ Int) := fun x583 =>
some (.inl (x583, (w64 (x550 + (1 : Int)))))
noncomputable def impl_sent_v1_j6 (x334 : Int) (x549 : Int) (x550 : Int) : Bool → Option ((Int × Int) ⊕ Int) := fun x598 =>
if x598 = true then
impl_sent_v1_j5 x550 (if (w64 (x334 - x550)) > x549 then (w64 (x334 - x550)) else x549)
else
impl_sent_v1_j5 x550 x549
noncomputable def impl_sent_v1_s4 (p0 : List Int) (x333 : Int) (x334 : Int) (x510 : List Int) (x511 : Int) (v513 : Int × Int) : (Int × Int) → Option ((Int × Int) ⊕ Int) := fun (x549, x550) =>
if (decide (x550 < (List.length x510 : Int))) = true then
(at? x510 x550).bind fun v593 =>
(at? p0 x550).bind fun v602 =>
if (decide (v602 > (0 : Int))) = true then
if (decide (v593 ≤ (w64 (x333 + (if v513.1 < x511 then v513.1 else x511))))) = true then
(some ((w64 ((w64 (x333 + (if v513.1 < x511 then v513.1 else x511))) - (if v513.1 < x511 then v513.1 else x511))))).bind fun v605 =>
impl_sent_v1_j6 x334 x549 x550 (decide (v593 > v605))
else
impl_sent_v1_j6 x334 x549 x550 false
else
impl_sent_v1_j6 x334 x549 x550 false
else
some (.inr x549)
noncomputable def impl_sent_v1_l4 (p0 : List Int) (x333 : Int) (x334 : Int) (x510 : List Int) (x511 : Int) (v513 : Int × Int) : (Int × Int) → Option Int := iter (impl_sent_v1_s4 p0 x333 x334 x510 x511 v513)
noncomputable def impl_sent_v1_j3 (p0 : List Int) (x326 : Int) (x327 : List Int) (x328 : Int) (x329 : Int) (x333 : Int) (x334 : Int) : ((List Int) × Int × Int) → Option ((Int × (List Int) × Int × Int × (List Int) × Int × Int × Int × Int) ⊕ ((Int × (List Int) × Int × Int) ⊕ ((((List Int) × Int × Int) × Bool) × Int))) := fun (x510, x511, x512) =>
(impl_LeakOf_fn1 x334 x326).bind fun v513 =>
(impl_LeakOf_fn2 ((if v513.1 < x511 then v513.1 else x511))).bind fun v514 =>
(app? x327 (([(if v513.1 < x511 then v513.1 else x511)] : List Int))).bind fun v515 =>
(some ((if (w64 (x511 - (if v513.1 < x511 then v513.1 else x511))) > x328 then (w64 (x511 - (if v513.1 < x511 then v513.1 else x511))) else x328))).bind fun v516 =>
(impl_sent_v1_l4 p0 x333 x334 x510 x511 v513 (x329, (0 : Int))).bind fun x562 =>
some (.inl (v513.2, v515, v516, x562, x510, (w64 (x511 - (if v513.1 < x511 then v513.1 else x511))), x512, (w64 (x333 + (if v513.1 < x511 then v513.1 else x511))), (w64 (x334 + (1 : Int)))))
noncomputable def impl_sent_v1_j2 (p0 : List Int) (x326 : Int) (x327 : List Int) (x328 : Int) (x329 : Int) (x330 : List Int) (x331 : Int) (x332 : Int) (x333 : Int) (x334 : Int) : Bool → Option ((Int × (List Int) × Int × Int × (List Int) × Int × Int × Int × Int) ⊕ ((Int × (List Int) × Int × Int) ⊕ ((((List Int) × Int × Int) × Bool) × Int))) := fun x435 =>
if x435 = true then
if (x334 == (100 : Int)) = true then
some (.inr (.inr ((([], (0 : Int), (0 : Int)), false), x326)))
else
if (decide (x334 < (List.length p0 : Int))) = true then
(at? p0 x334).bind fun v621 =>
(app? x330 (([(w64 (x332 + v621))] : List Int))).bind fun v622 =>
impl_sent_v1_j3 p0 x326 x327 x328 x329 x333 x334 (v622, (w64 (x331 + v621)), (w64 (x332 + v621)))
else
impl_sent_v1_j3 p0 x326 x327 x328 x329 x333 x334 (x330, x331, x332)
else
some (.inr (.inl (x326, x327, x328, x329)))
noncomputable def impl_sent_v1_s1 (p0 : List Int) : (Int × (List Int) × Int × Int × (List Int) × Int × Int × Int × Int) → Option ((Int × (List Int) × Int × Int × (List Int) × Int × Int × Int × Int) ⊕ ((Int × (List Int) × Int × Int) ⊕ ((((List Int) × Int × Int) × Bool) × Int))) := fun (x326, x327, x328, x329, x330, x331, x332, x333, x334) =>
if (decide (x334 < (List.length p0 : Int))) = true then
impl_sent_v1_j2 p0 x326 x327 x328 x329 x330 x331 x332 x333 x334 true
else
impl_sent_v1_j2 p0 x326 x327 x328 x329 x330 x331 x332 x333 x334 (decide (x331 > (0 : Int)))
noncomputable def impl_sent_v1_l1 (p0 : List Int) : (Int × (List Int) × Int × Int × (List Int) × Int × Int × Int × Int) → Option ((Int × (List Int) × Int × Int) ⊕ ((((List Int) × Int × Int) × Bool) × Int)) := iter (impl_sent_v1_s1 p0)
/-- loop.example/g01176/impl.sent -/
noncomputable def impl_sent_v1 (p0 : List Int) (c0 : Int) : Option ((((List Int) × Int × Int) × Bool) × Int) :=
(impl_sent_v1_l1 p0 (c0, [], (0 : Int), (0 : Int), ([] : List Int), (0 : Int), (0 : Int), (0 : Int), (0 : Int))).bind fun w => match w with
| .inl (x381, x382, x383, x384) =>
some (((x382, x383, x384), true), x381)
| .inr r637 =>
some r637
theorem impl_sent_v1_ok {p0 : List Int} {c0 : Int} {o : (((List Int) × Int × Int) × Bool) × Int} (h : impl_sent_v1 p0 c0 = some o) : RN 51 [.ints .i64 p0, .fn 52 [.ref 0], .fn 53 []] [.ptr (.agg [.int .i64 c0])] = some (.tup [.agg [.ints .i64 o.1.1.1, .int .i64 o.1.1.2.1, .int .i64 o.1.1.2.2], .bool o.1.2], [.ptr (.agg [.int .i64 o.2])]) := by
  refine fn_run (o := o) (nr := 1) (F := k51) (st := ⟨entry 0 [.vw [] (.ints .i64 p0), .fn 52 [.ptr 0 [] (some 0)], .fn 53 []], fun n => ([.ptr (.agg [.int .i64 c0])] : List T)[n]?, 1⟩) (fun (o : (((List Int) × Int × Int) × Bool) × Int) => (.tup [.agg [.ints .i64 o.1.1.1, .int .i64 o.1.1.2.1, .int .i64 o.1.1.2.2], .bool o.1.2], [.ptr (.agg [.int .i64 o.2])])) rfl fns_51 rfl rfl ?_
  refine wp_seq ?_
  refine wp_reg (nx' := 33) rfl (ev_new (.ptr 1 [] (some 0)) (.ptr (.agg [.ints .i64 ([]), .int .i64 ((0 : Int)), .int .i64 ((0 : Int))])) rfl rfl (ev_den (.vw _ _) rfl rfl (ev_nil))) (seqQ_n (?_))
  refine wp_seq ?_
  refine wp_reg (nx' := 129) rfl (ev_den (.agg [(.nilS _), (.vw _ _), (.vw _ _)]) rfl rfl (ev_new (.ptr 49 [] (some 0)) (.ptr (.agg [.ints .i64 ([]), .int .i64 ((0 : Int)), .int .i64 ((0 : Int))])) rfl rfl (ev_wr0 rfl (w_st_a rfl rfl rfl (stL_cons (st1_of rfl rfl rfl (get_f rfl (get_nil)) rfl (rput_p (put_f rfl (put_nil)))) rfl (stL_cons (st1_of rfl rfl rfl (get_f rfl (get_nil)) rfl (rput_p (put_f rfl (put_nil)))) rfl (stL_cons (st1_of rfl rfl rfl (get_f rfl (get_nil)) rfl (rput_p (put_f rfl (put_nil)))) rfl (stL_nil))))) (ev_den (.vw _ _) rfl rfl (ev_den (.vw _ _) rfl rfl (ev_den (.vw _ _) rfl rfl (ev_nil))))))) (seqQ_n (?_))
  refine wp_seq ?_
  refine wp_reg (nx' := 161) rfl (ev_new (.ref 129 [] 1 0 0) (.ints .i64 (([] : List Int))) rfl rfl (ev_den (.ref 129 _ _ _ _) rfl rfl (ev_nil))) (seqQ_n (?_))
  refine wp_seq ?_
  refine wp_gc ?_
  refine wp_seq ?_
  refine wp_gc ?_
  refine wp_reg (nx' := 177) rfl (ev_den (.vw _ _) rfl rfl (ev_nil)) (gcQ_n (gc_to [1, 49, 129] (e := [(0, .vw [] (.ints .i64 p0)), (1, .fn 52 [.ptr 0 [] (some 0)]), (2, .fn 53 []), (6, .ptr 1 [] (some 0)), (8, .ptr 2 [] (some 0)), (9, .vw [] (.int .i64 ((0 : Int)))), (10, .vw [] (.int .i64 ((0 : Int)))), (11, .vw [] (.int .i64 ((0 : Int)))), (12, .ref 3 [] 1 0 (List.length (([] : List Int)))), (13, .vw [] (.int .i64 ((0 : Int))))]) (ts := [some (.ptr (.agg [.int .i64 c0])), some (.ptr (.agg [.ints .i64 ([]), .int .i64 ((0 : Int)), .int .i64 ((0 : Int))])), some (.ptr (.agg [.ints .i64 ([]), .int .i64 ((0 : Int)), .int .i64 ((0 : Int))])), some (.ints .i64 (([] : List Int)))]) (n := 4) rfl rfl rfl rfl) (seqQ_n (?_)))
  refine wp_gc ?_
  refine wp_blk ?_
  obtain ⟨w636, hw636, h⟩ := bs h
  refine wp_mono (wp_loop (fun ((x326, x327, x328, x329, x330, x331, x332, x333, x334) : Int × (List Int) × Int × Int × (List Int) × Int × Int × Int × Int) => (⟨al .dead [(0, .vw [] (.ints .i64 p0)), (1, .fn 52 [.ptr 0 [] (some 0)]), (2, .fn 53 []), (6, .ptr 1 [] (some 0)), (8, .ptr 2 [] (some 0)), (9, .vw [] (.int .i64 x331)), (10, .vw [] (.int .i64 x332)), (11, .vw [] (.int .i64 x333)), (12, .ref 3 [] 1 0 (List.length x330)), (13, .vw [] (.int .i64 x334))], hl [some (.ptr (.agg [.int .i64 x326])), some (.ptr (.agg [.ints .i64 ([]), .int .i64 ((0 : Int)), .int .i64 ((0 : Int))])), some (.ptr (.agg [.ints .i64 x327, .int .i64 x328, .int .i64 x329])), some (.ints .i64 x330)], 4⟩ : St)) (fun (v : (Int × (List Int) × Int × Int) ⊕ ((((List Int) × Int × Int) × Bool) × Int)) e st => match v with | .inl (x381, x382, x383, x384) => e = .exit 0 ∧ gc 1 [6, 8] st = ⟨al .dead [(6, .ptr 1 [] (some 0)), (8, .ptr 2 [] (some 0))], hl [some (.ptr (.agg [.int .i64 x381])), some (.ptr (.agg [.ints .i64 ([]), .int .i64 ((0 : Int)), .int .i64 ((0 : Int))])), some (.ptr (.agg [.ints .i64 x382, .int .i64 x383, .int .i64 x384]))], 3⟩ | .inr rr => e = .ret ∧ outs 1 k51 st = some (.tup [.agg [.ints .i64 rr.1.1.1, .int .i64 rr.1.1.2.1, .int .i64 rr.1.1.2.2], .bool rr.1.2], [.ptr (.agg [.int .i64 rr.2])])) hw636 ?_) ?_
  · rintro ⟨x326, x327, x328, x329, x330, x331, x332, x333, x334⟩ o h
    refine wp_gc ?_
    refine wp_seq ?_
    refine wp_gc ?_
    refine wp_seq ?_
    refine wp_join (impl_sent_v1_j2 p0 x326 x327 x328 x329 x330 x331 x332 x333 x334) (fun (x435 : Bool) => (⟨al .dead [(0, .vw [] (.ints .i64 p0)), (1, .fn 52 [.ptr 0 [] (some 0)]), (2, .fn 53 []), (6, .ptr 1 [] (some 0)), (8, .ptr 2 [] (some 0)), (9, .vw [] (.int .i64 x331)), (10, .vw [] (.int .i64 x332)), (11, .vw [] (.int .i64 x333)), (12, .ref 3 [] 1 0 (List.length x330)), (13, .vw [] (.int .i64 x334)), (26, .vw [] (.bool x435))], hl [some (.ptr (.agg [.int .i64 x326])), some (.ptr (.agg [.ints .i64 ([]), .int .i64 ((0 : Int)), .int .i64 ((0 : Int))])), some (.ptr (.agg [.ints .i64 x327, .int .i64 x328, .int .i64 x329])), some (.ints .i64 x330)], 4⟩ : St)) ?_ ?_
    · rintro x435 o h
      unfold impl_sent_v1_j2 at h
      refine seqQ_n (?_)
      rcases its h with ⟨hc436, h⟩ | ⟨hc436, h⟩
      · refine wp_ct rfl hc436 ?_
        refine wp_skip (gcQ_n (gc_to [1, 2, 3] (e := [(0, .vw [] (.ints .i64 p0)), (1, .fn 52 [.ptr 0 [] (some 0)]), (2, .fn 53 []), (6, .ptr 1 [] (some 0)), (8, .ptr 2 [] (some 0)), (9, .vw [] (.int .i64 x331)), (10, .vw [] (.int .i64 x332)), (11, .vw [] (.int .i64 x333)), (12, .ref 3 [] 1 0 (List.length x330)), (13, .vw [] (.int .i64 x334))]) (ts := [some (.ptr (.agg [.int .i64 x326])), some (.ptr (.agg [.ints .i64 ([]), .int .i64 ((0 : Int)), .int .i64 ((0 : Int))])), some (.ptr (.agg [.ints .i64 x327, .int .i64 x328, .int .i64 x329])), some (.ints .i64 x330)]) (n := 4) rfl rfl rfl rfl) (seqQ_n (?_)))
        refine wp_seq ?_
        refine wp_gc ?_
        refine wp_gc ?_
        refine wp_blk ?_
        refine wp_seq ?_
        refine wp_gc ?_
        refine wp_seq ?_
        refine wp_reg (nx' := 36) rfl (ev_den (.vw _ _) rfl rfl (ev_den (.vw _ _) rfl rfl (ev_nil))) (seqQ_n (?_))
        rcases its h with ⟨hc506, h⟩ | ⟨hc506, h⟩
        · refine wp_ct rfl hc506 ?_
          refine wp_seq ?_
          refine wp_reg (nx' := 84) rfl (ev_den (.agg [(.nilS _), (.vw _ _), (.vw _ _)]) rfl rfl (ev_wr0 rfl (w_st_a rfl rfl rfl (stL_cons (st1_of rfl rfl rfl (get_f rfl (get_nil)) rfl (rput_p (put_f rfl (put_nil)))) rfl (stL_cons (st1_of rfl rfl rfl (get_f rfl (get_nil)) rfl (rput_p (put_f rfl (put_nil)))) rfl (stL_cons (st1_of rfl rfl rfl (get_f rfl (get_nil)) rfl (rput_p (put_f rfl (put_nil)))) rfl (stL_nil))))) (ev_den (.vw _ _) rfl rfl (ev_nil)))) (seqQ_n (?_))
          replace h := Option.some.inj h
          subst h
          exact wp_ret (gcQ_r (seqQ_r (blkQ_r (gcQ_r (gcQ_r (seqQ_r (gcQ_r (loopQ_r (And.intro rfl (outs_ok (vs := [(.agg [(.ref 1 [.f 0] _ _ _), (.vw _ _), (.vw _ _)]), (.vw _ _)]) rfl (absW_cons (retT_agg (absW_cons (ret1_ref (abs_refp (r := .ptr (.agg [.ints .i64 ([]), .int .i64 ((0 : Int)), .int .i64 ((0 : Int))])) rfl (get_f rfl (get_nil)) sub_i (rput_p (put_f rfl (put_nil))))) rfl (absW_cons rfl rfl (absW_cons rfl rfl (absW_nil))))) rfl (absW_cons rfl rfl (absW_nil))) rfl rfl))))))))))
        · refine wp_cf rfl hc506 ?_
          refine wp_skip (gcQ_n (gc_to [1, 2, 3] (e := [(0, .vw [] (.ints .i64 p0)), (1, .fn 52 [.ptr 0 [] (some 0)]), (2, .fn 53 []), (6, .ptr 1 [] (some 0)), (8, .ptr 2 [] (some 0)), (9, .vw [] (.int .i64 x331)), (10, .vw [] (.int .i64 x332)), (11, .vw [] (.int .i64 x333)), (12, .ref 3 [] 1 0 (List.length x330)), (13, .vw [] (.int .i64 x334))]) (ts := [some (.ptr (.agg [.int .i64 x326])), some (.ptr (.agg [.ints .i64 ([]), .int .i64 ((0 : Int)), .int .i64 ((0 : Int))])), some (.ptr (.agg [.ints .i64 x327, .int .i64 x328, .int .i64 x329])), some (.ints .i64 x330)]) (n := 4) rfl rfl rfl rfl) (seqQ_n (?_)))
          refine wp_seq ?_
          refine wp_join (impl_sent_v1_j3 p0 x326 x327 x328 x329 x333 x334) (fun ((x510, x511, x512) : (List Int) × Int × Int) => (⟨al .dead [(0, .vw [] (.ints .i64 p0)), (1, .fn 52 [.ptr 0 [] (some 0)]), (2, .fn 53 []), (6, .ptr 1 [] (some 0)), (8, .ptr 2 [] (some 0)), (9, .vw [] (.int .i64 x511)), (10, .vw [] (.int .i64 x512)), (11, .vw [] (.int .i64 x333)), (12, .ref 3 [] 1 0 (List.length x510)), (13, .vw [] (.int .i64 x334))], hl [some (.ptr (.agg [.int .i64 x326])), some (.ptr (.agg [.ints .i64 ([]), .int .i64 ((0 : Int)), .int .i64 ((0 : Int))])), some (.ptr (.agg [.ints .i64 x327, .int .i64 x328, .int .i64 x329])), some (.ints .i64 x510)], 4⟩ : St)) ?_ ?_
          · rintro ⟨x510, x511, x512⟩ o h
            unfold impl_sent_v1_j3 at h
            refine seqQ_n (?_)
            refine wp_seq ?_
            obtain ⟨v513, hv513, h⟩ := bs (x := impl_LeakOf_fn1 x334 x326) h
            refine wp_reg (nx' := 100) rfl (ev_den (.vw _ _) rfl rfl (ev_den (.fn 52 [(.ptr 0 [] (some 0))]) rfl rfl (ev_den (.vw _ _) rfl rfl (ev_callv [(.vw _ _), (.ptr 0 [] (some 0))] rfl rfl (call_ok (rs := [0]) (rd := []) rfl rfl rfl rfl (argL_cons rfl (argL_cons rfl (argL_nil))) rfl rfl (impl_LeakOf_fn1_ok hv513) rfl rfl rfl rfl rfl) (ev_den (.vw _ _) rfl rfl (ev_den (.vw _ _) rfl rfl (ev_nil))))))) (seqQ_n (?_))
            refine wp_seq ?_
            obtain ⟨v514, hv514, h⟩ := bs (x := impl_LeakOf_fn2 ((if v513.1 < x511 then v513.1 else x511))) h
            refine wp_reg (nx' := 148) rfl (ev_den (.fn 53 []) rfl rfl (ev_den (.vw _ _) rfl rfl (ev_callv [(.vw _ _)] rfl rfl (call_ok (rs := []) (rd := []) rfl rfl rfl rfl (argL_cons rfl (argL_nil)) rfl rfl (impl_LeakOf_fn2_ok hv514) rfl rfl rfl (bindR_t (bindL_nil)) rfl) (ev_nil)))) (seqQ_n (?_))
            refine wp_seq ?_
            refine wp_reg (nx' := 276) rfl (ev_den (.vw _ _) rfl rfl (ev_den (.vw _ _) rfl rfl (ev_den (.vw _ _) rfl rfl (ev_den (.vw _ _) rfl rfl (ev_den (.vw _ _) rfl rfl (ev_den (.vw _ _) rfl rfl (ev_den (.vw _ _) rfl rfl (ev_den (.vw _ _) rfl rfl (ev_nil))))))))) (seqQ_n (?_))
            refine wp_seq ?_
            obtain ⟨v515, hv515, h⟩ := bs h
            obtain ⟨v516, hv516, h⟩ := bs h
            refine wp_regA rfl (ar_cons (nx' := 484) rfl (rl_cons rfl (ev_den (.ptr 2 [] (some 0)) rfl rfl (ev_nil)) (rl_cons rfl (ev_den (.ref 2 [.f 0] _ _ _) rfl (d_ld_o rfl (rget_of rfl (get_nil)) rfl rfl) (ev_nil)) (rl_cons rfl (ev_den (.vw _ _) rfl rfl (ev_nil)) (rl_cons rfl (ev_den (.vw _ _) rfl rfl (ev_nil)) (rl_cons rfl (ev_wr rfl (w_app_i (xv := (.ref 2 [.f 0] _ _ _)) 340 rfl rfl (abs_refp (r := .ptr (.agg [.ints .i64 x327, .int .i64 x328, .int .i64 x329])) rfl (get_f rfl (get_nil)) sub_i (rput_p (put_f rfl (put_nil)))) hv515 rfl) (ev_nil)) (rl_cons rfl (ev_den (.ptr 2 [] (some 1)) rfl rfl (ev_nil)) (rl_cons rfl (ev_den (.vw _ _) rfl (d_ld_o rfl (rget_of rfl (get_nil)) rfl rfl) (ev_nil)) (rl_cons rfl (ev_den (.vw _ _) rfl rfl (ev_nil)) (rl_cons rfl (ev_den (.vw [] (.int .i64 v516)) rfl (d_as_i rfl (Option.some.inj hv516)) (ev_nil)) (rl_cons rfl (ev_den (.ptr 2 [] (some 0)) rfl rfl (ev_nil)) (rl_cons rfl (ev_wr0 rfl (w_st_o rfl rfl (st1_of (abs_ref rfl sub_i) rfl rfl (get_f rfl (get_nil)) rfl (rput_p (put_f rfl (put_nil))))) (ev_nil)) (rl_cons rfl (ev_den (.ptr 2 [] (some 1)) rfl rfl (ev_nil)) (rl_cons rfl (ev_wr0 rfl (w_st_o rfl rfl (st1_of rfl rfl rfl (get_f rfl (get_nil)) rfl (rput_p (put_f rfl (put_nil))))) (ev_nil)) (rl_nil)))))))))))))) (gc_to [1, 2, 3] (e := [(0, .vw [] (.ints .i64 p0)), (1, .fn 52 [.ptr 0 [] (some 0)]), (2, .fn 53 []), (6, .ptr 1 [] (some 0)), (8, .ptr 2 [] (some 0)), (9, .vw [] (.int .i64 ((w64 (x511 - (if v513.1 < x511 then v513.1 else x511)))))), (10, .vw [] (.int .i64 x512)), (11, .vw [] (.int .i64 ((w64 (x333 + (if v513.1 < x511 then v513.1 else x511)))))), (12, .ref 3 [] 1 0 (List.length x510)), (13, .vw [] (.int .i64 x334)), (14, .vw [] (.int .i64 ((if v513.1 < x511 then v513.1 else x511))))]) (ts := [some (.ptr (.agg [.int .i64 v513.2])), some (.ptr (.agg [.ints .i64 ([]), .int .i64 ((0 : Int)), .int .i64 ((0 : Int))])), some (.ptr (.agg [.ints .i64 v515, .int .i64 v516, .int .i64 x329])), some (.ints .i64 x510)]) (n := 4) rfl rfl rfl rfl) (ar_cons (nx' := 484) rfl (rl_cons rfl (ev_den (.ptr 2 [] (some 0)) rfl rfl (ev_nil)) (rl_cons rfl (ev_den (.ref 2 [.f 0] _ _ _) rfl (d_ld_o rfl (rget_of rfl (get_nil)) rfl rfl) (ev_nil)) (rl_cons rfl (ev_den (.vw _ _) rfl rfl (ev_nil)) (rl_cons rfl (ev_den (.vw _ _) rfl rfl (ev_nil)) (rl_cons rfl (ev_wr rfl (w_app_i (xv := (.ref 2 [.f 0] _ _ _)) 340 rfl rfl (abs_refp (r := .ptr (.agg [.ints .i64 x327, .int .i64 x328, .int .i64 x329])) rfl (get_f rfl (get_nil)) sub_i (rput_p (put_f rfl (put_nil)))) hv515 rfl) (ev_nil)) (rl_cons rfl (ev_den (.ptr 2 [] (some 1)) rfl rfl (ev_nil)) (rl_cons rfl (ev_den (.vw _ _) rfl (d_ld_o rfl (rget_of rfl (get_nil)) rfl rfl) (ev_nil)) (rl_cons rfl (ev_den (.vw _ _) rfl rfl (ev_nil)) (rl_cons rfl (ev_den (.ptr 2 [] (some 0)) rfl rfl (ev_nil)) (rl_cons rfl (ev_wr0 rfl (w_st_o rfl rfl (st1_of (abs_ref rfl sub_i) rfl rfl (get_f rfl (get_nil)) rfl (rput_p (put_f rfl (put_nil))))) (ev_nil)) (rl_cons rfl (ev_den (.vw [] (.int .i64 v516)) rfl (d_as_i rfl (Option.some.inj hv516)) (ev_nil)) (rl_cons rfl (ev_den (.ptr 2 [] (some 1)) rfl rfl (ev_nil)) (rl_cons rfl (ev_wr0 rfl (w_st_o rfl rfl (st1_of rfl rfl rfl (get_f rfl (get_nil)) rfl (rput_p (put_f rfl (put_nil))))) (ev_nil)) (rl_nil)))))))))))))) (gc_to [1, 2, 3] (e := [(0, .vw [] (.ints .i64 p0)), (1, .fn 52 [.ptr 0 [] (some 0)]), (2, .fn 53 []), (6, .ptr 1 [] (some 0)), (8, .ptr 2 [] (some 0)), (9, .vw [] (.int .i64 ((w64 (x511 - (if v513.1 < x511 then v513.1 else x511)))))), (10, .vw [] (.int .i64 x512)), (11, .vw [] (.int .i64 ((w64 (x333 + (if v513.1 < x511 then v513.1 else x511)))))), (12, .ref 3 [] 1 0 (List.length x510)), (13, .vw [] (.int .i64 x334)), (14, .vw [] (.int .i64 ((if v513.1 < x511 then v513.1 else x511))))]) (ts := [some (.ptr (.agg [.int .i64 v513.2])), some (.ptr (.agg [.ints .i64 ([]), .int .i64 ((0 : Int)), .int .i64 ((0 : Int))])), some (.ptr (.agg [.ints .i64 v515, .int .i64 v516, .int .i64 x329])), some (.ints .i64 x510)]) (n := 4) rfl rfl rfl rfl) (ar_cons (nx' := 484) rfl (rl_cons rfl (ev_den (.ptr 2 [] (some 0)) rfl rfl (ev_nil)) (rl_cons rfl (ev_den (.ref 2 [.f 0] _ _ _) rfl (d_ld_o rfl (rget_of rfl (get_nil)) rfl rfl) (ev_nil)) (rl_cons rfl (ev_den (.vw _ _) rfl rfl (ev_nil)) (rl_cons rfl (ev_den (.vw _ _) rfl rfl (ev_nil)) (rl_cons rfl (ev_den (.ptr 2 [] (some 1)) rfl rfl (ev_nil)) (rl_cons rfl (ev_wr rfl (w_app_i (xv := (.ref 2 [.f 0] _ _ _)) 340 rfl rfl (abs_refp (r := .ptr (.agg [.ints .i64 x327, .int .i64 x328, .int .i64 x329])) rfl (get_f rfl (get_nil)) sub_i (rput_p (put_f rfl (put_nil)))) hv515 rfl) (ev_nil)) (rl_cons rfl (ev_den (.vw _ _) rfl (d_ld_o rfl (rget_of rfl (get_nil)) rfl rfl) (ev_nil)) (rl_cons rfl (ev_den (.vw _ _) rfl rfl (ev_nil)) (rl_cons rfl (ev_den (.vw [] (.int .i64 v516)) rfl (d_as_i rfl (Option.some.inj hv516)) (ev_nil)) (rl_cons rfl (ev_den (.ptr 2 [] (some 0)) rfl rfl (ev_nil)) (rl_cons rfl (ev_wr0 rfl (w_st_o rfl rfl (st1_of (abs_ref rfl sub_i) rfl rfl (get_f rfl (get_nil)) rfl (rput_p (put_f rfl (put_nil))))) (ev_nil)) (rl_cons rfl (ev_den (.ptr 2 [] (some 1)) rfl rfl (ev_nil)) (rl_cons rfl (ev_wr0 rfl (w_st_o rfl rfl (st1_of rfl rfl rfl (get_f rfl (get_nil)) rfl (rput_p (put_f rfl (put_nil))))) (ev_nil)) (rl_nil)))))))))))))) (gc_to [1, 2, 3] (e := [(0, .vw [] (.ints .i64 p0)), (1, .fn 52 [.ptr 0 [] (some 0)]), (2, .fn 53 []), (6, .ptr 1 [] (some 0)), (8, .ptr 2 [] (some 0)), (9, .vw [] (.int .i64 ((w64 (x511 - (if v513.1 < x511 then v513.1 else x511)))))), (10, .vw [] (.int .i64 x512)), (11, .vw [] (.int .i64 ((w64 (x333 + (if v513.1 < x511 then v513.1 else x511)))))), (12, .ref 3 [] 1 0 (List.length x510)), (13, .vw [] (.int .i64 x334)), (14, .vw [] (.int .i64 ((if v513.1 < x511 then v513.1 else x511))))]) (ts := [some (.ptr (.agg [.int .i64 v513.2])), some (.ptr (.agg [.ints .i64 ([]), .int .i64 ((0 : Int)), .int .i64 ((0 : Int))])), some (.ptr (.agg [.ints .i64 v515, .int .i64 v516, .int .i64 x329])), some (.ints .i64 x510)]) (n := 4) rfl rfl rfl rfl) (ar_cons (nx' := 484) rfl (rl_cons rfl (ev_den (.ptr 2 [] (some 0)) rfl rfl (ev_nil)) (rl_cons rfl (ev_den (.ref 2 [.f 0] _ _ _) rfl (d_ld_o rfl (rget_of rfl (get_nil)) rfl rfl) (ev_nil)) (rl_cons rfl (ev_den (.vw _ _) rfl rfl (ev_nil)) (rl_cons rfl (ev_den (.vw _ _) rfl rfl (ev_nil)) (rl_cons rfl (ev_den (.ptr 2 [] (some 1)) rfl rfl (ev_nil)) (rl_cons rfl (ev_wr rfl (w_app_i (xv := (.ref 2 [.f 0] _ _ _)) 340 rfl rfl (abs_refp (r := .ptr (.agg [.ints .i64 x327, .int .i64 x328, .int .i64 x329])) rfl (get_f rfl (get_nil)) sub_i (rput_p (put_f rfl (put_nil)))) hv515 rfl) (ev_nil)) (rl_cons rfl (ev_den (.vw _ _) rfl (d_ld_o rfl (rget_of rfl (get_nil)) rfl rfl) (ev_nil)) (rl_cons rfl (ev_den (.vw _ _) rfl rfl (ev_nil)) (rl_cons rfl (ev_den (.ptr 2 [] (some 0)) rfl rfl (ev_nil)) (rl_cons rfl (ev_wr0 rfl (w_st_o rfl rfl (st1_of (abs_ref rfl sub_i) rfl rfl (get_f rfl (get_nil)) rfl (rput_p (put_f rfl (put_nil))))) (ev_nil)) (rl_cons rfl (ev_den (.vw [] (.int .i64 v516)) rfl (d_as_i rfl (Option.some.inj hv516)) (ev_nil)) (rl_cons rfl (ev_den (.ptr 2 [] (some 1)) rfl rfl (ev_nil)) (rl_cons rfl (ev_wr0 rfl (w_st_o rfl rfl (st1_of rfl rfl rfl (get_f rfl (get_nil)) rfl (rput_p (put_f rfl (put_nil))))) (ev_nil)) (rl_nil)))))))))))))) (gc_to [1, 2, 3] (e := [(0, .vw [] (.ints .i64 p0)), (1, .fn 52 [.ptr 0 [] (some 0)]), (2, .fn 53 []), (6, .ptr 1 [] (some 0)), (8, .ptr 2 [] (some 0)), (9, .vw [] (.int .i64 ((w64 (x511 - (if v513.1 < x511 then v513.1 else x511)))))), (10, .vw [] (.int .i64 x512)), (11, .vw [] (.int .i64 ((w64 (x333 + (if v513.1 < x511 then v513.1 else x511)))))), (12, .ref 3 [] 1 0 (List.length x510)), (13, .vw [] (.int .i64 x334)), (14, .vw [] (.int .i64 ((if v513.1 < x511 then v513.1 else x511))))]) (ts := [some (.ptr (.agg [.int .i64 v513.2])), some (.ptr (.agg [.ints .i64 ([]), .int .i64 ((0 : Int)), .int .i64 ((0 : Int))])), some (.ptr (.agg [.ints .i64 v515, .int .i64 v516, .int .i64 x329])), some (.ints .i64 x510)]) (n := 4) rfl rfl rfl rfl) (ar_cons (nx' := 484) rfl (rl_cons rfl (ev_den (.ptr 2 [] (some 0)) rfl rfl (ev_nil)) (rl_cons rfl (ev_den (.ref 2 [.f 0] _ _ _) rfl (d_ld_o rfl (rget_of rfl (get_nil)) rfl rfl) (ev_nil)) (rl_cons rfl (ev_den (.vw _ _) rfl rfl (ev_nil)) (rl_cons rfl (ev_den (.vw _ _) rfl rfl (ev_nil)) (rl_cons rfl (ev_den (.ptr 2 [] (some 1)) rfl rfl (ev_nil)) (rl_cons rfl (ev_den (.vw _ _) rfl (d_ld_o rfl (rget_of rfl (get_nil)) rfl rfl) (ev_nil)) (rl_cons rfl (ev_wr rfl (w_app_i (xv := (.ref 2 [.f 0] _ _ _)) 340 rfl rfl (abs_refp (r := .ptr (.agg [.ints .i64 x327, .int .i64 x328, .int .i64 x329])) rfl (get_f rfl (get_nil)) sub_i (rput_p (put_f rfl (put_nil)))) hv515 rfl) (ev_nil)) (rl_cons rfl (ev_den (.vw _ _) rfl rfl (ev_nil)) (rl_cons rfl (ev_den (.vw [] (.int .i64 v516)) rfl (d_as_i rfl (Option.some.inj hv516)) (ev_nil)) (rl_cons rfl (ev_den (.ptr 2 [] (some 0)) rfl rfl (ev_nil)) (rl_cons rfl (ev_wr0 rfl (w_st_o rfl rfl (st1_of (abs_ref rfl sub_i) rfl rfl (get_f rfl (get_nil)) rfl (rput_p (put_f rfl (put_nil))))) (ev_nil)) (rl_cons rfl (ev_den (.ptr 2 [] (some 1)) rfl rfl (ev_nil)) (rl_cons rfl (ev_wr0 rfl (w_st_o rfl rfl (st1_of rfl rfl rfl (get_f rfl (get_nil)) rfl (rput_p (put_f rfl (put_nil))))) (ev_nil)) (rl_nil)))))))))))))) (gc_to [1, 2, 3] (e := [(0, .vw [] (.ints .i64 p0)), (1, .fn 52 [.ptr 0 [] (some 0)]), (2, .fn 53 []), (6, .ptr 1 [] (some 0)), (8, .ptr 2 [] (some 0)), (9, .vw [] (.int .i64 ((w64 (x511 - (if v513.1 < x511 then v513.1 else x511)))))), (10, .vw [] (.int .i64 x512)), (11, .vw [] (.int .i64 ((w64 (x333 + (if v513.1 < x511 then v513.1 else x511)))))), (12, .ref 3 [] 1 0 (List.length x510)), (13, .vw [] (.int .i64 x334)), (14, .vw [] (.int .i64 ((if v513.1 < x511 then v513.1 else x511))))]) (ts := [some (.ptr (.agg [.int .i64 v513.2])), some (.ptr (.agg [.ints .i64 ([]), .int .i64 ((0 : Int)), .int .i64 ((0 : Int))])), some (.ptr (.agg [.ints .i64 v515, .int .i64 v516, .int .i64 x329])), some (.ints .i64 x510)]) (n := 4) rfl rfl rfl rfl) (ar_cons (nx' := 484) rfl (rl_cons rfl (ev_den (.ptr 2 [] (some 0)) rfl rfl (ev_nil)) (rl_cons rfl (ev_den (.ref 2 [.f 0] _ _ _) rfl (d_ld_o rfl (rget_of rfl (get_nil)) rfl rfl) (ev_nil)) (rl_cons rfl (ev_den (.vw _ _) rfl rfl (ev_nil)) (rl_cons rfl (ev_den (.vw _ _) rfl rfl (ev_nil)) (rl_cons rfl (ev_den (.ptr 2 [] (some 1)) rfl rfl (ev_nil)) (rl_cons rfl (ev_den (.vw _ _) rfl (d_ld_o rfl (rget_of rfl (get_nil)) rfl rfl) (ev_nil)) (rl_cons rfl (ev_wr rfl (w_app_i (xv := (.ref 2 [.f 0] _ _ _)) 340 rfl rfl (abs_refp (r := .ptr (.agg [.ints .i64 x327, .int .i64 x328, .int .i64 x329])) rfl (get_f rfl (get_nil)) sub_i (rput_p (put_f rfl (put_nil)))) hv515 rfl) (ev_nil)) (rl_cons rfl (ev_den (.vw _ _) rfl rfl (ev_nil)) (rl_cons rfl (ev_den (.ptr 2 [] (some 0)) rfl rfl (ev_nil)) (rl_cons rfl (ev_wr0 rfl (w_st_o rfl rfl (st1_of (abs_ref rfl sub_i) rfl rfl (get_f rfl (get_nil)) rfl (rput_p (put_f rfl (put_nil))))) (ev_nil)) (rl_cons rfl (ev_den (.vw [] (.int .i64 v516)) rfl (d_as_i rfl (Option.some.inj hv516)) (ev_nil)) (rl_cons rfl (ev_den (.ptr 2 [] (some 1)) rfl rfl (ev_nil)) (rl_cons rfl (ev_wr0 rfl (w_st_o rfl rfl (st1_of rfl rfl rfl (get_f rfl (get_nil)) rfl (rput_p (put_f rfl (put_nil))))) (ev_nil)) (rl_nil)))))))))))))) (gc_to [1, 2, 3] (e := [(0, .vw [] (.ints .i64 p0)), (1, .fn 52 [.ptr 0 [] (some 0)]), (2, .fn 53 []), (6, .ptr 1 [] (some 0)), (8, .ptr 2 [] (some 0)), (9, .vw [] (.int .i64 ((w64 (x511 - (if v513.1 < x511 then v513.1 else x511)))))), (10, .vw [] (.int .i64 x512)), (11, .vw [] (.int .i64 ((w64 (x333 + (if v513.1 < x511 then v513.1 else x511)))))), (12, .ref 3 [] 1 0 (List.length x510)), (13, .vw [] (.int .i64 x334)), (14, .vw [] (.int .i64 ((if v513.1 < x511 then v513.1 else x511))))]) (ts := [some (.ptr (.agg [.int .i64 v513.2])), some (.ptr (.agg [.ints .i64 ([]), .int .i64 ((0 : Int)), .int .i64 ((0 : Int))])), some (.ptr (.agg [.ints .i64 v515, .int .i64 v516, .int .i64 x329])), some (.ints .i64 x510)]) (n := 4) rfl rfl rfl rfl) (ar_cons (nx' := 484) rfl (rl_cons rfl (ev_den (.ptr 2 [] (some 0)) rfl rfl (ev_nil)) (rl_cons rfl (ev_den (.ref 2 [.f 0] _ _ _) rfl (d_ld_o rfl (rget_of rfl (get_nil)) rfl rfl) (ev_nil)) (rl_cons rfl (ev_den (.vw _ _) rfl rfl (ev_nil)) (rl_cons rfl (ev_den (.vw _ _) rfl rfl (ev_nil)) (rl_cons rfl (ev_den (.ptr 2 [] (some 1)) rfl rfl (ev_nil)) (rl_cons rfl (ev_den (.vw _ _) rfl (d_ld_o rfl (rget_of rfl (get_nil)) rfl rfl) (ev_nil)) (rl_cons rfl (ev_den (.vw _ _) rfl rfl (ev_nil)) (rl_cons rfl (ev_den (.vw [] (.int .i64 v516)) rfl (d_as_i rfl (Option.some.inj hv516)) (ev_nil)) (rl_cons rfl (ev_wr rfl (w_app_i (xv := (.ref 2 [.f 0] _ _ _)) 340 rfl rfl (abs_refp (r := .ptr (.agg [.ints .i64 x327, .int .i64 x328, .int .i64 x329])) rfl (get_f rfl (get_nil)) sub_i (rput_p (put_f rfl (put_nil)))) hv515 rfl) (ev_nil)) (rl_cons rfl (ev_den (.ptr 2 [] (some 0)) rfl rfl (ev_nil)) (rl_cons rfl (ev_wr0 rfl (w_st_o rfl rfl (st1_of (abs_ref rfl sub_i) rfl rfl (get_f rfl (get_nil)) rfl (rput_p (put_f rfl (put_nil))))) (ev_nil)) (rl_cons rfl (ev_den (.ptr 2 [] (some 1)) rfl rfl (ev_nil)) (rl_cons rfl (ev_wr0 rfl (w_st_o rfl rfl (st1_of rfl rfl rfl (get_f rfl (get_nil)) rfl (rput_p (put_f rfl (put_nil))))) (ev_nil)) (rl_nil)))))))))))))) (gc_to [1, 2, 3] (e := [(0, .vw [] (.ints .i64 p0)), (1, .fn 52 [.ptr 0 [] (some 0)]), (2, .fn 53 []), (6, .ptr 1 [] (some 0)), (8, .ptr 2 [] (some 0)), (9, .vw [] (.int .i64 ((w64 (x511 - (if v513.1 < x511 then v513.1 else x511)))))), (10, .vw [] (.int .i64 x512)), (11, .vw [] (.int .i64 ((w64 (x333 + (if v513.1 < x511 then v513.1 else x511)))))), (12, .ref 3 [] 1 0 (List.length x510)), (13, .vw [] (.int .i64 x334)), (14, .vw [] (.int .i64 ((if v513.1 < x511 then v513.1 else x511))))]) (ts := [some (.ptr (.agg [.int .i64 v513.2])), some (.ptr (.agg [.ints .i64 ([]), .int .i64 ((0 : Int)), .int .i64 ((0 : Int))])), some (.ptr (.agg [.ints .i64 v515, .int .i64 v516, .int .i64 x329])), some (.ints .i64 x510)]) (n := 4) rfl rfl rfl rfl) (ar_nil)))))))) (seqQ_n (?_))
            refine wp_seq ?_
            refine wp_gc ?_
            refine wp_reg (nx' := 52) rfl (ev_den (.ref 3 _ _ _ _) rfl rfl (ev_den (.vw _ _) rfl rfl (ev_den (.vw _ _) rfl rfl (ev_nil)))) (gcQ_n (gc_to [1, 2, 3] (e := [(0, .vw [] (.ints .i64 p0)), (1, .fn 52 [.ptr 0 [] (some 0)]), (2, .fn 53 []), (6, .ptr 1 [] (some 0)), (8, .ptr 2 [] (some 0)), (9, .vw [] (.int .i64 ((w64 (x511 - (if v513.1 < x511 then v513.1 else x511)))))), (10, .vw [] (.int .i64 x512)), (11, .vw [] (.int .i64 ((w64 (x333 + (if v513.1 < x511 then v513.1 else x511)))))), (12, .ref 3 [] 1 0 (List.length x510)), (13, .vw [] (.int .i64 x334)), (14, .vw [] (.int .i64 ((if v513.1 < x511 then v513.1 else x511)))), (77, .ref 3 [] 1 0 (List.length x510)), (78, .vw [] (.int .i64 ((List.length x510 : Int)))), (79, .vw [] (.int .i64 ((0 : Int))))]) (ts := [some (.ptr (.agg [.int .i64 v513.2])), some (.ptr (.agg [.ints .i64 ([]), .int .i64 ((0 : Int)), .int .i64 ((0 : Int))])), some (.ptr (.agg [.ints .i64 v515, .int .i64 v516, .int .i64 x329])), some (.ints .i64 x510)]) (n := 4) rfl rfl rfl rfl) (seqQ_n (?_)))
            refine wp_gc ?_
            refine wp_blk ?_
            obtain ⟨x562, hw610, h⟩ := bs h
            refine wp_mono (wp_loop (fun ((x549, x550) : Int × Int) => (⟨al .dead [(0, .vw [] (.ints .i64 p0)), (1, .fn 52 [.ptr 0 [] (some 0)]), (2, .fn 53 []), (6, .ptr 1 [] (some 0)), (8, .ptr 2 [] (some 0)), (9, .vw [] (.int .i64 ((w64 (x511 - (if v513.1 < x511 then v513.1 else x511)))))), (10, .vw [] (.int .i64 x512)), (11, .vw [] (.int .i64 ((w64 (x333 + (if v513.1 < x511 then v513.1 else x511)))))), (12, .ref 3 [] 1 0 (List.length x510)), (13, .vw [] (.int .i64 x334)), (14, .vw [] (.int .i64 ((if v513.1 < x511 then v513.1 else x511)))), (77, .ref 3 [] 1 0 (List.length x510)), (78, .vw [] (.int .i64 ((List.length x510 : Int)))), (79, .vw [] (.int .i64 x550))], hl [some (.ptr (.agg [.int .i64 v513.2])), some (.ptr (.agg [.ints .i64 ([]), .int .i64 ((0 : Int)), .int .i64 ((0 : Int))])), some (.ptr (.agg [.ints .i64 v515, .int .i64 v516, .int .i64 x549])), some (.ints .i64 x510)], 4⟩ : St)) (fun (x562 : Int) e st => e = .exit 2 ∧ gc 1 [0, 1, 2, 6, 8, 9, 10, 11, 12, 13] st = ⟨al .dead [(0, .vw [] (.ints .i64 p0)), (1, .fn 52 [.ptr 0 [] (some 0)]), (2, .fn 53 []), (6, .ptr 1 [] (some 0)), (8, .ptr 2 [] (some 0)), (9, .vw [] (.int .i64 ((w64 (x511 - (if v513.1 < x511 then v513.1 else x511)))))), (10, .vw [] (.int .i64 x512)), (11, .vw [] (.int .i64 ((w64 (x333 + (if v513.1 < x511 then v513.1 else x511)))))), (12, .ref 3 [] 1 0 (List.length x510)), (13, .vw [] (.int .i64 x334))], hl [some (.ptr (.agg [.int .i64 v513.2])), some (.ptr (.agg [.ints .i64 ([]), .int .i64 ((0 : Int)), .int .i64 ((0 : Int))])), some (.ptr (.agg [.ints .i64 v515, .int .i64 v516, .int .i64 x562])), some (.ints .i64 x510)], 4⟩) hw610 ?_) ?_
            · rintro ⟨x549, x550⟩ o h
              refine wp_gc ?_
              refine wp_seq ?_
              refine wp_reg (nx' := 20) rfl (ev_den (.vw _ _) rfl rfl (ev_nil)) (seqQ_n (?_))
              refine wp_seq ?_
              refine wp_gc ?_
              rcases its h with ⟨hc575, h⟩ | ⟨hc575, h⟩
              · refine wp_ct rfl hc575 ?_
                refine wp_skip (gcQ_n (gc_to [1, 2, 3] (e := [(0, .vw [] (.ints .i64 p0)), (1, .fn 52 [.ptr 0 [] (some 0)]), (2, .fn 53 []), (6, .ptr 1 [] (some 0)), (8, .ptr 2 [] (some 0)), (9, .vw [] (.int .i64 ((w64 (x511 - (if v513.1 < x511 then v513.1 else x511)))))), (10, .vw [] (.int .i64 x512)), (11, .vw [] (.int .i64 ((w64 (x333 + (if v513.1 < x511 then v513.1 else x511)))))), (12, .ref 3 [] 1 0 (List.length x510)), (13, .vw [] (.int .i64 x334)), (14, .vw [] (.int .i64 ((if v513.1 < x511 then v513.1 else x511)))), (77, .ref 3 [] 1 0 (List.length x510)), (78, .vw [] (.int .i64 ((List.length x510 : Int)))), (79, .vw [] (.int .i64 x550))]) (ts := [some (.ptr (.agg [.int .i64 v513.2])), some (.ptr (.agg [.ints .i64 ([]), .int .i64 ((0 : Int)), .int .i64 ((0 : Int))])), some (.ptr (.agg [.ints .i64 v515, .int .i64 v516, .int .i64 x549])), some (.ints .i64 x510)]) (n := 4) rfl rfl rfl rfl) (seqQ_n (?_)))
                refine wp_seq ?_
                refine wp_join (impl_sent_v1_j5 x550) (fun (x583 : Int) => (⟨al .dead [(0, .vw [] (.ints .i64 p0)), (1, .fn 52 [.ptr 0 [] (some 0)]), (2, .fn 53 []), (6, .ptr 1 [] (some 0)), (8, .ptr 2 [] (some 0)), (9, .vw [] (.int .i64 ((w64 (x511 - (if v513.1 < x511 then v513.1 else x511)))))), (10, .vw [] (.int .i64 x512)), (11, .vw [] (.int .i64 ((w64 (x333 + (if v513.1 < x511 then v513.1 else x511)))))), (12, .ref 3 [] 1 0 (List.length x510)), (13, .vw [] (.int .i64 x334)), (14, .vw [] (.int .i64 ((if v513.1 < x511 then v513.1 else x511)))), (77, .ref 3 [] 1 0 (List.length x510)), (78, .vw [] (.int .i64 ((List.length x510 : Int)))), (79, .vw [] (.int .i64 x550))], hl [some (.ptr (.agg [.int .i64 v513.2])), some (.ptr (.agg [.ints .i64 ([]), .int .i64 ((0 : Int)), .int .i64 ((0 : Int))])), some (.ptr (.agg [.ints .i64 v515, .int .i64 v516, .int .i64 x583])), some (.ints .i64 x510)], 4⟩ : St)) ?_ ?_
                · rintro x583 o h
                  unfold impl_sent_v1_j5 at h
                  refine seqQ_n (?_)
                  replace h := Option.some.inj h
                  subst h
                  exact wp_reg (nx' := 36) rfl (ev_den (.vw _ _) rfl rfl (ev_den (.vw _ _) rfl rfl (ev_nil))) (gcQ_n (gc_to [1, 2, 3] (e := [(0, .vw [] (.ints .i64 p0)), (1, .fn 52 [.ptr 0 [] (some 0)]), (2, .fn 53 []), (6, .ptr 1 [] (some 0)), (8, .ptr 2 [] (some 0)), (9, .vw [] (.int .i64 ((w64 (x511 - (if v513.1 < x511 then v513.1 else x511)))))), (10, .vw [] (.int .i64 x512)), (11, .vw [] (.int .i64 ((w64 (x333 + (if v513.1 < x511 then v513.1 else x511)))))), (12, .ref 3 [] 1 0 (List.length x510)), (13, .vw [] (.int .i64 x334)), (14, .vw [] (.int .i64 ((if v513.1 < x511 then v513.1 else x511)))), (77, .ref 3 [] 1 0 (List.length x510)), (78, .vw [] (.int .i64 ((List.length x510 : Int)))), (79, .vw [] (.int .i64 ((w64 (x550 + (1 : Int))))))]) (ts := [some (.ptr (.agg [.int .i64 v513.2])), some (.ptr (.agg [.ints .i64 ([]), .int .i64 ((0 : Int)), .int .i64 ((0 : Int))])), some (.ptr (.agg [.ints .i64 v515, .int .i64 v516, .int .i64 x583])), some (.ints .i64 x510)]) (n := 4) rfl rfl rfl rfl) (loopQ_n rfl))
                · refine wp_gc ?_
                  refine wp_blk ?_
                  refine wp_seq ?_
                  obtain ⟨v593, hv593, h⟩ := bs h
                  refine wp_reg (nx' := 84) rfl (ev_den (.vw _ _) rfl rfl (ev_den (.ptr 3 [.e (Int.toNat x550)] none) rfl (d_idx_r (p := []) rfl rfl hv593) (ev_den (.vw _ _) rfl (d_ld_p rfl (rget_of rfl (get_i hv593)) rfl) (ev_den (.vw _ _) rfl rfl (ev_den (.vw _ _) rfl rfl (ev_nil)))))) (seqQ_n (?_))
                  refine wp_seq ?_
                  refine wp_join (impl_sent_v1_j6 x334 x549 x550) (fun (x598 : Bool) => (⟨al .dead [(0, .vw [] (.ints .i64 p0)), (1, .fn 52 [.ptr 0 [] (some 0)]), (2, .fn 53 []), (6, .ptr 1 [] (some 0)), (8, .ptr 2 [] (some 0)), (9, .vw [] (.int .i64 ((w64 (x511 - (if v513.1 < x511 then v513.1 else x511)))))), (10, .vw [] (.int .i64 x512)), (11, .vw [] (.int .i64 ((w64 (x333 + (if v513.1 < x511 then v513.1 else x511)))))), (12, .ref 3 [] 1 0 (List.length x510)), (13, .vw [] (.int .i64 x334)), (14, .vw [] (.int .i64 ((if v513.1 < x511 then v513.1 else x511)))), (15, .vw [] (.int .i64 x550)), (77, .ref 3 [] 1 0 (List.length x510)), (78, .vw [] (.int .i64 ((List.length x510 : Int)))), (79, .vw [] (.int .i64 x550)), (100, .vw [] (.bool x598))], hl [some (.ptr (.agg [.int .i64 v513.2])), some (.ptr (.agg [.ints .i64 ([]), .int .i64 ((0 : Int)), .int .i64 ((0 : Int))])), some (.ptr (.agg [.ints .i64 v515, .int .i64 v516, .int .i64 x549])), some (.ints .i64 x510)], 4⟩ : St)) ?_ ?_
                  · rintro x598 o h
                    unfold impl_sent_v1_j6 at h
                    refine seqQ_n (?_)
                    rcases its h with ⟨hc599, h⟩ | ⟨hc599, h⟩
                    · refine wp_ct rfl hc599 ?_
                      exact wp_reg (nx' := 132) rfl (ev_den (.ptr 2 [] (some 2)) rfl rfl (ev_den (.vw _ _) rfl (d_ld_o rfl (rget_of rfl (get_nil)) rfl rfl) (ev_den (.vw _ _) rfl rfl (ev_den (.vw _ _) rfl rfl (ev_den (.vw _ _) rfl rfl (ev_den (.vw _ _) rfl rfl (ev_den (.ptr 2 [] (some 2)) rfl rfl (ev_wr0 rfl (w_st_o rfl rfl (st1_of rfl rfl rfl (get_f rfl (get_nil)) rfl (rput_p (put_f rfl (put_nil))))) (ev_nil))))))))) (blkQ_n (gcQ_n (gc_to [1, 2, 3] (e := [(0, .vw [] (.ints .i64 p0)), (1, .fn 52 [.ptr 0 [] (some 0)]), (2, .fn 53 []), (6, .ptr 1 [] (some 0)), (8, .ptr 2 [] (some 0)), (9, .vw [] (.int .i64 ((w64 (x511 - (if v513.1 < x511 then v513.1 else x511)))))), (10, .vw [] (.int .i64 x512)), (11, .vw [] (.int .i64 ((w64 (x333 + (if v513.1 < x511 then v513.1 else x511)))))), (12, .ref 3 [] 1 0 (List.length x510)), (13, .vw [] (.int .i64 x334)), (14, .vw [] (.int .i64 ((if v513.1 < x511 then v513.1 else x511)))), (77, .ref 3 [] 1 0 (List.length x510)), (78, .vw [] (.int .i64 ((List.length x510 : Int)))), (79, .vw [] (.int .i64 x550))]) (ts := [some (.ptr (.agg [.int .i64 v513.2])), some (.ptr (.agg [.ints .i64 ([]), .int .i64 ((0 : Int)), .int .i64 ((0 : Int))])), some (.ptr (.agg [.ints .i64 v515, .int .i64 v516, .int .i64 ((if (w64 (x334 - x550)) > x549 then (w64 (x334 - x550)) else x549))])), some (.ints .i64 x510)]) (n := 4) rfl rfl rfl rfl) (joinQ_n (if (w64 (x334 - x550)) > x549 then (w64 (x334 - x550)) else x549) h (gc_to [1, 2, 3] rfl rfl rfl rfl))))
                    · refine wp_cf rfl hc599 ?_
                      exact wp_skip (blkQ_n (gcQ_n (gc_to [1, 2, 3] (e := [(0, .vw [] (.ints .i64 p0)), (1, .fn 52 [.ptr 0 [] (some 0)]), (2, .fn 53 []), (6, .ptr 1 [] (some 0)), (8, .ptr 2 [] (some 0)), (9, .vw [] (.int .i64 ((w64 (x511 - (if v513.1 < x511 then v513.1 else x511)))))), (10, .vw [] (.int .i64 x512)), (11, .vw [] (.int .i64 ((w64 (x333 + (if v513.1 < x511 then v513.1 else x511)))))), (12, .ref 3 [] 1 0 (List.length x510)), (13, .vw [] (.int .i64 x334)), (14, .vw [] (.int .i64 ((if v513.1 < x511 then v513.1 else x511)))), (77, .ref 3 [] 1 0 (List.length x510)), (78, .vw [] (.int .i64 ((List.length x510 : Int)))), (79, .vw [] (.int .i64 x550))]) (ts := [some (.ptr (.agg [.int .i64 v513.2])), some (.ptr (.agg [.ints .i64 ([]), .int .i64 ((0 : Int)), .int .i64 ((0 : Int))])), some (.ptr (.agg [.ints .i64 v515, .int .i64 v516, .int .i64 x549])), some (.ints .i64 x510)]) (n := 4) rfl rfl rfl rfl) (joinQ_n x549 h (gc_to [1, 2, 3] rfl rfl rfl rfl))))
                  · obtain ⟨v602, hv602, h⟩ := bs h
                    rcases its h with ⟨hc603, h⟩ | ⟨hc603, h⟩
                    · rcases its h with ⟨hc604, h⟩ | ⟨hc604, h⟩
                      · obtain ⟨v605, hv605, h⟩ := bs h
                        exact wp_reg (nx' := 356) rfl (ev_den (.vw _ _) rfl rfl (ev_den (.vw _ _) rfl rfl (ev_den (.pv _ _) rfl (d_idx_vi rfl rfl hv602) (ev_den (.vw _ _) rfl rfl (ev_den (.vw _ _) rfl rfl (ev_den (.vw _ _) rfl rfl (ev_on rfl hc603 (ev_den (.vw _ _) rfl rfl (ev_on rfl hc603 (ev_den (.vw _ _) rfl rfl (ev_on rfl hc603 (ev_den (.vw _ _) rfl rfl (ev_den (.vw _ _) rfl (d_pick_t rfl hc603 rfl) (ev_den (.vw _ _) rfl rfl (ev_on rfl hc604 (ev_den (.vw _ _) rfl rfl (ev_on rfl hc604 (ev_den (.vw _ _) rfl rfl (ev_on rfl hc604 (ev_den (.vw _ _) rfl rfl (ev_on rfl hc604 (ev_den (.vw [] (.int .i64 v605)) rfl (d_as_i rfl (Option.some.inj hv605)) (ev_on rfl hc604 (ev_den (.vw _ _) rfl rfl (ev_den (.vw _ _) rfl (d_pick_t rfl hc604 rfl) (ev_nil)))))))))))))))))))))))))) (joinQ_n (decide (v593 > v605)) h (gc_to [1, 2, 3] rfl rfl rfl rfl))
                      · exact wp_reg (nx' := 356) rfl (ev_den (.vw _ _) rfl rfl (ev_den (.vw _ _) rfl rfl (ev_den (.pv _ _) rfl (d_idx_vi rfl rfl hv602) (ev_den (.vw _ _) rfl rfl (ev_den (.vw _ _) rfl rfl (ev_den (.vw _ _) rfl rfl (ev_on rfl hc603 (ev_den (.vw _ _) rfl rfl (ev_on rfl hc603 (ev_den (.vw _ _) rfl rfl (ev_on rfl hc603 (ev_den (.vw _ _) rfl rfl (ev_den (.vw _ _) rfl (d_pick_t rfl hc603 rfl) (ev_den (.vw _ _) rfl rfl (ev_off rfl hc604 (ev_off rfl hc604 (ev_off rfl hc604 (ev_off rfl hc604 (ev_off rfl hc604 (ev_den (.vw _ _) rfl (d_pick_f rfl hc604 rfl) (ev_nil))))))))))))))))))))) (joinQ_n false h (gc_to [1, 2, 3] rfl rfl rfl rfl))
                    · exact wp_reg (nx' := 356) rfl (ev_den (.vw _ _) rfl rfl (ev_den (.vw _ _) rfl rfl (ev_den (.pv _ _) rfl (d_idx_vi rfl rfl hv602) (ev_den (.vw _ _) rfl rfl (ev_den (.vw _ _) rfl rfl (ev_den (.vw _ _) rfl rfl (ev_off rfl hc603 (ev_off rfl hc603 (ev_off rfl hc603 (ev_den (.vw _ _) rfl (d_pick_f rfl hc603 rfl) (ev_den (.vw _ _) rfl rfl (ev_off rfl rfl (ev_off rfl rfl (ev_off rfl rfl (ev_off rfl rfl (ev_off rfl rfl (ev_den (.vw _ _) rfl (d_pick_f rfl rfl rfl) (ev_nil)))))))))))))))))) (joinQ_n false h (gc_to [1, 2, 3] rfl rfl rfl rfl))
              · refine wp_cf rfl hc575 ?_
                replace h := Option.some.inj h
                subst h
                exact wp_exit (gcQ_e (seqQ_e (gcQ_e (loopQ_e (And.intro rfl (gc_to [1, 2, 3] (e := [(0, .vw [] (.ints .i64 p0)), (1, .fn 52 [.ptr 0 [] (some 0)]), (2, .fn 53 []), (6, .ptr 1 [] (some 0)), (8, .ptr 2 [] (some 0)), (9, .vw [] (.int .i64 ((w64 (x511 - (if v513.1 < x511 then v513.1 else x511)))))), (10, .vw [] (.int .i64 x512)), (11, .vw [] (.int .i64 ((w64 (x333 + (if v513.1 < x511 then v513.1 else x511)))))), (12, .ref 3 [] 1 0 (List.length x510)), (13, .vw [] (.int .i64 x334))]) (ts := [some (.ptr (.agg [.int .i64 v513.2])), some (.ptr (.agg [.ints .i64 ([]), .int .i64 ((0 : Int)), .int .i64 ((0 : Int))])), some (.ptr (.agg [.ints .i64 v515, .int .i64 v516, .int .i64 x549])), some (.ints .i64 x510)]) (n := 4) rfl rfl rfl rfl))))))
            · intro e st610 hg610
              obtain ⟨rfl, hg610⟩ := hg610
              refine blkQ_h (gcQ_n hg610 (blkQ_n (gcQ_n (gc_to [1, 2, 3] (e := [(0, .vw [] (.ints .i64 p0)), (1, .fn 52 [.ptr 0 [] (some 0)]), (2, .fn 53 []), (6, .ptr 1 [] (some 0)), (8, .ptr 2 [] (some 0)), (9, .vw [] (.int .i64 ((w64 (x511 - (if v513.1 < x511 then v513.1 else x511)))))), (10, .vw [] (.int .i64 x512)), (11, .vw [] (.int .i64 ((w64 (x333 + (if v513.1 < x511 then v513.1 else x511)))))), (12, .ref 3 [] 1 0 (List.length x510)), (13, .vw [] (.int .i64 x334))]) (ts := [some (.ptr (.agg [.int .i64 v513.2])), some (.ptr (.agg [.ints .i64 ([]), .int .i64 ((0 : Int)), .int .i64 ((0 : Int))])), some (.ptr (.agg [.ints .i64 v515, .int .i64 v516, .int .i64 x562])), some (.ints .i64 x510)]) (n := 4) rfl rfl rfl rfl) (gcQ_n (gc_to [1, 2, 3] (e := [(0, .vw [] (.ints .i64 p0)), (1, .fn 52 [.ptr 0 [] (some 0)]), (2, .fn 53 []), (6, .ptr 1 [] (some 0)), (8, .ptr 2 [] (some 0)), (9, .vw [] (.int .i64 ((w64 (x511 - (if v513.1 < x511 then v513.1 else x511)))))), (10, .vw [] (.int .i64 x512)), (11, .vw [] (.int .i64 ((w64 (x333 + (if v513.1 < x511 then v513.1 else x511)))))), (12, .ref 3 [] 1 0 (List.length x510)), (13, .vw [] (.int .i64 x334))]) (ts := [some (.ptr (.agg [.int .i64 v513.2])), some (.ptr (.agg [.ints .i64 ([]), .int .i64 ((0 : Int)), .int .i64 ((0 : Int))])), some (.ptr (.agg [.ints .i64 v515, .int .i64 v516, .int .i64 x562])), some (.ints .i64 x510)]) (n := 4) rfl rfl rfl rfl) (seqQ_n (?_))))))
              replace h := Option.some.inj h
              subst h
              exact wp_reg (nx' := 52) rfl (ev_den (.vw _ _) rfl rfl (ev_den (.vw _ _) rfl rfl (ev_den (.vw _ _) rfl rfl (ev_nil)))) (gcQ_n (gc_to [1, 2, 3] (e := [(0, .vw [] (.ints .i64 p0)), (1, .fn 52 [.ptr 0 [] (some 0)]), (2, .fn 53 []), (6, .ptr 1 [] (some 0)), (8, .ptr 2 [] (some 0)), (9, .vw [] (.int .i64 ((w64 (x511 - (if v513.1 < x511 then v513.1 else x511)))))), (10, .vw [] (.int .i64 x512)), (11, .vw [] (.int .i64 ((w64 (x333 + (if v513.1 < x511 then v513.1 else x511)))))), (12, .ref 3 [] 1 0 (List.length x510)), (13, .vw [] (.int .i64 ((w64 (x334 + (1 : Int))))))]) (ts := [some (.ptr (.agg [.int .i64 v513.2])), some (.ptr (.agg [.ints .i64 ([]), .int .i64 ((0 : Int)), .int .i64 ((0 : Int))])), some (.ptr (.agg [.ints .i64 v515, .int .i64 v516, .int .i64 x562])), some (.ints .i64 x510)]) (n := 4) rfl rfl rfl rfl) (loopQ_n rfl))
          · refine wp_seq ?_
            refine wp_reg (nx' := 68) rfl (ev_den (.vw _ _) rfl rfl (ev_den (.vw _ _) rfl rfl (ev_den (.vw _ _) rfl rfl (ev_den (.vw _ _) rfl rfl (ev_nil))))) (seqQ_n (?_))
            rcases its h with ⟨hc620, h⟩ | ⟨hc620, h⟩
            · refine wp_ct rfl hc620 ?_
              refine wp_seq ?_
              obtain ⟨v621, hv621, h⟩ := bs h
              refine wp_reg (nx' := 292) rfl (ev_den (.vw _ _) rfl rfl (ev_den (.vw _ _) rfl rfl (ev_den (.vw _ _) rfl rfl (ev_den (.pv _ _) rfl (d_idx_vi rfl rfl hv621) (ev_den (.vw _ _) rfl rfl (ev_den (.vw _ _) rfl rfl (ev_den (.vw _ _) rfl rfl (ev_den (.vw _ _) rfl rfl (ev_den (.vw _ _) rfl rfl (ev_den (.pv _ _) rfl (d_idx_vi rfl rfl hv621) (ev_den (.vw _ _) rfl rfl (ev_den (.vw _ _) rfl rfl (ev_den (.vw _ _) rfl rfl (ev_den (.vw _ _) rfl rfl (ev_nil))))))))))))))) (seqQ_n (?_))
              obtain ⟨v622, hv622, h⟩ := bs h
              exact wp_reg (nx' := 372) rfl (ev_den (.ref 3 _ _ _ _) rfl rfl (ev_den (.vw _ _) rfl rfl (ev_den (.vw _ _) rfl rfl (ev_wr rfl (w_app_i (xv := (.ref 3 _ _ _ _)) 3 rfl rfl (abs_ref rfl sub_i) hv622 rfl) (ev_den (.ref 3 _ _ _ _) rfl rfl (ev_nil)))))) (joinQ_n (v622, (w64 (x331 + v621)), (w64 (x332 + v621))) h (gc_to [1, 2, 3] rfl rfl rfl rfl))
            · refine wp_cf rfl hc620 ?_
              exact wp_skip (joinQ_n (x330, x331, x332) h (gc_to [1, 2, 3] rfl rfl rfl rfl))
      · refine wp_cf rfl hc436 ?_
        replace h := Option.some.inj h
        subst h
        exact wp_exit (gcQ_e (seqQ_e (gcQ_e (loopQ_e (And.intro rfl (gc_to [1, 2] (e := [(6, .ptr 1 [] (some 0)), (8, .ptr 2 [] (some 0))]) (ts := [some (.ptr (.agg [.int .i64 x326])), some (.ptr (.agg [.ints .i64 ([]), .int .i64 ((0 : Int)), .int .i64 ((0 : Int))])), some (.ptr (.agg [.ints .i64 x327, .int .i64 x328, .int .i64 x329]))]) (n := 3) rfl rfl rfl rfl))))))
    · rcases its h with ⟨hc633, h⟩ | ⟨hc633, h⟩
      · exact wp_reg (nx' := 132) rfl (ev_den (.vw _ _) rfl rfl (ev_den (.vw _ _) rfl rfl (ev_den (.vw _ _) rfl rfl (ev_den (.vw _ _) rfl rfl (ev_den (.vw _ _) rfl rfl (ev_off rfl hc633 (ev_off rfl hc633 (ev_den (.vw _ _) rfl (d_pick_t rfl hc633 rfl) (ev_nil))))))))) (joinQ_n true h (gc_to [1, 2, 3] rfl rfl rfl rfl))
      · exact wp_reg (nx' := 132) rfl (ev_den (.vw _ _) rfl rfl (ev_den (.vw _ _) rfl rfl (ev_den (.vw _ _) rfl rfl (ev_den (.vw _ _) rfl rfl (ev_den (.vw _ _) rfl rfl (ev_on rfl hc633 (ev_den (.vw _ _) rfl rfl (ev_on rfl hc633 (ev_den (.vw _ _) rfl rfl (ev_den (.vw _ _) rfl (d_pick_f rfl hc633 rfl) (ev_nil))))))))))) (joinQ_n (decide (x331 > (0 : Int))) h (gc_to [1, 2, 3] rfl rfl rfl rfl))
  · intro e st636 hg636
    rcases w636 with ⟨x381, x382, x383, x384⟩ | r637
    · obtain ⟨rfl, hg636⟩ := hg636
      refine blkQ_h (gcQ_n hg636 (gcQ_n (gc_to [1, 2] (e := [(6, .ptr 1 [] (some 0)), (8, .ptr 2 [] (some 0))]) (ts := [some (.ptr (.agg [.int .i64 x381])), some (.ptr (.agg [.ints .i64 ([]), .int .i64 ((0 : Int)), .int .i64 ((0 : Int))])), some (.ptr (.agg [.ints .i64 x382, .int .i64 x383, .int .i64 x384]))]) (n := 3) rfl rfl rfl rfl) (seqQ_n (?_))))
      refine wp_seq ?_
      refine wp_reg (nx' := 51) rfl (ev_den (.agg [(.ref 2 [.f 0] _ _ _), (.vw _ _), (.vw _ _)]) rfl (d_ld_os rfl (rget_of rfl (get_nil)) rfl (cells_cons rfl (cells_cons rfl (cells_cons rfl (cells_nil))))) (ev_wr0 rfl (w_st_a rfl rfl rfl (stL_cons (st1_of (abs_refp (r := .ptr (.agg [.ints .i64 x382, .int .i64 x383, .int .i64 x384])) rfl (get_f rfl (get_nil)) sub_i (rput_p (put_f rfl (put_nil)))) rfl rfl (get_f rfl (get_nil)) rfl (rput_p (put_f rfl (put_nil)))) rfl (stL_cons (st1_of rfl rfl rfl (get_f rfl (get_nil)) rfl (rput_p (put_f rfl (put_nil)))) rfl (stL_cons (st1_of rfl rfl rfl (get_f rfl (get_nil)) rfl (rput_p (put_f rfl (put_nil)))) rfl (stL_nil))))) (ev_den (.vw _ _) rfl rfl (ev_nil)))) (seqQ_n (?_))
      replace h := Option.some.inj h
      subst h
      exact wp_ret (qf_r ((outs_ok (vs := [(.agg [(.ref 1 [.f 0] _ _ _), (.vw _ _), (.vw _ _)]), (.vw _ _)]) rfl (absW_cons (retT_agg (absW_cons (ret1_ref (abs_refp (r := .ptr (.agg [.ints .i64 x382, .int .i64 x383, .int .i64 x384])) rfl (get_f rfl (get_nil)) sub_i (rput_p (put_f rfl (put_nil))))) rfl (absW_cons rfl rfl (absW_cons rfl rfl (absW_nil))))) rfl (absW_cons rfl rfl (absW_nil))) rfl rfl)))
    · obtain ⟨rfl, hg636⟩ := hg636
      replace h := Option.some.inj h
      subst h
      exact blkQ_r (gcQ_r (gcQ_r (seqQ_r (qf_r (hg636)))))
noncomputable def impl_LeakOf_j1 (p0 : Int) (p1 : List Int) : Bool → Option (((List Int) × Bool)) := fun x15 =>
if x15 = true then
some ([], false)
else
(impl_sent_v1 p1 p0).bind fun v17 =>
some (v17.1.1.1, v17.1.2)
/-- loop.example/g01176/impl.LeakOf -/
noncomputable def impl_LeakOf (p0 : Int) (p1 : List Int) : Option (((List Int) × Bool)) :=
(impl_isRate p0).bind fun v18 =>
if (!v18) = true then
impl_LeakOf_j1 p0 p1 true
else
(impl_IsTraffic p1).bind fun v21 =>
impl_LeakOf_j1 p0 p1 (!v21)
theorem impl_LeakOf_ok {p0 : Int} {p1 : List Int} {o : ((List Int) × Bool)} (h : impl_LeakOf p0 p1 = some o) : RN 18 [.int .i64 p0, .ints .i64 p1] [] = some (.tup [.ints .i64 o.1, .bool o.2], []) := by
  refine fn_run (o := o) (nr := 0) (F := k18) (st := ⟨entry 0 [.vw [] (.int .i64 p0), .vw [] (.ints .i64 p1)], fun n => ([] : List T)[n]?, 0⟩) (fun (o : ((List Int) × Bool)) => (.tup [.ints .i64 o.1, .bool o.2], [])) rfl fns_18 rfl rfl ?_
  refine wp_seq ?_
  refine wp_reg (nx' := 48) rfl (ev_wr rfl (w_box (sv := (.vw _ _)) rfl rfl (absW_cons rfl rfl (absW_nil))) (ev_new (.ref 16 [] 1 0 0) (.ints .i64 []) rfl rfl (ev_den (.vw _ _) rfl rfl (ev_nil)))) (seqQ_n (?_))
  refine wp_seq ?_
  refine wp_gc ?_
  refine wp_seq ?_
  refine wp_join (impl_LeakOf_j1 p0 p1) (fun (x15 : Bool) => (⟨al .dead [(1, .vw [] (.ints .i64 p1)), (2, .ptr 0 [] (some 0)), (15, .vw [] (.bool x15))], hl [some (.ptr (.agg [.int .i64 p0]))], 1⟩ : St)) ?_ ?_
  · rintro x15 o h
    unfold impl_LeakOf_j1 at h
    refine seqQ_n (?_)
    rcases its h with ⟨hc16, h⟩ | ⟨hc16, h⟩
    · refine wp_ct rfl hc16 ?_
      refine wp_seq ?_
      refine wp_reg (nx' := 33) rfl (ev_new (.ref 1 [] 1 0 0) (.ints .i64 []) rfl rfl (ev_den (.vw _ _) rfl rfl (ev_nil))) (seqQ_n (?_))
      replace h := Option.some.inj h
      subst h
      exact wp_ret (gcQ_r (seqQ_r (qf_r ((outs_ok (vs := [(.ref 1 _ _ _ _), (.vw _ _)]) rfl (absW_cons (retT_ref (abs_ref rfl sub_i)) rfl (absW_cons rfl rfl (absW_nil))) rfl rfl)))))
    · refine wp_cf rfl hc16 ?_
      refine wp_skip (gcQ_n (gc_to [0] (e := [(1, .vw [] (.ints .i64 p1)), (2, .ptr 0 [] (some 0))]) (ts := [some (.ptr (.agg [.int .i64 p0]))]) (n := 1) rfl rfl rfl rfl) (seqQ_n (?_)))
      refine wp_seq ?_
      obtain ⟨v17, hv17, h⟩ := bs h
      refine wp_reg (nx' := 145) rfl (ev_den (.vw _ _) rfl rfl (ev_den (.fn 52 [(.ptr 0 [] (some 0))]) rfl rfl (ev_call1 [(.vw _ _), (.fn 52 [(.ptr 0 [] (some 0))]), (.fn 53 [])] rfl (call_ok (rs := [0]) (rd := []) rfl rfl rfl rfl (argL_cons rfl (argL_cons (argT_f (argL_cons rfl (argL_nil))) (argL_cons (argT_f (argL_nil)) (argL_nil)))) rfl rfl (impl_sent_v1_ok hv17) rfl rfl rfl (bindR_t (bindL_cons (bindR_a (bindL_cons rfl (bindL_cons rfl (bindL_cons rfl (bindL_nil))))) (bindL_cons rfl (bindL_nil)))) rfl) (ev_den (.tup [(.agg [(.ref 33 _ _ _ _), (.vw _ _), (.vw _ _)]), (.vw _ _)]) rfl rfl (ev_den (.agg [(.ref 33 _ _ _ _), (.vw _ _), (.vw _ _)]) rfl rfl (ev_den (.vw _ _) rfl rfl (ev_new (.ptr 97 [] (some 0)) (.ptr (.agg [.ints .i64 ([]), .int .i64 ((0 : Int)), .int .i64 ((0 : Int))])) rfl rfl (ev_wr0 rfl (w_st_a rfl rfl rfl (stL_cons (st1_of (abs_ref rfl sub_i) rfl rfl (get_f rfl (get_nil)) rfl (rput_p (put_f rfl (put_nil)))) rfl (stL_cons (st1_of rfl rfl rfl (get_f rfl (get_nil)) rfl (rput_p (put_f rfl (put_nil)))) rfl (stL_cons (st1_of rfl rfl rfl (get_f rfl (get_nil)) rfl (rput_p (put_f rfl (put_nil)))) rfl (stL_nil))))) (ev_den (.vw _ _) rfl rfl (ev_nil)))))))))) (seqQ_n (?_))
      refine wp_seq ?_
      refine wp_reg (nx' := 225) rfl (ev_den (.ptr 97 [] (some 0)) rfl rfl (ev_den (.ref 97 [.f 0] _ _ _) rfl (d_ld_o rfl (rget_of rfl (get_nil)) rfl rfl) (ev_den (.vw _ _) rfl rfl (ev_den (.ref 97 [.f 0] _ _ _) rfl rfl (ev_den (.vw _ _) rfl rfl (ev_nil)))))) (seqQ_n (?_))
      replace h := Option.some.inj h
      subst h
      exact wp_ret (qf_r ((outs_ok (vs := [(.ref 97 [.f 0] _ _ _), (.vw _ _)]) rfl (absW_cons (retT_ref (abs_refp (r := .ptr (.agg [.ints .i64 v17.1.1.1, .int .i64 v17.1.1.2.1, .int .i64 v17.1.1.2.2])) rfl (get_f rfl (get_nil)) sub_i (rput_p (put_f rfl (put_nil))))) rfl (absW_cons rfl rfl (absW_nil))) rfl rfl)))
  · obtain ⟨v18, hv18, h⟩ := bs h
    rcases its h with ⟨hc19, h⟩ | ⟨hc19, h⟩
    · exact wp_reg (nx' := 176) rfl (ev_den (.vw _ _) rfl (d_ld_o rfl (rget_of rfl (get_nil)) rfl rfl) (ev_call0 [(.vw _ _)] rfl (call_ok (rs := []) (rd := []) rfl rfl rfl rfl (argL_cons rfl (argL_nil)) rfl rfl (impl_isRate_ok hv18) rfl rfl rfl rfl rfl) (ev_den (.vw _ _) rfl rfl (ev_den (.vw _ _) rfl rfl (ev_off rfl hc19 (ev_off rfl hc19 (ev_off rfl hc19 (ev_den (.vw _ _) rfl (d_pick_t rfl hc19 rfl) (ev_nil))))))))) (joinQ_n true h (gc_to [0] rfl rfl rfl rfl))
    · obtain ⟨v21, hv21, h⟩ := bs h
      exact wp_reg (nx' := 176) rfl (ev_den (.vw _ _) rfl (d_ld_o rfl (rget_of rfl (get_nil)) rfl rfl) (ev_call0 [(.vw _ _)] rfl (call_ok (rs := []) (rd := []) rfl rfl rfl rfl (argL_cons rfl (argL_nil)) rfl rfl (impl_isRate_ok hv18) rfl rfl rfl rfl rfl) (ev_den (.vw _ _) rfl rfl (ev_den (.vw _ _) rfl rfl (ev_on rfl hc19 (ev_den (.vw _ _) rfl rfl (ev_on rfl hc19 (ev_call0 [(.vw _ _)] rfl (call_ok (rs := []) (rd := []) rfl rfl rfl rfl (argL_cons rfl (argL_nil)) rfl rfl (impl_IsTraffic_ok hv21) rfl rfl rfl rfl rfl) (ev_on rfl hc19 (ev_den (.vw _ _) rfl rfl (ev_den (.vw _ _) rfl (d_pick_f rfl hc19 rfl) (ev_nil)))))))))))) (joinQ_n (!v21) h (gc_to [0] rfl rfl rfl rfl))
/-- loop.example/g01176/spec.shRate -/
noncomputable def spec_shRate (p0 : Int) : Option Bool :=
(spec_l1In p0 ((1 : Int)) ((100 : Int))).bind fun v2 =>
some v2
theorem spec_shRate_ok {p0 : Int} {o : Bool} (h : spec_shRate p0 = some o) : RN 54 [.int .i64 p0] [] = some (.bool o, []) := by
  refine fn_run (o := o) (nr := 0) (F := k54) (st := ⟨entry 0 [.vw [] (.int .i64 p0)], fun n => ([] : List T)[n]?, 0⟩) (fun (o : Bool) => (.bool o, [])) rfl fns_54 rfl rfl ?_
  refine wp_seq ?_
  refine wp_reg (nx' := 16) rfl (ev_den (.vw _ _) rfl rfl (ev_nil)) (seqQ_n (?_))
  refine wp_seq ?_
  obtain ⟨v2, hv2, h⟩ := bs h
  refine wp_reg (nx' := 64) rfl (ev_den (.vw _ _) rfl rfl (ev_call0 [(.vw _ _), (.vw _ _), (.vw _ _)] rfl (call_ok (rs := []) (rd := []) rfl rfl rfl rfl (argL_cons rfl (argL_cons rfl (argL_cons rfl (argL_nil)))) rfl rfl (spec_l1In_ok hv2) rfl rfl rfl rfl rfl) (ev_den (.vw _ _) rfl rfl (ev_nil)))) (seqQ_n (?_))
  replace h := Option.some.inj h
  subst h
  exact wp_ret (qf_r ((outs_ok (vs := [(.vw _ _)]) rfl (absW_cons rfl rfl (absW_nil)) rfl rfl)))
noncomputable def spec_LeakOf_j1 (p0 : Int) (p1 : List Int) : Bool → Option (((List Int) × Bool)) := fun x15 =>
if x15 = true then
some ([], false)
else
(spec_shSend p0 p0 p1).bind fun v17 =>
some (v17.1, v17.2.2)
/-- loop.example/g01176/spec.LeakOf -/
noncomputable def spec_LeakOf (p0 : Int) (p1 : List Int) : Option (((List Int) × Bool)) :=
(spec_shRate p0).bind fun v18 =>
if (!v18) = true then
spec_LeakOf_j1 p0 p1 true
else
(spec_shTraffic p1).bind fun v21 =>
spec_LeakOf_j1 p0 p1 (!v21)
theorem spec_LeakOf_ok {p0 : Int} {p1 : List Int} {o : ((List Int) × Bool)} (h : spec_LeakOf p0 p1 = some o) : RN 19 [.int .i64 p0, .ints .i64 p1] [] = some (.tup [.ints .i64 o.1, .bool o.2], []) := by
  refine fn_run (o := o) (nr := 0) (F := k19) (st := ⟨entry 0 [.vw [] (.int .i64 p0), .vw [] (.ints .i64 p1)], fun n => ([] : List T)[n]?, 0⟩) (fun (o : ((List Int) × Bool)) => (.tup [.ints .i64 o.1, .bool o.2], [])) rfl fns_19 rfl rfl ?_
  refine wp_seq ?_
  refine wp_reg (nx' := 32) rfl (ev_new (.ref 0 [] 1 0 0) (.ints .i64 []) rfl rfl (ev_den (.vw _ _) rfl rfl (ev_nil))) (seqQ_n (?_))
  refine wp_seq ?_
  refine wp_gc ?_
  refine wp_seq ?_
  refine wp_join (spec_LeakOf_j1 p0 p1) (fun (x15 : Bool) => (⟨al .dead [(0, .vw [] (.int .i64 p0)), (1, .vw [] (.ints .i64 p1)), (16, .vw [] (.bool x15))], hl [], 0⟩ : St)) ?_ ?_
  · rintro x15 o h
    unfold spec_LeakOf_j1 at h
    refine seqQ_n (?_)
    rcases its h with ⟨hc16, h⟩ | ⟨hc16, h⟩
    · refine wp_ct rfl hc16 ?_
      refine wp_seq ?_
      refine wp_reg (nx' := 32) rfl (ev_new (.ref 0 [] 1 0 0) (.ints .i64 []) rfl rfl (ev_den (.vw _ _) rfl rfl (ev_nil))) (seqQ_n (?_))
      replace h := Option.some.inj h
      subst h
      exact wp_ret (gcQ_r (seqQ_r (qf_r ((outs_ok (vs := [(.ref 0 _ _ _ _), (.vw _ _)]) rfl (absW_cons (retT_ref (abs_ref rfl sub_i)) rfl (absW_cons rfl rfl (absW_nil))) rfl rfl)))))
    · refine wp_cf rfl hc16 ?_
      refine wp_skip (gcQ_n (gc_to [] (e := [(0, .vw [] (.int .i64 p0)), (1, .vw [] (.ints .i64 p1))]) (ts := []) (n := 0) rfl rfl rfl rfl) (seqQ_n (?_)))
      refine wp_seq ?_
      obtain ⟨v17, hv17, h⟩ := bs h
      refine wp_reg (nx' := 176) rfl (ev_den (.vw _ _) rfl rfl (ev_den (.vw _ _) rfl rfl (ev_den (.vw _ _) rfl rfl (ev_call0 [(.vw _ _), (.vw _ _), (.vw _ _)] rfl (call_ok (rs := []) (rd := []) rfl rfl rfl rfl (argL_cons rfl (argL_cons rfl (argL_cons rfl (argL_nil)))) rfl rfl (spec_shSend_ok hv17) rfl rfl rfl (bindR_t (bindL_cons rfl (bindL_cons rfl (bindL_cons rfl (bindL_nil))))) rfl) (ev_den (.tup [(.ref 48 _ _ _ _), (.ref 49 _ _ _ _), (.vw _ _)]) rfl rfl (ev_den (.ref 48 _ _ _ _) rfl rfl (ev_den (.ref 49 _ _ _ _) rfl rfl (ev_den (.vw _ _) rfl rfl (ev_den (.ref 48 _ _ _ _) rfl rfl (ev_den (.ref 49 _ _ _ _) rfl rfl (ev_den (.vw _ _) rfl rfl (ev_nil)))))))))))) (seqQ_n (?_))
      refine wp_seq ?_
      refine wp_reg (nx' := 240) rfl (ev_den (.ref 48 _ _ _ _) rfl rfl (ev_den (.vw _ _) rfl rfl (ev_den (.ref 48 _ _ _ _) rfl rfl (ev_den (.vw _ _) rfl rfl (ev_nil))))) (seqQ_n (?_))
      replace h := Option.some.inj h
      subst h
      exact wp_ret (qf_r ((outs_ok (vs := [(.ref 48 _ _ _ _), (.vw _ _)]) rfl (absW_cons (retT_ref (abs_ref rfl sub_i)) rfl (absW_cons rfl rfl (absW_nil))) rfl rfl)))
  · obtain ⟨v18, hv18, h⟩ := bs h
    rcases its h with ⟨hc19, h⟩ | ⟨hc19, h⟩
    · exact wp_reg (nx' := 160) rfl (ev_den (.vw _ _) rfl rfl (ev_call0 [(.vw _ _)] rfl (call_ok (rs := []) (rd := []) rfl rfl rfl rfl (argL_cons rfl (argL_nil)) rfl rfl (spec_shRate_ok hv18) rfl rfl rfl rfl rfl) (ev_den (.vw _ _) rfl rfl (ev_den (.vw _ _) rfl rfl (ev_off rfl hc19 (ev_off rfl hc19 (ev_off rfl hc19 (ev_den (.vw _ _) rfl (d_pick_t rfl hc19 rfl) (ev_nil))))))))) (joinQ_n true h (gc_to [] rfl rfl rfl rfl))
    · obtain ⟨v21, hv21, h⟩ := bs h
      exact wp_reg (nx' := 160) rfl (ev_den (.vw _ _) rfl rfl (ev_call0 [(.vw _ _)] rfl (call_ok (rs := []) (rd := []) rfl rfl rfl rfl (argL_cons rfl (argL_nil)) rfl rfl (spec_shRate_ok hv18) rfl rfl rfl rfl rfl) (ev_den (.vw _ _) rfl rfl (ev_den (.vw _ _) rfl rfl (ev_on rfl hc19 (ev_den (.vw _ _) rfl rfl (ev_on rfl hc19 (ev_call0 [(.vw _ _)] rfl (call_ok (rs := []) (rd := []) rfl rfl rfl rfl (argL_cons rfl (argL_nil)) rfl rfl (spec_shTraffic_ok hv21) rfl rfl rfl rfl rfl) (ev_on rfl hc19 (ev_den (.vw _ _) rfl rfl (ev_den (.vw _ _) rfl (d_pick_f rfl hc19 rfl) (ev_nil)))))))))))) (joinQ_n (!v21) h (gc_to [] rfl rfl rfl rfl))
end Go.Proofs.Ythecknnmfghilaa.Ev.Q3
