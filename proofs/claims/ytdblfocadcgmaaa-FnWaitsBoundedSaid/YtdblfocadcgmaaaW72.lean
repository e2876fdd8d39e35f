/- What functions of the program come to, as plain functions; no condition. -/
import Derived.Test.YtdblfocadcgmaaaW71
set_option linter.unusedVariables false
set_option linter.unusedSimpArgs false
set_option maxRecDepth 100000
set_option maxHeartbeats 4000000
set_option linter.unusedVariables false
namespace Go.Proofs.Ytdblfocadcgmaaa.Ev.W7
open Go
noncomputable def slices_Index_s1 (p0 : List Int) (p1 : Int) : Int → Option (Int ⊕ (Unit ⊕ Int)) := fun x28 =>
if (decide (x28 < (List.length p0 : Int))) = true then
(at? p0 x28).bind fun v43 =>
if (p1 == v43) = true then
some (.inr (.inr x28))
else
some (.inl ((w64 (x28 + (1 : Int)))))
else
some (.inr (.inl ()))
noncomputable def slices_Index_l1 (p0 : List Int) (p1 : Int) : Int → Option (Unit ⊕ Int) := iter (slices_Index_s1 p0 p1)
noncomputable def slices_Index (p0 : List Int) (p1 : Int) : Option Int :=
(slices_Index_l1 p0 p1 (0 : Int)).bind fun w => match w with
| .inl _ =>
some (-1 : Int)
| .inr r47 =>
some r47
theorem slices_Index_ok {p0 : List Int} {p1 : Int} {o : Int} (h : slices_Index p0 p1 = some o) : RN 85 [.ints .i64 p0, .int .i64 p1] [] = some (.int .i64 o, []) := by
 refine fn_run (o := o) (nr := 0) (F := k85) (st := ⟨entry 0 [.vw [] (.ints .i64 p0), .vw [] (.int .i64 p1)], fun n => ([] : List T)[n]?, 0⟩) (fun (o : Int) => (.int .i64 o, [])) z fns_85 z z z ?_
 refine wp_seq ?_
 refine wp_reg (nx' := 16) z (ev_v z z (ev_nil)) (seqQ_n (?_))
 refine wp_seq ?_
 refine wp_gc ?_
 refine wp_seq ?_
 refine wp_gc ?_
 refine wp_reg (nx' := 64) z (ev_v z z (ev_v z z (ev_v z z (ev_nil)))) (gcQ_n (gc_to [] (e := [(0, .vw [] (.ints .i64 p0)), (1, .vw [] (.int .i64 p1)), (7, .vw [] (.int .i64 ((List.length p0 : Int)))), (8, .vw [] (.int .i64 ((0 : Int))))]) (ts := []) (n := 0) z z z z) (seqQ_n (?_)))
 refine wp_gc ?_
 refine wp_blk ?_
 obtain ⟨w46, hw46, h⟩ := bs h
 refine wp_mono (wp_loop (fun (x28 : Int) => (⟨al .dead [(0, .vw [] (.ints .i64 p0)), (1, .vw [] (.int .i64 p1)), (7, .vw [] (.int .i64 ((List.length p0 : Int)))), (8, .vw [] (.int .i64 x28))], hl [], 0⟩ : St)) (fun (v : Unit ⊕ Int) e st => match v with | .inl _ => e = .exit 0 ∧ gc 0 [] st = ⟨al .dead [], hl [], 0⟩ | .inr rr => e = .ret ∧ outs 0 k85 st = some (.int .i64 rr, [])) hw46 ?_) ?_
 ·rintro x28 o h
  refine wp_gc ?_
  refine wp_seq ?_
  refine wp_reg (nx' := 16) z (ev_v z z (ev_nil)) (seqQ_n (?_))
  refine wp_seq ?_
  refine wp_gc ?_
  rcases its h with ⟨hc38, h⟩ | ⟨hc38, h⟩
  ·refine wp_ct z hc38 ?_
   refine wp_skip (gcQ_n (gc_to [] (e := [(0, .vw [] (.ints .i64 p0)), (1, .vw [] (.int .i64 p1)), (7, .vw [] (.int .i64 ((List.length p0 : Int)))), (8, .vw [] (.int .i64 x28))]) (ts := []) (n := 0) z z z z) (seqQ_n (?_)))
   refine wp_seq ?_
   refine wp_gc ?_
   refine wp_gc ?_
   refine wp_blk ?_
   refine wp_seq ?_
   refine wp_reg (nx' := 32) z (ev_v z z (ev_v z z (ev_nil))) (seqQ_n (?_))
   refine wp_seq ?_
   obtain ⟨v43, hv43, h⟩ := bs h
   refine wp_reg (nx' := 128) z (ev_v z z (ev_v z z (ev_v z z (ev_den (.pv _ _) z (d_idx_vi z z hv43) (ev_v z z (ev_v z z (ev_nil))))))) (seqQ_n (?_))
   rcases its h with ⟨hc44, h⟩ | ⟨hc44, h⟩
   ·refine wp_ct z hc44 ?_
    refine wp_seq ?_
    refine wp_reg (nx' := 160) z (ev_v z z (ev_v z z (ev_nil))) (seqQ_n (?_))
    replace h := Option.some.inj h
    subst h
    exact wp_ret (blkQ_r (gcQ_r (gcQ_r (seqQ_r (gcQ_r (loopQ_r (And.intro z (outs_ok (vs := [(.vw _ _)]) z (absW_cons z z (absW_nil)) z z))))))))
   ·refine wp_cf z hc44 ?_
    refine wp_skip (blkQ_n (gcQ_n (gc_to [] (e := [(0, .vw [] (.ints .i64 p0)), (1, .vw [] (.int .i64 p1)), (7, .vw [] (.int .i64 ((List.length p0 : Int)))), (8, .vw [] (.int .i64 x28))]) (ts := []) (n := 0) z z z z) (gcQ_n (gc_to [] (e := [(0, .vw [] (.ints .i64 p0)), (1, .vw [] (.int .i64 p1)), (7, .vw [] (.int .i64 ((List.length p0 : Int)))), (8, .vw [] (.int .i64 x28))]) (ts := []) (n := 0) z z z z) (seqQ_n (?_)))))
    replace h := Option.some.inj h
    subst h
    exact wp_reg (nx' := 32) z (ev_v z z (ev_v z z (ev_nil))) (gcQ_n (gc_to [] (e := [(0, .vw [] (.ints .i64 p0)), (1, .vw [] (.int .i64 p1)), (7, .vw [] (.int .i64 ((List.length p0 : Int)))), (8, .vw [] (.int .i64 ((w64 (x28 + (1 : Int))))))]) (ts := []) (n := 0) z z z z) (loopQ_n z))
  ·refine wp_cf z hc38 ?_
   replace h := Option.some.inj h
   subst h
   exact wp_exit (gcQ_e (seqQ_e (gcQ_e (loopQ_e (And.intro z (gc_to [] (e := []) (ts := []) (n := 0) z z z z))))))
 ·intro e st46 hg46
  rcases w46 with _ | r47
  ·obtain ⟨rfl, hg46⟩ := hg46
   refine blkQ_h (gcQ_n hg46 (gcQ_n (gc_to [] (e := []) (ts := []) (n := 0) z z z z) (seqQ_n (?_))))
   refine wp_seq ?_
   refine wp_reg (nx' := 16) z (ev_v z z (ev_nil)) (seqQ_n (?_))
   replace h := Option.some.inj h
   subst h
   exact wp_ret (qf_r ((outs_ok (vs := [(.vw _ _)]) z (absW_cons z z (absW_nil)) z z)))
  ·obtain ⟨rfl, hg46⟩ := hg46
   replace h := Option.some.inj h
   subst h
   exact blkQ_r (gcQ_r (gcQ_r (seqQ_r (qf_r (hg46)))))
noncomputable def slices_Contains (p0 : List Int) (p1 : Int) : Option Bool :=
(slices_Index p0 p1).bind fun v2 =>
some (decide (v2 ≥ (0 : Int)))
theorem slices_Contains_ok {p0 : List Int} {p1 : Int} {o : Bool} (h : slices_Contains p0 p1 = some o) : RN 75 [.ints .i64 p0, .int .i64 p1] [] = some (.bool o, []) := by
 refine fn_run (o := o) (nr := 0) (F := k75) (st := ⟨entry 0 [.vw [] (.ints .i64 p0), .vw [] (.int .i64 p1)], fun n => ([] : List T)[n]?, 0⟩) (fun (o : Bool) => (.bool o, [])) z fns_75 z z z ?_
 refine wp_seq ?_
 refine wp_reg (nx' := 16) z (ev_v z z (ev_nil)) (seqQ_n (?_))
 refine wp_seq ?_
 obtain ⟨v2, hv2, h⟩ := bs h
 refine wp_reg (nx' := 96) z (ev_v z z (ev_v z z (ev_call0 [(.vw _ _), (.vw _ _)] z (call_okf (vs' := [(.vw _ _), (.vw _ _)]) z (call_ok (rs := []) (rd := []) z z z z (argL_cons z (argL_cons z (argL_nil))) z z (slices_Index_ok hv2) z z z z z)) (ev_v z z (ev_v z z (ev_nil)))))) (seqQ_n (?_))
 replace h := Option.some.inj h
 subst h
 exact wp_ret (qf_r ((outs_ok (vs := [(.vw _ _)]) z (absW_cons z z (absW_nil)) z z)))
noncomputable def impl_walker_visit_j2 (x105 : Int) : ((List Int) × Int) → Option (((List Int) × Int × Int) ⊕ ((List Int) × Int)) := fun (x146, x147) =>
some (.inl (x146, x147, (w64 (x105 + (1 : Int)))))
noncomputable def impl_walker_visit_j3 (c0 : Int × Int × Int × (List (Int × Int × Int)) × Int × Int × (List Int)) (x103 : List Int) (x104 : Int) (x105 : Int) : Bool → Option (((List Int) × Int × Int) ⊕ ((List Int) × Int)) := fun x164 =>
if x164 = true then
(at? x103 x105).bind fun v166 =>
impl_walker_visit_j2 x105 ((List.set x103 (Int.toNat x105) ((w64 (c0.2.2.2.2.1 + x104)))), (w64 (x104 + (1 : Int))))
else
impl_walker_visit_j2 x105 (x103, x104)
noncomputable def impl_walker_visit_s1 (c0 : Int × Int × Int × (List (Int × Int × Int)) × Int × Int × (List Int)) : ((List Int) × Int × Int) → Option (((List Int) × Int × Int) ⊕ ((List Int) × Int)) := fun (x103, x104, x105) =>
if (decide (x105 < (List.length c0.2.2.2.1 : Int))) = true then
(at? c0.2.2.2.1 x105).bind fun v159 =>
if (v159.2.1 == c0.2.2.2.2.2.1) = true then
if (decide (v159.1 ≤ c0.2.2.2.2.1)) = true then
(at? x103 x105).bind fun v173 =>
if (decide (v173 < (0 : Int))) = true then
impl_walker_visit_j3 c0 x103 x104 x105 (decide (x104 < c0.2.1))
else
impl_walker_visit_j3 c0 x103 x104 x105 false
else
impl_walker_visit_j3 c0 x103 x104 x105 false
else
impl_walker_visit_j3 c0 x103 x104 x105 false
else
some (.inr (x103, x104))
noncomputable def impl_walker_visit_l1 (c0 : Int × Int × Int × (List (Int × Int × Int)) × Int × Int × (List Int)) : ((List Int) × Int × Int) → Option ((List Int) × Int) := iter (impl_walker_visit_s1 c0)
noncomputable def impl_walker_visit (c0 : Int × Int × Int × (List (Int × Int × Int)) × Int × Int × (List Int)) : Option ((List Int) × (Int × Int × Int × (List (Int × Int × Int)) × Int × Int × (List Int))) :=
(impl_walker_visit_l1 c0 (c0.2.2.2.2.2.2, (0 : Int), (0 : Int))).bind fun (x120, x121) =>
(nz? c0.1).bind fun u182 =>
some (([c0.2.2.2.2.1, c0.2.2.2.2.2.1, x121] : List Int), (c0.1, c0.2.1, c0.2.2.1, c0.2.2.2.1, (w64 (c0.2.2.2.2.1 + (w64 (x121 + c0.2.2.1)))), (Int.tmod (w64 (c0.2.2.2.2.2.1 + (1 : Int))) c0.1), x120))
theorem impl_walker_visit_ok {c0 : Int × Int × Int × (List (Int × Int × Int)) × Int × Int × (List Int)} {o : (List Int) × (Int × Int × Int × (List (Int × Int × Int)) × Int × Int × (List Int))} (h : impl_walker_visit c0 = some o) : RN 63 [.ref 0] [.ptr (.agg [.int .i64 c0.1, .int .i64 c0.2.1, .int .i64 c0.2.2.1, .sh (.rows 3 (List.map e0 c0.2.2.2.1)), .int .i64 c0.2.2.2.2.1, .int .i64 c0.2.2.2.2.2.1, .ints .i64 c0.2.2.2.2.2.2])] = some (.ints .i64 o.1, [.ptr (.agg [.int .i64 o.2.1, .int .i64 o.2.2.1, .int .i64 o.2.2.2.1, .sh (.rows 3 (List.map e0 o.2.2.2.2.1)), .int .i64 o.2.2.2.2.2.1, .int .i64 o.2.2.2.2.2.2.1, .ints .i64 o.2.2.2.2.2.2.2])]) := by
 refine fn_run (o := o) (nr := 1) (F := k63) (st := ⟨entry 0 [.ptr 0 [] (some 0)], fun n => ([.ptr (.agg [.int .i64 c0.1, .int .i64 c0.2.1, .int .i64 c0.2.2.1, .sh (.rows 3 (List.map e0 c0.2.2.2.1)), .int .i64 c0.2.2.2.2.1, .int .i64 c0.2.2.2.2.2.1, .ints .i64 c0.2.2.2.2.2.2])] : List T)[n]?, 1⟩) (fun (o : (List Int) × (Int × Int × Int × (List (Int × Int × Int)) × Int × Int × (List Int))) => (.ints .i64 o.1, [.ptr (.agg [.int .i64 o.2.1, .int .i64 o.2.2.1, .int .i64 o.2.2.2.1, .sh (.rows 3 (List.map e0 o.2.2.2.2.1)), .int .i64 o.2.2.2.2.2.1, .int .i64 o.2.2.2.2.2.2.1, .ints .i64 o.2.2.2.2.2.2.2])])) z fns_63 z z z ?_
 refine wp_seq ?_
 refine wp_reg (nx' := 17) z (ev_new (.ref 1 [] 1 0 0) (.ints .i64 []) z z (ev_nil)) (seqQ_n (?_))
 refine wp_seq ?_
 refine wp_reg (nx' := 33) z (ev_v z z (ev_nil)) (seqQ_n (?_))
 refine wp_seq ?_
 refine wp_gc ?_
 refine wp_seq ?_
 refine wp_gc ?_
 refine wp_reg (nx' := 129) z (ev_den (.ptr 0 [] (some 0)) z z (ev_den (.ptr 0 [] (some 0)) z z (ev_den (.ptr 0 [] (some 3)) z z (ev_v z (d_ld_o z (rget_of z (get_nil)) z z) (ev_v z (d_len_vr (e := e0) z) (ev_v z z (ev_nil))))))) (gcQ_n (gc_to [] (e := [(0, .ptr 0 [] (some 0)), (3, .vw [] (.int .i64 ((0 : Int)))), (10, .vw [] (.rows 3 (List.map e0 c0.2.2.2.1))), (11, .vw [] (.int .i64 ((List.length c0.2.2.2.1 : Int)))), (12, .vw [] (.int .i64 ((0 : Int))))]) (ts := [some (.ptr (.agg [.int .i64 c0.1, .int .i64 c0.2.1, .int .i64 c0.2.2.1, .sh (.rows 3 (List.map e0 c0.2.2.2.1)), .int .i64 c0.2.2.2.2.1, .int .i64 c0.2.2.2.2.2.1, .ints .i64 c0.2.2.2.2.2.2]))]) (n := 1) z z z z) (seqQ_n (?_)))
 refine wp_gc ?_
 refine wp_blk ?_
 obtain ⟨w181, hw181, h⟩ := bs h
 refine wp_mono (wp_loop (fun ((x103, x104, x105) : (List Int) × Int × Int) => (⟨al .dead [(0, .ptr 0 [] (some 0)), (3, .vw [] (.int .i64 x104)), (10, .vw [] (.rows 3 (List.map e0 c0.2.2.2.1))), (11, .vw [] (.int .i64 ((List.length c0.2.2.2.1 : Int)))), (12, .vw [] (.int .i64 x105))], hl [some (.ptr (.agg [.int .i64 c0.1, .int .i64 c0.2.1, .int .i64 c0.2.2.1, .sh (.rows 3 (List.map e0 c0.2.2.2.1)), .int .i64 c0.2.2.2.2.1, .int .i64 c0.2.2.2.2.2.1, .ints .i64 x103]))], 1⟩ : St)) (fun ((x120, x121) : (List Int) × Int) e st => e = .exit 0 ∧ gc 1 [0, 3] st = ⟨al .dead [(0, .ptr 0 [] (some 0)), (3, .vw [] (.int .i64 x121))], hl [some (.ptr (.agg [.int .i64 c0.1, .int .i64 c0.2.1, .int .i64 c0.2.2.1, .sh (.rows 3 (List.map e0 c0.2.2.2.1)), .int .i64 c0.2.2.2.2.1, .int .i64 c0.2.2.2.2.2.1, .ints .i64 x120]))], 1⟩) hw181 ?_) ?_
 ·rintro ⟨x103, x104, x105⟩ o h
  refine wp_gc ?_
  refine wp_seq ?_
  refine wp_reg (nx' := 17) z (ev_v z z (ev_nil)) (seqQ_n (?_))
  refine wp_seq ?_
  refine wp_gc ?_
  rcases its h with ⟨hc137, h⟩ | ⟨hc137, h⟩
  ·refine wp_ct z hc137 ?_
   refine wp_skip (gcQ_n (gc_to [] (e := [(0, .ptr 0 [] (some 0)), (3, .vw [] (.int .i64 x104)), (10, .vw [] (.rows 3 (List.map e0 c0.2.2.2.1))), (11, .vw [] (.int .i64 ((List.length c0.2.2.2.1 : Int)))), (12, .vw [] (.int .i64 x105))]) (ts := [some (.ptr (.agg [.int .i64 c0.1, .int .i64 c0.2.1, .int .i64 c0.2.2.1, .sh (.rows 3 (List.map e0 c0.2.2.2.1)), .int .i64 c0.2.2.2.2.1, .int .i64 c0.2.2.2.2.2.1, .ints .i64 x103]))]) (n := 1) z z z z) (seqQ_n (?_)))
   refine wp_seq ?_
   refine wp_join (impl_walker_visit_j2 x105) (fun ((x146, x147) : (List Int) × Int) => (⟨al .dead [(0, .ptr 0 [] (some 0)), (3, .vw [] (.int .i64 x147)), (10, .vw [] (.rows 3 (List.map e0 c0.2.2.2.1))), (11, .vw [] (.int .i64 ((List.length c0.2.2.2.1 : Int)))), (12, .vw [] (.int .i64 x105))], hl [some (.ptr (.agg [.int .i64 c0.1, .int .i64 c0.2.1, .int .i64 c0.2.2.1, .sh (.rows 3 (List.map e0 c0.2.2.2.1)), .int .i64 c0.2.2.2.2.1, .int .i64 c0.2.2.2.2.2.1, .ints .i64 x146]))], 1⟩ : St)) ?_ ?_
   ·rintro ⟨x146, x147⟩ o h
    unfold impl_walker_visit_j2 at h
    refine seqQ_n (?_)
    replace h := Option.some.inj h
    subst h
    exact wp_reg (nx' := 33) z (ev_v z z (ev_v z z (ev_nil))) (gcQ_n (gc_to [] (e := [(0, .ptr 0 [] (some 0)), (3, .vw [] (.int .i64 x147)), (10, .vw [] (.rows 3 (List.map e0 c0.2.2.2.1))), (11, .vw [] (.int .i64 ((List.length c0.2.2.2.1 : Int)))), (12, .vw [] (.int .i64 ((w64 (x105 + (1 : Int))))))]) (ts := [some (.ptr (.agg [.int .i64 c0.1, .int .i64 c0.2.1, .int .i64 c0.2.2.1, .sh (.rows 3 (List.map e0 c0.2.2.2.1)), .int .i64 c0.2.2.2.2.1, .int .i64 c0.2.2.2.2.2.1, .ints .i64 x146]))]) (n := 1) z z z z) (loopQ_n z))
   ·refine wp_gc ?_
    refine wp_blk ?_
    refine wp_seq ?_
    obtain ⟨v159, hv159, h⟩ := bs h
    refine wp_reg (nx' := 97) z (ev_v z z (ev_den (.pv _ _) z (d_idx_vr e0 z z hv159) (ev_den (.agg [(.vw _ _), (.vw _ _), (.vw _ _)]) z z (ev_new (.ptr 49 [] (some 0)) (.ptr (.agg [.int .i64 ((0 : Int)), .int .i64 ((0 : Int)), .int .i64 ((0 : Int))])) z z (ev_v z z (ev_wr0 z (w_st_a z z z (stL_cons (st1_of z z z (get_f z (get_nil)) z (rput_p (put_f z (put_nil)))) z (stL_cons (st1_of z z z (get_f z (get_nil)) z (rput_p (put_f z (put_nil)))) z (stL_cons (st1_of z z z (get_f z (get_nil)) z (rput_p (put_f z (put_nil)))) z (stL_nil))))) (ev_nil))))))) (seqQ_n (?_))
    refine wp_seq ?_
    refine wp_join (impl_walker_visit_j3 c0 x103 x104 x105) (fun (x164 : Bool) => (⟨al .dead [(0, .ptr 0 [] (some 0)), (3, .vw [] (.int .i64 x104)), (4, .vw [] (.int .i64 x105)), (10, .vw [] (.rows 3 (List.map e0 c0.2.2.2.1))), (11, .vw [] (.int .i64 ((List.length c0.2.2.2.1 : Int)))), (12, .vw [] (.int .i64 x105)), (51, .vw [] (.bool x164))], hl [some (.ptr (.agg [.int .i64 c0.1, .int .i64 c0.2.1, .int .i64 c0.2.2.1, .sh (.rows 3 (List.map e0 c0.2.2.2.1)), .int .i64 c0.2.2.2.2.1, .int .i64 c0.2.2.2.2.2.1, .ints .i64 x103]))], 1⟩ : St)) ?_ ?_
    ·rintro x164 o h
     unfold impl_walker_visit_j3 at h
     refine seqQ_n (?_)
     rcases its h with ⟨hc165, h⟩ | ⟨hc165, h⟩
     ·refine wp_ct z hc165 ?_
      refine wp_seq ?_
      obtain ⟨v166, hv166, h⟩ := bs h
      refine wp_reg (nx' := 209) z (ev_den (.ptr 0 [] (some 0)) z z (ev_den (.ptr 0 [] (some 0)) z z (ev_den (.ptr 0 [] (some 6)) z z (ev_den (.ref 0 [.f 6] _ _ _) z (d_ld_o z (rget_of z (get_nil)) z z) (ev_v z z (ev_den (.ptr 0 [] (some 0)) z z (ev_den (.ptr 0 [] (some 0)) z z (ev_den (.ptr 0 [] (some 4)) z z (ev_v z (d_ld_o z (rget_of z (get_nil)) z z) (ev_v z z (ev_v z z (ev_den (.ptr 0 [.f 6, .e (Int.toNat x105)] none) z (d_idx_r (p := [.f 6]) z z hv166) (ev_wr0 z (w_st_p z (st1_of z z z (get_f z (get_i hv166)) z (rput_p (put_f z (put_i hv166))))) (ev_nil)))))))))))))) (seqQ_n (?_))
      exact wp_reg (nx' := 257) z (ev_v z z (ev_v z z (ev_v z z (ev_nil)))) (blkQ_n (gcQ_n (gc_to [] (e := [(0, .ptr 0 [] (some 0)), (3, .vw [] (.int .i64 ((w64 (x104 + (1 : Int)))))), (10, .vw [] (.rows 3 (List.map e0 c0.2.2.2.1))), (11, .vw [] (.int .i64 ((List.length c0.2.2.2.1 : Int)))), (12, .vw [] (.int .i64 x105))]) (ts := [some (.ptr (.agg [.int .i64 c0.1, .int .i64 c0.2.1, .int .i64 c0.2.2.1, .sh (.rows 3 (List.map e0 c0.2.2.2.1)), .int .i64 c0.2.2.2.2.1, .int .i64 c0.2.2.2.2.2.1, .ints .i64 ((List.set x103 (Int.toNat x105) ((w64 (c0.2.2.2.2.1 + x104)))))]))]) (n := 1) z z z z) (joinQ_n ((List.set x103 (Int.toNat x105) ((w64 (c0.2.2.2.2.1 + x104)))), (w64 (x104 + (1 : Int)))) h (gc_to [] z z z z))))
     ·refine wp_cf z hc165 ?_
      exact wp_skip (blkQ_n (gcQ_n (gc_to [] (e := [(0, .ptr 0 [] (some 0)), (3, .vw [] (.int .i64 x104)), (10, .vw [] (.rows 3 (List.map e0 c0.2.2.2.1))), (11, .vw [] (.int .i64 ((List.length c0.2.2.2.1 : Int)))), (12, .vw [] (.int .i64 x105))]) (ts := [some (.ptr (.agg [.int .i64 c0.1, .int .i64 c0.2.1, .int .i64 c0.2.2.1, .sh (.rows 3 (List.map e0 c0.2.2.2.1)), .int .i64 c0.2.2.2.2.1, .int .i64 c0.2.2.2.2.2.1, .ints .i64 x103]))]) (n := 1) z z z z) (joinQ_n (x103, x104) h (gc_to [] z z z z))))
    ·rcases its h with ⟨hc171, h⟩ | ⟨hc171, h⟩
     ·rcases its h with ⟨hc172, h⟩ | ⟨hc172, h⟩
      ·obtain ⟨v173, hv173, h⟩ := bs h
       rcases its h with ⟨hc174, h⟩ | ⟨hc174, h⟩
       ·exact wp_reg (nx' := 657) z (ev_den (.ptr 49 [] (some 1)) z z (ev_v z (d_ld_o z (rget_of z (get_nil)) z z) (ev_den (.ptr 0 [] (some 0)) z z (ev_den (.ptr 0 [] (some 0)) z z (ev_den (.ptr 0 [] (some 5)) z z (ev_v z (d_ld_o z (rget_of z (get_nil)) z z) (ev_v z z (ev_v z z (ev_on z hc171 (ev_den (.ptr 49 [] (some 0)) z z (ev_on z hc171 (ev_v z (d_ld_o z (rget_of z (get_nil)) z z) (ev_on z hc171 (ev_den (.ptr 0 [] (some 0)) z z (ev_on z hc171 (ev_den (.ptr 0 [] (some 0)) z z (ev_on z hc171 (ev_den (.ptr 0 [] (some 4)) z z (ev_on z hc171 (ev_v z (d_ld_o z (rget_of z (get_nil)) z z) (ev_on z hc171 (ev_v z z (ev_v z (d_pick_t z hc171 z) (ev_v z z (ev_on z hc172 (ev_den (.ptr 0 [] (some 0)) z z (ev_on z hc172 (ev_den (.ptr 0 [] (some 0)) z z (ev_on z hc172 (ev_den (.ptr 0 [] (some 6)) z z (ev_on z hc172 (ev_den (.ref 0 [.f 6] _ _ _) z (d_ld_o z (rget_of z (get_nil)) z z) (ev_on z hc172 (ev_v z z (ev_on z hc172 (ev_den (.ptr 0 [.f 6, .e (Int.toNat x105)] none) z (d_idx_r (p := [.f 6]) z z hv173) (ev_on z hc172 (ev_v z (d_ld_p z (rget_of z (get_f z (get_i hv173))) z) (ev_on z hc172 (ev_v z z (ev_v z (d_pick_t z hc172 z) (ev_v z z (ev_on z hc174 (ev_v z z (ev_on z hc174 (ev_den (.ptr 0 [] (some 0)) z z (ev_on z hc174 (ev_den (.ptr 0 [] (some 0)) z z (ev_on z hc174 (ev_den (.ptr 0 [] (some 0)) z z (ev_on z hc174 (ev_den (.ptr 0 [] (some 1)) z z (ev_on z hc174 (ev_v z (d_ld_o z (rget_of z (get_nil)) z z) (ev_on z hc174 (ev_v z z (ev_v z (d_pick_t z hc174 z) (ev_nil)))))))))))))))))))))))))))))))))))))))))))))))))))))))))) (joinQ_n (decide (x104 < c0.2.1)) h (gc_to [] z z z z))
       ·exact wp_reg (nx' := 657) z (ev_den (.ptr 49 [] (some 1)) z z (ev_v z (d_ld_o z (rget_of z (get_nil)) z z) (ev_den (.ptr 0 [] (some 0)) z z (ev_den (.ptr 0 [] (some 0)) z z (ev_den (.ptr 0 [] (some 5)) z z (ev_v z (d_ld_o z (rget_of z (get_nil)) z z) (ev_v z z (ev_v z z (ev_on z hc171 (ev_den (.ptr 49 [] (some 0)) z z (ev_on z hc171 (ev_v z (d_ld_o z (rget_of z (get_nil)) z z) (ev_on z hc171 (ev_den (.ptr 0 [] (some 0)) z z (ev_on z hc171 (ev_den (.ptr 0 [] (some 0)) z z (ev_on z hc171 (ev_den (.ptr 0 [] (some 4)) z z (ev_on z hc171 (ev_v z (d_ld_o z (rget_of z (get_nil)) z z) (ev_on z hc171 (ev_v z z (ev_v z (d_pick_t z hc171 z) (ev_v z z (ev_on z hc172 (ev_den (.ptr 0 [] (some 0)) z z (ev_on z hc172 (ev_den (.ptr 0 [] (some 0)) z z (ev_on z hc172 (ev_den (.ptr 0 [] (some 6)) z z (ev_on z hc172 (ev_den (.ref 0 [.f 6] _ _ _) z (d_ld_o z (rget_of z (get_nil)) z z) (ev_on z hc172 (ev_v z z (ev_on z hc172 (ev_den (.ptr 0 [.f 6, .e (Int.toNat x105)] none) z (d_idx_r (p := [.f 6]) z z hv173) (ev_on z hc172 (ev_v z (d_ld_p z (rget_of z (get_f z (get_i hv173))) z) (ev_on z hc172 (ev_v z z (ev_v z (d_pick_t z hc172 z) (ev_v z z (ev_off z hc174 (ev_off z hc174 (ev_off z hc174 (ev_off z hc174 (ev_off z hc174 (ev_off z hc174 (ev_off z hc174 (ev_v z (d_pick_f z hc174 z) (ev_nil))))))))))))))))))))))))))))))))))))))))))))))))))) (joinQ_n false h (gc_to [] z z z z))
      ·exact wp_reg (nx' := 657) z (ev_den (.ptr 49 [] (some 1)) z z (ev_v z (d_ld_o z (rget_of z (get_nil)) z z) (ev_den (.ptr 0 [] (some 0)) z z (ev_den (.ptr 0 [] (some 0)) z z (ev_den (.ptr 0 [] (some 5)) z z (ev_v z (d_ld_o z (rget_of z (get_nil)) z z) (ev_v z z (ev_v z z (ev_on z hc171 (ev_den (.ptr 49 [] (some 0)) z z (ev_on z hc171 (ev_v z (d_ld_o z (rget_of z (get_nil)) z z) (ev_on z hc171 (ev_den (.ptr 0 [] (some 0)) z z (ev_on z hc171 (ev_den (.ptr 0 [] (some 0)) z z (ev_on z hc171 (ev_den (.ptr 0 [] (some 4)) z z (ev_on z hc171 (ev_v z (d_ld_o z (rget_of z (get_nil)) z z) (ev_on z hc171 (ev_v z z (ev_v z (d_pick_t z hc171 z) (ev_v z z (ev_off z hc172 (ev_off z hc172 (ev_off z hc172 (ev_off z hc172 (ev_off z hc172 (ev_off z hc172 (ev_off z hc172 (ev_off z hc172 (ev_v z (d_pick_f z hc172 z) (ev_v z z (ev_off z z (ev_off z z (ev_off z z (ev_off z z (ev_off z z (ev_off z z (ev_off z z (ev_v z (d_pick_f z z z) (ev_nil))))))))))))))))))))))))))))))))))))))))))) (joinQ_n false h (gc_to [] z z z z))
     ·exact wp_reg (nx' := 657) z (ev_den (.ptr 49 [] (some 1)) z z (ev_v z (d_ld_o z (rget_of z (get_nil)) z z) (ev_den (.ptr 0 [] (some 0)) z z (ev_den (.ptr 0 [] (some 0)) z z (ev_den (.ptr 0 [] (some 5)) z z (ev_v z (d_ld_o z (rget_of z (get_nil)) z z) (ev_v z z (ev_v z z (ev_off z hc171 (ev_off z hc171 (ev_off z hc171 (ev_off z hc171 (ev_off z hc171 (ev_off z hc171 (ev_off z hc171 (ev_v z (d_pick_f z hc171 z) (ev_v z z (ev_off z z (ev_off z z (ev_off z z (ev_off z z (ev_off z z (ev_off z z (ev_off z z (ev_off z z (ev_v z (d_pick_f z z z) (ev_v z z (ev_off z z (ev_off z z (ev_off z z (ev_off z z (ev_off z z (ev_off z z (ev_off z z (ev_v z (d_pick_f z z z) (ev_nil)))))))))))))))))))))))))))))))))))) (joinQ_n false h (gc_to [] z z z z))
  ·refine wp_cf z hc137 ?_
   replace h := Option.some.inj h
   subst h
   exact wp_exit (gcQ_e (seqQ_e (gcQ_e (loopQ_e (And.intro z (gc_to [] (e := [(0, .ptr 0 [] (some 0)), (3, .vw [] (.int .i64 x104))]) (ts := [some (.ptr (.agg [.int .i64 c0.1, .int .i64 c0.2.1, .int .i64 c0.2.2.1, .sh (.rows 3 (List.map e0 c0.2.2.2.1)), .int .i64 c0.2.2.2.2.1, .int .i64 c0.2.2.2.2.2.1, .ints .i64 x103]))]) (n := 1) z z z z))))))
 ·intro e st181 hg181
  obtain ⟨x120, x121⟩ := w181
  obtain ⟨rfl, hg181⟩ := hg181
  refine blkQ_h (gcQ_n hg181 (gcQ_n (gc_to [] (e := [(0, .ptr 0 [] (some 0)), (3, .vw [] (.int .i64 x121))]) (ts := [some (.ptr (.agg [.int .i64 c0.1, .int .i64 c0.2.1, .int .i64 c0.2.2.1, .sh (.rows 3 (List.map e0 c0.2.2.2.1)), .int .i64 c0.2.2.2.2.1, .int .i64 c0.2.2.2.2.2.1, .ints .i64 x120]))]) (n := 1) z z z z) (seqQ_n (?_))))
  refine wp_seq ?_
  refine wp_reg (nx' := 177) z (ev_den (.ptr 0 [] (some 0)) z z (ev_den (.ptr 0 [] (some 0)) z z (ev_den (.ptr 0 [] (some 4)) z z (ev_v z (d_ld_o z (rget_of z (get_nil)) z z) (ev_den (.ptr 0 [] (some 0)) z z (ev_den (.ptr 0 [] (some 0)) z z (ev_den (.ptr 0 [] (some 5)) z z (ev_v z (d_ld_o z (rget_of z (get_nil)) z z) (ev_v z z (ev_new (.ref 145 [] 1 0 3) (.ints .i64 (([c0.2.2.2.2.1, c0.2.2.2.2.2.1, x121] : List Int))) z z (ev_den (.ref 145 _ _ _ _) z z (ev_nil)))))))))))) (seqQ_n (?_))
  refine wp_seq ?_
  refine wp_reg (nx' := 417) z (ev_den (.ptr 0 [] (some 0)) z z (ev_den (.ptr 0 [] (some 0)) z z (ev_den (.ptr 0 [] (some 4)) z z (ev_v z (d_ld_o z (rget_of z (get_nil)) z z) (ev_v z z (ev_den (.ptr 0 [] (some 0)) z z (ev_den (.ptr 0 [] (some 0)) z z (ev_den (.ptr 0 [] (some 0)) z z (ev_den (.ptr 0 [] (some 2)) z z (ev_v z (d_ld_o z (rget_of z (get_nil)) z z) (ev_v z z (ev_v z z (ev_den (.ptr 0 [] (some 0)) z z (ev_den (.ptr 0 [] (some 4)) z z (ev_wr0 z (w_st_o z z (st1_of z z z (get_f z (get_nil)) z (rput_p (put_f z (put_nil))))) (ev_nil)))))))))))))))) (seqQ_n (?_))
  refine wp_seq ?_
  obtain ⟨u182, hu182, h⟩ := bs h
  refine wp_reg (nx' := 657) z (ev_den (.ptr 0 [] (some 0)) z z (ev_den (.ptr 0 [] (some 0)) z z (ev_den (.ptr 0 [] (some 0)) z z (ev_den (.ptr 0 [] (some 5)) z z (ev_v z (d_ld_o z (rget_of z (get_nil)) z z) (ev_v z z (ev_den (.ptr 0 [] (some 0)) z z (ev_den (.ptr 0 [] (some 0)) z z (ev_den (.ptr 0 [] (some 0)) z z (ev_den (.ptr 0 [] (some 0)) z z (ev_v z (d_ld_o z (rget_of z (get_nil)) z z) (ev_v z (d_rem z z hu182) (ev_den (.ptr 0 [] (some 0)) z z (ev_den (.ptr 0 [] (some 5)) z z (ev_wr0 z (w_st_o z z (st1_of z z z (get_f z (get_nil)) z (rput_p (put_f z (put_nil))))) (ev_nil)))))))))))))))) (seqQ_n (?_))
  refine wp_seq ?_
  refine wp_reg (nx' := 689) z (ev_den (.ref 145 _ _ _ _) z z (ev_den (.ref 145 _ _ _ _) z z (ev_nil))) (seqQ_n (?_))
  replace h := Option.some.inj h
  subst h
  exact wp_ret (qf_r ((outs_ok (vs := [(.ref 145 _ _ _ _)]) z (absW_cons (retT_ref (abs_ref z (sub_i (xs := ([c0.2.2.2.2.1, c0.2.2.2.2.2.1, x121] : List Int))))) z (absW_nil)) z z)))
noncomputable def impl_starts_s1 : (Int × Int × Int × (List (Int × Int × Int)) × Int × Int × (List Int)) → Option ((Int × Int × Int × (List (Int × Int × Int)) × Int × Int × (List Int)) ⊕ (Int × Int × Int × (List (Int × Int × Int)) × Int × Int × (List Int))) := fun (x88, x89, x90, x91, x92, x93, x94) =>
(slices_Contains x94 ((-1 : Int))).bind fun v124 =>
if v124 = true then
(impl_walker_visit ((x88, x89, x90, x91, x92, x93, x94))).bind fun v127 =>
some (.inl (v127.2.1, v127.2.2.1, v127.2.2.2.1, v127.2.2.2.2.1, v127.2.2.2.2.2.1, v127.2.2.2.2.2.2.1, v127.2.2.2.2.2.2.2))
else
some (.inr (x88, x89, x90, x91, x92, x93, x94))
noncomputable def impl_starts_l1 : (Int × Int × Int × (List (Int × Int × Int)) × Int × Int × (List Int)) → Option (Int × Int × Int × (List (Int × Int × Int)) × Int × Int × (List Int)) := iter (impl_starts_s1)
noncomputable def impl_starts (p0 : Int × Int × Int) (p1 : List (Int × Int × Int)) : Option ((List Int)) :=
(impl_newWalker p0 p1).bind fun v30 =>
(impl_starts_l1 (v30.1, v30.2.1, v30.2.2.1, v30.2.2.2.1, v30.2.2.2.2.1, v30.2.2.2.2.2.1, v30.2.2.2.2.2.2)).bind fun (x105, x106, x107, x108, x109, x110, x111) =>
some x111
theorem impl_starts_ok {p0 : Int × Int × Int} {p1 : List (Int × Int × Int)} {o : (List Int)} (h : impl_starts p0 p1 = some o) : RN 53 [.agg [.int .i64 p0.1, .int .i64 p0.2.1, .int .i64 p0.2.2], .rows 3 (List.map e0 p1)] [] = some (.ints .i64 o, []) := by
 refine fn_run (o := o) (nr := 0) (F := k53) (st := ⟨entry 0 [.agg [.vw [] (.int .i64 p0.1), .vw [] (.int .i64 p0.2.1), .vw [] (.int .i64 p0.2.2)], .vw [] (.rows 3 (List.map e0 p1))], fun n => ([] : List T)[n]?, 0⟩) (fun (o : (List Int)) => (.ints .i64 o, [])) z fns_53 z z z ?_
 refine wp_seq ?_
 refine wp_reg (nx' := 32) z (ev_wr z (w_box (sv := (.agg [(.vw _ _), (.vw _ _), (.vw _ _)])) z z (absW_cons z z (absW_cons z z (absW_cons z z (absW_nil))))) (ev_new (.ref 16 [] 1 0 0) (.ints .i64 []) z z (ev_nil))) (seqQ_n (?_))
 refine wp_seq ?_
 refine wp_gc ?_
 obtain ⟨v30, hv30, h⟩ := bs h
 refine wp_reg (nx' := 96) z (ev_den (.agg [(.vw _ _), (.vw _ _), (.vw _ _)]) z (d_ld_os z (rget_of z (get_nil)) z (cells_cons z (cells_cons z (cells_cons z (cells_nil))))) (ev_v z z (ev_call0 [(.agg [(.vw _ _), (.vw _ _), (.vw _ _)]), (.vw _ _)] z (call_okf (vs' := [(.agg [(.vw _ _), (.vw _ _), (.vw _ _)]), (.vw _ _)]) z (call_ok (rs := []) (rd := []) z z z z (argL_cons (argT_a (argL_cons z (argL_cons z (argL_cons z (argL_nil))))) (argL_cons z (argL_nil))) z z (impl_newWalker_ok hv30) z z z z z)) (ev_den (.ptr 64 [] (some 0)) z z (ev_nil))))) (gcQ_n (gc_to [64] (e := [(5, .ptr 0 [] (some 0))]) (ts := [some (.ptr (.agg [.int .i64 v30.1, .int .i64 v30.2.1, .int .i64 v30.2.2.1, .sh (.rows 3 (List.map e0 v30.2.2.2.1)), .int .i64 v30.2.2.2.2.1, .int .i64 v30.2.2.2.2.2.1, .ints .i64 v30.2.2.2.2.2.2]))]) (n := 1) z z z z) (seqQ_n (?_)))
 refine wp_seq ?_
 refine wp_gc ?_
 refine wp_gc ?_
 refine wp_blk ?_
 obtain ⟨w142, hw142, h⟩ := bs h
 refine wp_mono (wp_loop (fun ((x88, x89, x90, x91, x92, x93, x94) : Int × Int × Int × (List (Int × Int × Int)) × Int × Int × (List Int)) => (⟨al .dead [(5, .ptr 0 [] (some 0))], hl [some (.ptr (.agg [.int .i64 x88, .int .i64 x89, .int .i64 x90, .sh (.rows 3 (List.map e0 x91)), .int .i64 x92, .int .i64 x93, .ints .i64 x94]))], 1⟩ : St)) (fun ((x105, x106, x107, x108, x109, x110, x111) : Int × Int × Int × (List (Int × Int × Int)) × Int × Int × (List Int)) e st => e = .exit 0 ∧ gc 0 [5] st = ⟨al .dead [(5, .ptr 0 [] (some 0))], hl [some (.ptr (.agg [.int .i64 x105, .int .i64 x106, .int .i64 x107, .sh (.rows 3 (List.map e0 x108)), .int .i64 x109, .int .i64 x110, .ints .i64 x111]))], 1⟩) hw142 ?_) ?_
 ·rintro ⟨x88, x89, x90, x91, x92, x93, x94⟩ o h
  refine wp_gc ?_
  refine wp_seq ?_
  refine wp_gc ?_
  refine wp_seq ?_
  obtain ⟨v124, hv124, h⟩ := bs h
  refine wp_reg (nx' := 81) z (ev_den (.ptr 0 [] (some 0)) z z (ev_den (.ptr 0 [] (some 0)) z z (ev_den (.ptr 0 [] (some 6)) z z (ev_den (.ref 0 [.f 6] _ _ _) z (d_ld_o z (rget_of z (get_nil)) z z) (ev_call0 [(.ref 0 [.f 6] _ _ _), (.vw _ _)] z (call_okf (vs' := [(.ref 0 [.f 6] _ _ _), (.vw _ _)]) z (call_ok (rs := []) (rd := [0]) z z z z (argL_cons (argT_r (rget_of z (get_f z (get_nil))) sub_i) (argL_cons z (argL_nil))) z z (slices_Contains_ok hv124) z z z z z)) (ev_nil)))))) (seqQ_n (?_))
  rcases its h with ⟨hc125, h⟩ | ⟨hc125, h⟩
  ·refine wp_ct z hc125 ?_
   refine wp_skip (gcQ_n (gc_to [0] (e := [(5, .ptr 0 [] (some 0))]) (ts := [some (.ptr (.agg [.int .i64 x88, .int .i64 x89, .int .i64 x90, .sh (.rows 3 (List.map e0 x91)), .int .i64 x92, .int .i64 x93, .ints .i64 x94]))]) (n := 1) z z z z) (seqQ_n (?_)))
   refine wp_gc ?_
   refine wp_blk ?_
   obtain ⟨v127, hv127, h⟩ := bs h
   replace h := Option.some.inj h
   subst h
   exact wp_reg (nx' := 33) z (ev_den (.ptr 0 [] (some 0)) z z (ev_call1 [(.ptr 0 [] (some 0))] z (call_okt (call_ok (rs := [0]) (rd := []) z z z z (argL_cons z (argL_nil)) z z (impl_walker_visit_ok hv127) z z z z z)) (ev_nil))) (blkQ_n (gcQ_n (gc_to [0] (e := [(5, .ptr 0 [] (some 0))]) (ts := [some (.ptr (.agg [.int .i64 v127.2.1, .int .i64 v127.2.2.1, .int .i64 v127.2.2.2.1, .sh (.rows 3 (List.map e0 v127.2.2.2.2.1)), .int .i64 v127.2.2.2.2.2.1, .int .i64 v127.2.2.2.2.2.2.1, .ints .i64 v127.2.2.2.2.2.2.2]))]) (n := 1) z z z z) (gcQ_n (gc_to [0] (e := [(5, .ptr 0 [] (some 0))]) (ts := [some (.ptr (.agg [.int .i64 v127.2.1, .int .i64 v127.2.2.1, .int .i64 v127.2.2.2.1, .sh (.rows 3 (List.map e0 v127.2.2.2.2.1)), .int .i64 v127.2.2.2.2.2.1, .int .i64 v127.2.2.2.2.2.2.1, .ints .i64 v127.2.2.2.2.2.2.2]))]) (n := 1) z z z z) (loopQ_n z))))
  ·refine wp_cf z hc125 ?_
   replace h := Option.some.inj h
   subst h
   exact wp_exit (gcQ_e (seqQ_e (gcQ_e (loopQ_e (And.intro z (gc_to [0] (e := [(5, .ptr 0 [] (some 0))]) (ts := [some (.ptr (.agg [.int .i64 x88, .int .i64 x89, .int .i64 x90, .sh (.rows 3 (List.map e0 x91)), .int .i64 x92, .int .i64 x93, .ints .i64 x94]))]) (n := 1) z z z z))))))
 ·intro e st142 hg142
  obtain ⟨x105, x106, x107, x108, x109, x110, x111⟩ := w142
  obtain ⟨rfl, hg142⟩ := hg142
  refine blkQ_h (gcQ_n hg142 (gcQ_n (gc_to [0] (e := [(5, .ptr 0 [] (some 0))]) (ts := [some (.ptr (.agg [.int .i64 x105, .int .i64 x106, .int .i64 x107, .sh (.rows 3 (List.map e0 x108)), .int .i64 x109, .int .i64 x110, .ints .i64 x111]))]) (n := 1) z z z z) (seqQ_n (?_))))
  refine wp_seq ?_
  refine wp_reg (nx' := 81) z (ev_den (.ptr 0 [] (some 0)) z z (ev_den (.ptr 0 [] (some 0)) z z (ev_den (.ptr 0 [] (some 6)) z z (ev_den (.ref 0 [.f 6] _ _ _) z (d_ld_o z (rget_of z (get_nil)) z z) (ev_den (.ref 0 [.f 6] _ _ _) z z (ev_nil)))))) (seqQ_n (?_))
  replace h := Option.some.inj h
  subst h
  exact wp_ret (qf_r ((outs_ok (vs := [(.ref 0 [.f 6] _ _ _)]) z (absW_cons (retT_ref (abs_refp (r := .ptr (.agg [.int .i64 x105, .int .i64 x106, .int .i64 x107, .sh (.rows 3 (List.map e0 x108)), .int .i64 x109, .int .i64 x110, .ints .i64 x111])) z (get_f z (get_nil)) sub_i (rput_p (put_f z (put_nil))))) z (absW_nil)) z z)))
noncomputable def impl_SentAt (p0 : Int × Int × Int) (p1 : List (Int × Int × Int)) : Option (((List Int) × Bool)) :=
(impl_isCalled p0 p1).bind fun v6 =>
if (!v6) = true then
some ([], false)
else
(impl_starts p0 p1).bind fun v8 =>
some (v8, true)
theorem impl_SentAt_ok {p0 : Int × Int × Int} {p1 : List (Int × Int × Int)} {o : ((List Int) × Bool)} (h : impl_SentAt p0 p1 = some o) : RN 11 [.agg [.int .i64 p0.1, .int .i64 p0.2.1, .int .i64 p0.2.2], .rows 3 (List.map e0 p1)] [] = some (.tup [.ints .i64 o.1, .bool o.2], []) := by
 refine fn_run (o := o) (nr := 0) (F := k11) (st := ⟨entry 0 [.agg [.vw [] (.int .i64 p0.1), .vw [] (.int .i64 p0.2.1), .vw [] (.int .i64 p0.2.2)], .vw [] (.rows 3 (List.map e0 p1))], fun n => ([] : List T)[n]?, 0⟩) (fun (o : ((List Int) × Bool)) => (.tup [.ints .i64 o.1, .bool o.2], [])) z fns_11 z z z ?_
 refine wp_seq ?_
 refine wp_reg (nx' := 48) z (ev_wr z (w_box (sv := (.agg [(.vw _ _), (.vw _ _), (.vw _ _)])) z z (absW_cons z z (absW_cons z z (absW_cons z z (absW_nil))))) (ev_new (.ref 16 [] 1 0 0) (.ints .i64 []) z z (ev_v z z (ev_nil)))) (seqQ_n (?_))
 refine wp_seq ?_
 refine wp_gc ?_
 refine wp_seq ?_
 obtain ⟨v6, hv6, h⟩ := bs h
 refine wp_reg (nx' := 112) z (ev_den (.agg [(.vw _ _), (.vw _ _), (.vw _ _)]) z (d_ld_os z (rget_of z (get_nil)) z (cells_cons z (cells_cons z (cells_cons z (cells_nil))))) (ev_v z z (ev_call0 [(.agg [(.vw _ _), (.vw _ _), (.vw _ _)]), (.vw _ _)] z (call_okf (vs' := [(.agg [(.vw _ _), (.vw _ _), (.vw _ _)]), (.vw _ _)]) z (call_ok (rs := []) (rd := []) z z z z (argL_cons (argT_a (argL_cons z (argL_cons z (argL_cons z (argL_nil))))) (argL_cons z (argL_nil))) z z (impl_isCalled_ok hv6) z z z z z)) (ev_v z z (ev_nil))))) (seqQ_n (?_))
 rcases its h with ⟨hc7, h⟩ | ⟨hc7, h⟩
 ·refine wp_ct z hc7 ?_
  refine wp_seq ?_
  refine wp_reg (nx' := 144) z (ev_new (.ref 112 [] 1 0 0) (.ints .i64 []) z z (ev_v z z (ev_nil))) (seqQ_n (?_))
  replace h := Option.some.inj h
  subst h
  exact wp_ret (gcQ_r (seqQ_r (qf_r ((outs_ok (vs := [(.ref 112 _ _ _ _), (.vw _ _)]) z (absW_cons (retT_ref (abs_ref z sub_i)) z (absW_cons z z (absW_nil))) z z)))))
 ·refine wp_cf z hc7 ?_
  refine wp_skip (gcQ_n (gc_to [0] (e := [(1, .vw [] (.rows 3 (List.map e0 p1))), (2, .ptr 0 [] (some 0))]) (ts := [some (.ptr (.agg [.int .i64 p0.1, .int .i64 p0.2.1, .int .i64 p0.2.2]))]) (n := 1) z z z z) (seqQ_n (?_)))
  refine wp_seq ?_
  obtain ⟨v8, hv8, h⟩ := bs h
  refine wp_reg (nx' := 81) z (ev_den (.agg [(.vw _ _), (.vw _ _), (.vw _ _)]) z (d_ld_os z (rget_of z (get_nil)) z (cells_cons z (cells_cons z (cells_cons z (cells_nil))))) (ev_v z z (ev_call0 [(.agg [(.vw _ _), (.vw _ _), (.vw _ _)]), (.vw _ _)] z (call_okf (vs' := [(.agg [(.vw _ _), (.vw _ _), (.vw _ _)]), (.vw _ _)]) z (call_ok (rs := []) (rd := []) z z z z (argL_cons (argT_a (argL_cons z (argL_cons z (argL_cons z (argL_nil))))) (argL_cons z (argL_nil))) z z (impl_starts_ok hv8) z z z z z)) (ev_den (.ref 33 _ _ _ _) z z (ev_v z z (ev_nil)))))) (seqQ_n (?_))
  replace h := Option.some.inj h
  subst h
  exact wp_ret (qf_r ((outs_ok (vs := [(.ref 33 _ _ _ _), (.vw _ _)]) z (absW_cons (retT_ref (abs_ref z sub_i)) z (absW_cons z z (absW_nil))) z z)))
noncomputable def impl_LongestWait_s1 (p1 : List (Int × Int × Int)) (v13 : ((List Int) × Bool)) : (Int × Int) → Option ((Int × Int) ⊕ Int) := fun (x39, x40) =>
if (decide (x40 < (List.length v13.1 : Int))) = true then
(at? v13.1 x40).bind fun v58 =>
(at? p1 x40).bind fun v59 =>
some (.inl ((if (w64 (v58 - v59.1)) > x39 then (w64 (v58 - v59.1)) else x39), (w64 (x40 + (1 : Int)))))
else
some (.inr x39)
noncomputable def impl_LongestWait_l1 (p1 : List (Int × Int × Int)) (v13 : ((List Int) × Bool)) : (Int × Int) → Option Int := iter (impl_LongestWait_s1 p1 v13)
noncomputable def impl_LongestWait (p0 : Int × Int × Int) (p1 : List (Int × Int × Int)) : Option ((Int × Bool)) :=
(impl_SentAt p0 p1).bind fun v13 =>
(impl_LongestWait_l1 p1 v13 ((0 : Int), (0 : Int))).bind fun x46 =>
some (x46, v13.2)
theorem impl_LongestWait_ok {p0 : Int × Int × Int} {p1 : List (Int × Int × Int)} {o : (Int × Bool)} (h : impl_LongestWait p0 p1 = some o) : RN 7 [.agg [.int .i64 p0.1, .int .i64 p0.2.1, .int .i64 p0.2.2], .rows 3 (List.map e0 p1)] [] = some (.tup [.int .i64 o.1, .bool o.2], []) := by
 refine fn_run (o := o) (nr := 0) (F := k7) (st := ⟨entry 0 [.agg [.vw [] (.int .i64 p0.1), .vw [] (.int .i64 p0.2.1), .vw [] (.int .i64 p0.2.2)], .vw [] (.rows 3 (List.map e0 p1))], fun n => ([] : List T)[n]?, 0⟩) (fun (o : (Int × Bool)) => (.tup [.int .i64 o.1, .bool o.2], [])) z fns_7 z z z ?_
 refine wp_seq ?_
 refine wp_reg (nx' := 48) z (ev_wr z (w_box (sv := (.agg [(.vw _ _), (.vw _ _), (.vw _ _)])) z z (absW_cons z z (absW_cons z z (absW_cons z z (absW_nil))))) (ev_v z z (ev_v z z (ev_nil)))) (seqQ_n (?_))
 refine wp_seq ?_
 obtain ⟨v13, hv13, h⟩ := bs h
 refine wp_reg (nx' := 176) z (ev_den (.agg [(.vw _ _), (.vw _ _), (.vw _ _)]) z (d_ld_os z (rget_of z (get_nil)) z (cells_cons z (cells_cons z (cells_cons z (cells_nil))))) (ev_v z z (ev_call0 [(.agg [(.vw _ _), (.vw _ _), (.vw _ _)]), (.vw _ _)] z (call_okf (vs' := [(.agg [(.vw _ _), (.vw _ _), (.vw _ _)]), (.vw _ _)]) z (call_ok (rs := []) (rd := []) z z z z (argL_cons (argT_a (argL_cons z (argL_cons z (argL_cons z (argL_nil))))) (argL_cons z (argL_nil))) z z (impl_SentAt_ok hv13) z z z (bindR_t (bindL_cons z (bindL_cons z (bindL_nil)))) z)) (ev_den (.tup [(.ref 80 _ _ _ _), (.vw _ _)]) z z (ev_den (.ref 80 _ _ _ _) z z (ev_v z z (ev_den (.ref 80 _ _ _ _) z z (ev_v z z (ev_nil))))))))) (seqQ_n (?_))
 refine wp_seq ?_
 refine wp_reg (nx' := 192) z (ev_v z z (ev_nil)) (seqQ_n (?_))
 refine wp_seq ?_
 refine wp_gc ?_
 refine wp_seq ?_
 refine wp_gc ?_
 refine wp_reg (nx' := 240) z (ev_den (.ref 80 _ _ _ _) z z (ev_v z z (ev_v z z (ev_nil)))) (gcQ_n (gc_to [80] (e := [(1, .vw [] (.rows 3 (List.map e0 p1))), (7, .vw [] (.bool v13.2)), (8, .vw [] (.int .i64 ((0 : Int)))), (17, .ref 0 [] 1 0 (List.length v13.1)), (18, .vw [] (.int .i64 ((List.length v13.1 : Int)))), (19, .vw [] (.int .i64 ((0 : Int))))]) (ts := [some (.ints .i64 v13.1)]) (n := 1) z z z z) (seqQ_n (?_)))
 refine wp_gc ?_
 refine wp_blk ?_
 obtain ⟨x46, hw63, h⟩ := bs h
 refine wp_mono (wp_loop (fun ((x39, x40) : Int × Int) => (⟨al .dead [(1, .vw [] (.rows 3 (List.map e0 p1))), (7, .vw [] (.bool v13.2)), (8, .vw [] (.int .i64 x39)), (17, .ref 0 [] 1 0 (List.length v13.1)), (18, .vw [] (.int .i64 ((List.length v13.1 : Int)))), (19, .vw [] (.int .i64 x40))], hl [some (.ints .i64 v13.1)], 1⟩ : St)) (fun (x46 : Int) e st => e = .exit 0 ∧ gc 0 [7, 8] st = ⟨al .dead [(7, .vw [] (.bool v13.2)), (8, .vw [] (.int .i64 x46))], hl [], 0⟩) hw63 ?_) ?_
 ·rintro ⟨x39, x40⟩ o h
  refine wp_gc ?_
  refine wp_seq ?_
  refine wp_reg (nx' := 17) z (ev_v z z (ev_nil)) (seqQ_n (?_))
  refine wp_seq ?_
  refine wp_gc ?_
  rcases its h with ⟨hc53, h⟩ | ⟨hc53, h⟩
  ·refine wp_ct z hc53 ?_
   refine wp_skip (gcQ_n (gc_to [0] (e := [(1, .vw [] (.rows 3 (List.map e0 p1))), (7, .vw [] (.bool v13.2)), (8, .vw [] (.int .i64 x39)), (17, .ref 0 [] 1 0 (List.length v13.1)), (18, .vw [] (.int .i64 ((List.length v13.1 : Int)))), (19, .vw [] (.int .i64 x40))]) (ts := [some (.ints .i64 v13.1)]) (n := 1) z z z z) (seqQ_n (?_)))
   refine wp_seq ?_
   refine wp_gc ?_
   refine wp_gc ?_
   refine wp_blk ?_
   refine wp_seq ?_
   obtain ⟨v58, hv58, h⟩ := bs h
   refine wp_reg (nx' := 81) z (ev_v z z (ev_den (.ptr 0 [.e (Int.toNat x40)] none) z (d_idx_r (p := []) z z hv58) (ev_v z (d_ld_p z (rget_of z (get_i hv58)) z) (ev_v z z (ev_v z z (ev_nil)))))) (seqQ_n (?_))
   obtain ⟨v59, hv59, h⟩ := bs h
   refine wp_reg (nx' := 241) z (ev_v z z (ev_v z z (ev_v z z (ev_v z z (ev_den (.pv _ _) z (d_idx_vr e0 z z hv59) (ev_den (.pv _ _) z z (ev_v z z (ev_v z z (ev_v z z (ev_v z z (ev_nil))))))))))) (blkQ_n (gcQ_n (gc_to [0] (e := [(1, .vw [] (.rows 3 (List.map e0 p1))), (7, .vw [] (.bool v13.2)), (8, .vw [] (.int .i64 ((if (w64 (v58 - v59.1)) > x39 then (w64 (v58 - v59.1)) else x39)))), (17, .ref 0 [] 1 0 (List.length v13.1)), (18, .vw [] (.int .i64 ((List.length v13.1 : Int)))), (19, .vw [] (.int .i64 x40))]) (ts := [some (.ints .i64 v13.1)]) (n := 1) z z z z) (gcQ_n (gc_to [0] (e := [(1, .vw [] (.rows 3 (List.map e0 p1))), (7, .vw [] (.bool v13.2)), (8, .vw [] (.int .i64 ((if (w64 (v58 - v59.1)) > x39 then (w64 (v58 - v59.1)) else x39)))), (17, .ref 0 [] 1 0 (List.length v13.1)), (18, .vw [] (.int .i64 ((List.length v13.1 : Int)))), (19, .vw [] (.int .i64 x40))]) (ts := [some (.ints .i64 v13.1)]) (n := 1) z z z z) (seqQ_n (?_)))))
   replace h := Option.some.inj h
   subst h
   exact wp_reg (nx' := 33) z (ev_v z z (ev_v z z (ev_nil))) (gcQ_n (gc_to [0] (e := [(1, .vw [] (.rows 3 (List.map e0 p1))), (7, .vw [] (.bool v13.2)), (8, .vw [] (.int .i64 ((if (w64 (v58 - v59.1)) > x39 then (w64 (v58 - v59.1)) else x39)))), (17, .ref 0 [] 1 0 (List.length v13.1)), (18, .vw [] (.int .i64 ((List.length v13.1 : Int)))), (19, .vw [] (.int .i64 ((w64 (x40 + (1 : Int))))))]) (ts := [some (.ints .i64 v13.1)]) (n := 1) z z z z) (loopQ_n z))
  ·refine wp_cf z hc53 ?_
   replace h := Option.some.inj h
   subst h
   exact wp_exit (gcQ_e (seqQ_e (gcQ_e (loopQ_e (And.intro z (gc_to [] (e := [(7, .vw [] (.bool v13.2)), (8, .vw [] (.int .i64 x39))]) (ts := []) (n := 0) z z z z))))))
 ·intro e st63 hg63
  obtain ⟨rfl, hg63⟩ := hg63
  refine blkQ_h (gcQ_n hg63 (gcQ_n (gc_to [] (e := [(7, .vw [] (.bool v13.2)), (8, .vw [] (.int .i64 x46))]) (ts := []) (n := 0) z z z z) (seqQ_n (?_))))
  refine wp_seq ?_
  refine wp_reg (nx' := 64) z (ev_v z z (ev_v z z (ev_v z z (ev_v z z (ev_nil))))) (seqQ_n (?_))
  replace h := Option.some.inj h
  subst h
  exact wp_ret (qf_r ((outs_ok (vs := [(.vw _ _), (.vw _ _)]) z (absW_cons z z (absW_cons z z (absW_nil))) z z)))
noncomputable def spec_l1In (p0 : Int) (p1 : Int) (p2 : Int) : Option Bool :=
if (decide (p0 ≥ p1)) = true then
some (decide (p0 ≤ p2))
else
some false
theorem spec_l1In_ok {p0 : Int} {p1 : Int} {p2 : Int} {o : Bool} (h : spec_l1In p0 p1 p2 = some o) : RN 60 [.int .i64 p0, .int .i64 p1, .int .i64 p2] [] = some (.bool o, []) := by
 refine fn_run (o := o) (nr := 0) (F := k60) (st := ⟨entry 0 [.vw [] (.int .i64 p0), .vw [] (.int .i64 p1), .vw [] (.int .i64 p2)], fun n => ([] : List T)[n]?, 0⟩) (fun (o : Bool) => (.bool o, [])) z fns_60 z z z ?_
 refine wp_seq ?_
 refine wp_reg (nx' := 16) z (ev_v z z (ev_nil)) (seqQ_n (?_))
 refine wp_seq ?_
 refine wp_gc ?_
 rcases its h with ⟨hc3, h⟩ | ⟨hc3, h⟩
 ·refine wp_reg (nx' := 160) z (ev_v z z (ev_v z z (ev_v z z (ev_v z z (ev_on z hc3 (ev_v z z (ev_on z hc3 (ev_v z z (ev_on z hc3 (ev_v z z (ev_v z (d_pick_t z hc3 z) (ev_v z z (ev_nil))))))))))))) (gcQ_n (gc_to [] (e := [(6, .vw [] (.bool ((decide (p0 ≤ p2)))))]) (ts := []) (n := 0) z z z z) (seqQ_n (?_)))
  replace h := Option.some.inj h
  subst h
  exact wp_ret (qf_r ((outs_ok (vs := [(.vw _ _)]) z (absW_cons z z (absW_nil)) z z)))
 ·refine wp_reg (nx' := 160) z (ev_v z z (ev_v z z (ev_v z z (ev_v z z (ev_off z hc3 (ev_off z hc3 (ev_off z hc3 (ev_v z (d_pick_f z hc3 z) (ev_v z z (ev_nil)))))))))) (gcQ_n (gc_to [] (e := [(6, .vw [] (.bool false))]) (ts := []) (n := 0) z z z z) (seqQ_n (?_)))
  replace h := Option.some.inj h
  subst h
  exact wp_ret (qf_r ((outs_ok (vs := [(.vw _ _)]) z (absW_cons z z (absW_nil)) z z)))
noncomputable def spec_tkGood (p0 : Int × Int × Int) : Option Bool :=
(spec_l1In p0.1 ((2 : Int)) ((12 : Int))).bind fun v11 =>
if v11 = true then
(spec_l1In p0.2.1 ((1 : Int)) ((10 : Int))).bind fun v13 =>
if v13 = true then
(spec_l1In p0.2.2 ((1 : Int)) ((10 : Int))).bind fun v15 =>
some v15
else
some false
else
some false
theorem spec_tkGood_ok {p0 : Int × Int × Int} {o : Bool} (h : spec_tkGood p0 = some o) : RN 59 [.agg [.int .i64 p0.1, .int .i64 p0.2.1, .int .i64 p0.2.2]] [] = some (.bool o, []) := by
 refine fn_run (o := o) (nr := 0) (F := k59) (st := ⟨entry 0 [.agg [.vw [] (.int .i64 p0.1), .vw [] (.int .i64 p0.2.1), .vw [] (.int .i64 p0.2.2)]], fun n => ([] : List T)[n]?, 0⟩) (fun (o : Bool) => (.bool o, [])) z fns_59 z z z ?_
 refine wp_seq ?_
 refine wp_reg (nx' := 32) z (ev_wr z (w_box (sv := (.agg [(.vw _ _), (.vw _ _), (.vw _ _)])) z z (absW_cons z z (absW_cons z z (absW_cons z z (absW_nil))))) (ev_v z z (ev_nil))) (seqQ_n (?_))
 refine wp_seq ?_
 refine wp_gc ?_
 obtain ⟨v11, hv11, h⟩ := bs h
 rcases its h with ⟨hc12, h⟩ | ⟨hc12, h⟩
 ·obtain ⟨v13, hv13, h⟩ := bs h
  rcases its h with ⟨hc14, h⟩ | ⟨hc14, h⟩
  ·obtain ⟨v15, hv15, h⟩ := bs h
   refine wp_reg (nx' := 256) z (ev_den (.ptr 0 [] (some 0)) z z (ev_v z (d_ld_o z (rget_of z (get_nil)) z z) (ev_call0 [(.vw _ _), (.vw _ _), (.vw _ _)] z (call_okf (vs' := [(.vw _ _), (.vw _ _), (.vw _ _)]) z (call_ok (rs := []) (rd := []) z z z z (argL_cons z (argL_cons z (argL_cons z (argL_nil)))) z z (spec_l1In_ok hv11) z z z z z)) (ev_v z z (ev_on z hc12 (ev_den (.ptr 0 [] (some 1)) z z (ev_on z hc12 (ev_v z (d_ld_o z (rget_of z (get_nil)) z z) (ev_on z hc12 (ev_call0 [(.vw _ _), (.vw _ _), (.vw _ _)] z (call_okf (vs' := [(.vw _ _), (.vw _ _), (.vw _ _)]) z (call_ok (rs := []) (rd := []) z z z z (argL_cons z (argL_cons z (argL_cons z (argL_nil)))) z z (spec_l1In_ok hv13) z z z z z)) (ev_v z (d_pick_t z hc12 z) (ev_v z z (ev_on z hc14 (ev_den (.ptr 0 [] (some 2)) z z (ev_on z hc14 (ev_v z (d_ld_o z (rget_of z (get_nil)) z z) (ev_on z hc14 (ev_call0 [(.vw _ _), (.vw _ _), (.vw _ _)] z (call_okf (vs' := [(.vw _ _), (.vw _ _), (.vw _ _)]) z (call_ok (rs := []) (rd := []) z z z z (argL_cons z (argL_cons z (argL_cons z (argL_nil)))) z z (spec_l1In_ok hv15) z z z z z)) (ev_v z (d_pick_t z hc14 z) (ev_v z z (ev_nil))))))))))))))))))))) (gcQ_n (gc_to [] (e := [(2, .vw [] (.bool v15))]) (ts := []) (n := 0) z z z z) (seqQ_n (?_)))
   replace h := Option.some.inj h
   subst h
   exact wp_ret (qf_r ((outs_ok (vs := [(.vw _ _)]) z (absW_cons z z (absW_nil)) z z)))
  ·refine wp_reg (nx' := 256) z (ev_den (.ptr 0 [] (some 0)) z z (ev_v z (d_ld_o z (rget_of z (get_nil)) z z) (ev_call0 [(.vw _ _), (.vw _ _), (.vw _ _)] z (call_okf (vs' := [(.vw _ _), (.vw _ _), (.vw _ _)]) z (call_ok (rs := []) (rd := []) z z z z (argL_cons z (argL_cons z (argL_cons z (argL_nil)))) z z (spec_l1In_ok hv11) z z z z z)) (ev_v z z (ev_on z hc12 (ev_den (.ptr 0 [] (some 1)) z z (ev_on z hc12 (ev_v z (d_ld_o z (rget_of z (get_nil)) z z) (ev_on z hc12 (ev_call0 [(.vw _ _), (.vw _ _), (.vw _ _)] z (call_okf (vs' := [(.vw _ _), (.vw _ _), (.vw _ _)]) z (call_ok (rs := []) (rd := []) z z z z (argL_cons z (argL_cons z (argL_cons z (argL_nil)))) z z (spec_l1In_ok hv13) z z z z z)) (ev_v z (d_pick_t z hc12 z) (ev_v z z (ev_off z hc14 (ev_off z hc14 (ev_off z hc14 (ev_v z (d_pick_f z hc14 z) (ev_v z z (ev_nil)))))))))))))))))) (gcQ_n (gc_to [] (e := [(2, .vw [] (.bool false))]) (ts := []) (n := 0) z z z z) (seqQ_n (?_)))
   replace h := Option.some.inj h
   subst h
   exact wp_ret (qf_r ((outs_ok (vs := [(.vw _ _)]) z (absW_cons z z (absW_nil)) z z)))
 ·refine wp_reg (nx' := 256) z (ev_den (.ptr 0 [] (some 0)) z z (ev_v z (d_ld_o z (rget_of z (get_nil)) z z) (ev_call0 [(.vw _ _), (.vw _ _), (.vw _ _)] z (call_okf (vs' := [(.vw _ _), (.vw _ _), (.vw _ _)]) z (call_ok (rs := []) (rd := []) z z z z (argL_cons z (argL_cons z (argL_cons z (argL_nil)))) z z (spec_l1In_ok hv11) z z z z z)) (ev_v z z (ev_off z hc12 (ev_off z hc12 (ev_off z hc12 (ev_v z (d_pick_f z hc12 z) (ev_v z z (ev_off z z (ev_off z z (ev_off z z (ev_v z (d_pick_f z z z) (ev_v z z (ev_nil))))))))))))))) (gcQ_n (gc_to [] (e := [(2, .vw [] (.bool false))]) (ts := []) (n := 0) z z z z) (seqQ_n (?_)))
  replace h := Option.some.inj h
  subst h
  exact wp_ret (qf_r ((outs_ok (vs := [(.vw _ _)]) z (absW_cons z z (absW_nil)) z z)))
end Go.Proofs.Ytdblfocadcgmaaa.Ev.W7
