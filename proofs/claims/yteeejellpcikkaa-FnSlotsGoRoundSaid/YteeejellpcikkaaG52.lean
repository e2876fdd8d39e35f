/- What functions of the program come to, as plain functions; no condition. -/
import Derived.Test.YteeejellpcikkaaG51
set_option linter.unusedVariables false
set_option linter.unusedSimpArgs false
set_option maxRecDepth 100000
set_option maxHeartbeats 4000000
set_option linter.unusedVariables false
namespace Go.Proofs.Yteeejellpcikkaa.Ev.G5
open Go
noncomputable def slices_Index_s1 (p0 : List Int) (p1 : Int) : Int → Option (Int ⊕ (Unit ⊕ Int)) := fun x28 =>
if (decide (x28 < (List.length p0 : Int))) = true then
(at? p0 x28).bind fun v43 =>
if (p1 == v43) = true then
some (.inr (.inr x28))
else
some (.inl ((w64 (x28 + (1 : Int)))))
else
some (.inr (.inl ()))
noncomputable def slices_Index_l1 (p0 : List Int) (p1 : Int) : Int → Option (Unit ⊕ Int) := iter (slices_Index_s1 p0 p1)
/-- slices.Index[[]int,int] -/
noncomputable def slices_Index (p0 : List Int) (p1 : Int) : Option Int :=
(slices_Index_l1 p0 p1 (0 : Int)).bind fun w => match w with
| .inl _ =>
some (-1 : Int)
| .inr r47 =>
some r47
theorem slices_Index_ok {p0 : List Int} {p1 : Int} {o : Int} (h : slices_Index p0 p1 = some o) : RN 73 [.ints .i64 p0, .int .i64 p1] [] = some (.int .i64 o, []) := by
 refine fn_run (o := o) (nr := 0) (F := k73) (st := ⟨entry 0 [.vw [] (.ints .i64 p0), .vw [] (.int .i64 p1)], fun n => ([] : List T)[n]?, 0⟩) (fun (o : Int) => (.int .i64 o, [])) rfl fns_73 rfl rfl rfl ?_
 refine wp_seq ?_
 refine wp_reg (nx' := 16) rfl (ev_v rfl rfl (ev_nil)) (seqQ_n (?_))
 refine wp_seq ?_
 refine wp_gc ?_
 refine wp_seq ?_
 refine wp_gc ?_
 refine wp_reg (nx' := 64) rfl (ev_v rfl rfl (ev_v rfl rfl (ev_v rfl rfl (ev_nil)))) (gcQ_n (gc_to [] (e := [(0, .vw [] (.ints .i64 p0)), (1, .vw [] (.int .i64 p1)), (7, .vw [] (.int .i64 ((List.length p0 : Int)))), (8, .vw [] (.int .i64 ((0 : Int))))]) (ts := []) (n := 0) rfl rfl rfl rfl) (seqQ_n (?_)))
 refine wp_gc ?_
 refine wp_blk ?_
 obtain ⟨w46, hw46, h⟩ := bs h
 refine wp_mono (wp_loop (fun (x28 : Int) => (⟨al .dead [(0, .vw [] (.ints .i64 p0)), (1, .vw [] (.int .i64 p1)), (7, .vw [] (.int .i64 ((List.length p0 : Int)))), (8, .vw [] (.int .i64 x28))], hl [], 0⟩ : St)) (fun (v : Unit ⊕ Int) e st => match v with | .inl _ => e = .exit 0 ∧ gc 0 [] st = ⟨al .dead [], hl [], 0⟩ | .inr rr => e = .ret ∧ outs 0 k73 st = some (.int .i64 rr, [])) hw46 ?_) ?_
 ·rintro x28 o h
  refine wp_gc ?_
  refine wp_seq ?_
  refine wp_reg (nx' := 16) rfl (ev_v rfl rfl (ev_nil)) (seqQ_n (?_))
  refine wp_seq ?_
  refine wp_gc ?_
  rcases its h with ⟨hc38, h⟩ | ⟨hc38, h⟩
  ·refine wp_ct rfl hc38 ?_
   refine wp_skip (gcQ_n (gc_to [] (e := [(0, .vw [] (.ints .i64 p0)), (1, .vw [] (.int .i64 p1)), (7, .vw [] (.int .i64 ((List.length p0 : Int)))), (8, .vw [] (.int .i64 x28))]) (ts := []) (n := 0) rfl rfl rfl rfl) (seqQ_n (?_)))
   refine wp_seq ?_
   refine wp_gc ?_
   refine wp_gc ?_
   refine wp_blk ?_
   refine wp_seq ?_
   refine wp_reg (nx' := 32) rfl (ev_v rfl rfl (ev_v rfl rfl (ev_nil))) (seqQ_n (?_))
   refine wp_seq ?_
   obtain ⟨v43, hv43, h⟩ := bs h
   refine wp_reg (nx' := 128) rfl (ev_v rfl rfl (ev_v rfl rfl (ev_v rfl rfl (ev_den (.pv _ _) rfl (d_idx_vi rfl rfl hv43) (ev_v rfl rfl (ev_v rfl rfl (ev_nil))))))) (seqQ_n (?_))
   rcases its h with ⟨hc44, h⟩ | ⟨hc44, h⟩
   ·refine wp_ct rfl hc44 ?_
    refine wp_seq ?_
    refine wp_reg (nx' := 160) rfl (ev_v rfl rfl (ev_v rfl rfl (ev_nil))) (seqQ_n (?_))
    replace h := Option.some.inj h
    subst h
    exact wp_ret (blkQ_r (gcQ_r (gcQ_r (seqQ_r (gcQ_r (loopQ_r (And.intro rfl (outs_ok (vs := [(.vw _ _)]) rfl (absW_cons rfl rfl (absW_nil)) rfl rfl))))))))
   ·refine wp_cf rfl hc44 ?_
    refine wp_skip (blkQ_n (gcQ_n (gc_to [] (e := [(0, .vw [] (.ints .i64 p0)), (1, .vw [] (.int .i64 p1)), (7, .vw [] (.int .i64 ((List.length p0 : Int)))), (8, .vw [] (.int .i64 x28))]) (ts := []) (n := 0) rfl rfl rfl rfl) (gcQ_n (gc_to [] (e := [(0, .vw [] (.ints .i64 p0)), (1, .vw [] (.int .i64 p1)), (7, .vw [] (.int .i64 ((List.length p0 : Int)))), (8, .vw [] (.int .i64 x28))]) (ts := []) (n := 0) rfl rfl rfl rfl) (seqQ_n (?_)))))
    replace h := Option.some.inj h
    subst h
    exact wp_reg (nx' := 32) rfl (ev_v rfl rfl (ev_v rfl rfl (ev_nil))) (gcQ_n (gc_to [] (e := [(0, .vw [] (.ints .i64 p0)), (1, .vw [] (.int .i64 p1)), (7, .vw [] (.int .i64 ((List.length p0 : Int)))), (8, .vw [] (.int .i64 ((w64 (x28 + (1 : Int))))))]) (ts := []) (n := 0) rfl rfl rfl rfl) (loopQ_n rfl))
  ·refine wp_cf rfl hc38 ?_
   replace h := Option.some.inj h
   subst h
   exact wp_exit (gcQ_e (seqQ_e (gcQ_e (loopQ_e (And.intro rfl (gc_to [] (e := []) (ts := []) (n := 0) rfl rfl rfl rfl))))))
 ·intro e st46 hg46
  rcases w46 with _ | r47
  ·obtain ⟨rfl, hg46⟩ := hg46
   refine blkQ_h (gcQ_n hg46 (gcQ_n (gc_to [] (e := []) (ts := []) (n := 0) rfl rfl rfl rfl) (seqQ_n (?_))))
   refine wp_seq ?_
   refine wp_reg (nx' := 16) rfl (ev_v rfl rfl (ev_nil)) (seqQ_n (?_))
   replace h := Option.some.inj h
   subst h
   exact wp_ret (qf_r ((outs_ok (vs := [(.vw _ _)]) rfl (absW_cons rfl rfl (absW_nil)) rfl rfl)))
  ·obtain ⟨rfl, hg46⟩ := hg46
   replace h := Option.some.inj h
   subst h
   exact blkQ_r (gcQ_r (gcQ_r (seqQ_r (qf_r (hg46)))))
/-- slices.Contains[[]int,int] -/
noncomputable def slices_Contains (p0 : List Int) (p1 : Int) : Option Bool :=
(slices_Index p0 p1).bind fun v2 =>
some (decide (v2 ≥ (0 : Int)))
theorem slices_Contains_ok {p0 : List Int} {p1 : Int} {o : Bool} (h : slices_Contains p0 p1 = some o) : RN 51 [.ints .i64 p0, .int .i64 p1] [] = some (.bool o, []) := by
 refine fn_run (o := o) (nr := 0) (F := k51) (st := ⟨entry 0 [.vw [] (.ints .i64 p0), .vw [] (.int .i64 p1)], fun n => ([] : List T)[n]?, 0⟩) (fun (o : Bool) => (.bool o, [])) rfl fns_51 rfl rfl rfl ?_
 refine wp_seq ?_
 refine wp_reg (nx' := 16) rfl (ev_v rfl rfl (ev_nil)) (seqQ_n (?_))
 refine wp_seq ?_
 obtain ⟨v2, hv2, h⟩ := bs h
 refine wp_reg (nx' := 96) rfl (ev_v rfl rfl (ev_v rfl rfl (ev_call0 [(.vw _ _), (.vw _ _)] rfl (call_ok (rs := []) (rd := []) rfl rfl rfl rfl (argL_cons rfl (argL_cons rfl (argL_nil))) rfl rfl (slices_Index_ok hv2) rfl rfl rfl rfl rfl) (ev_v rfl rfl (ev_v rfl rfl (ev_nil)))))) (seqQ_n (?_))
 replace h := Option.some.inj h
 subst h
 exact wp_ret (qf_r ((outs_ok (vs := [(.vw _ _)]) rfl (absW_cons rfl rfl (absW_nil)) rfl rfl)))
noncomputable def impl_slotter_station_j3 (p1 : Int) (c0 : Int × Bool × (List (Int × Int × Int)) × Int × (List Int) × (List Int) × (List Int)) (x59 : List Int) (x60 : List Int) (x91 : Int) : Bool → Option (Int ⊕ (Unit ⊕ ((Int × Bool × (List (Int × Int × Int)) × Int × (List Int) × (List Int) × (List Int))))) := fun x130 =>
if x130 = true then
(at? c0.2.2.2.2.2.1 x91).bind fun v132 =>
some (.inr (.inr (c0.1, c0.2.1, c0.2.2.1, c0.2.2.2.1, (List.set x59 (Int.toNat ((Int.tmod (w64 ((w64 (p1 - (Int.tmod c0.2.2.2.1 c0.1))) + c0.1)) c0.1))) ((w64 (x91 + (1 : Int))))), (List.set c0.2.2.2.2.2.1 (Int.toNat x91) c0.2.2.2.1), x60)))
else
some (.inl ((w64 (x91 + (1 : Int)))))
noncomputable def impl_slotter_station_s2 (p1 : Int) (c0 : Int × Bool × (List (Int × Int × Int)) × Int × (List Int) × (List Int) × (List Int)) (x59 : List Int) (x60 : List Int) : Int → Option (Int ⊕ (Unit ⊕ ((Int × Bool × (List (Int × Int × Int)) × Int × (List Int) × (List Int) × (List Int))))) := fun x91 =>
if (decide (x91 < (List.length c0.2.2.1 : Int))) = true then
(at? c0.2.2.1 x91).bind fun v126 =>
if (v126.2.1 == p1) = true then
if (decide (v126.1 ≤ c0.2.2.2.1)) = true then
(at? c0.2.2.2.2.2.1 x91).bind fun v136 =>
impl_slotter_station_j3 p1 c0 x59 x60 x91 (decide (v136 < (0 : Int)))
else
impl_slotter_station_j3 p1 c0 x59 x60 x91 false
else
impl_slotter_station_j3 p1 c0 x59 x60 x91 false
else
some (.inr (.inl ()))
noncomputable def impl_slotter_station_l2 (p1 : Int) (c0 : Int × Bool × (List (Int × Int × Int)) × Int × (List Int) × (List Int) × (List Int)) (x59 : List Int) (x60 : List Int) : Int → Option (Unit ⊕ ((Int × Bool × (List (Int × Int × Int)) × Int × (List Int) × (List Int) × (List Int)))) := iter (impl_slotter_station_s2 p1 c0 x59 x60)
noncomputable def impl_slotter_station_j1 (p1 : Int) (c0 : Int × Bool × (List (Int × Int × Int)) × Int × (List Int) × (List Int) × (List Int)) : ((List Int) × (List Int)) → Option ((Int × Bool × (List (Int × Int × Int)) × Int × (List Int) × (List Int) × (List Int))) := fun (x59, x60) =>
(at? x59 ((Int.tmod (w64 ((w64 (p1 - (Int.tmod c0.2.2.2.1 c0.1))) + c0.1)) c0.1))).bind fun v63 =>
if (decide (v63 > (0 : Int))) = true then
some (c0.1, c0.2.1, c0.2.2.1, c0.2.2.2.1, x59, c0.2.2.2.2.2.1, x60)
else
(impl_slotter_station_l2 p1 c0 x59 x60 (0 : Int)).bind fun w => match w with
| .inl _ =>
some (c0.1, c0.2.1, c0.2.2.1, c0.2.2.2.1, x59, c0.2.2.2.2.2.1, x60)
| .inr r141 =>
some r141
noncomputable def impl_slotter_station_j5 (p1 : Int) (c0 : Int × Bool × (List (Int × Int × Int)) × Int × (List Int) × (List Int) × (List Int)) (x150 : List Int) (x151 : List Int) : Bool → Option ((Int × Bool × (List (Int × Int × Int)) × Int × (List Int) × (List Int) × (List Int))) := fun x155 =>
if x155 = true then
(at? x150 ((Int.tmod (w64 ((w64 (p1 - (Int.tmod c0.2.2.2.1 c0.1))) + c0.1)) c0.1))).bind fun v157 =>
some (c0.1, c0.2.1, c0.2.2.1, c0.2.2.2.1, (List.set x150 (Int.toNat ((Int.tmod (w64 ((w64 (p1 - (Int.tmod c0.2.2.2.1 c0.1))) + c0.1)) c0.1))) ((0 : Int))), c0.2.2.2.2.2.1, x151)
else
impl_slotter_station_j1 p1 c0 (x150, x151)
noncomputable def impl_slotter_station_j4 (p1 : Int) (c0 : Int × Bool × (List (Int × Int × Int)) × Int × (List Int) × (List Int) × (List Int)) (v42 : Int) (v143 : Int × Int × Int) : ((List Int) × (List Int)) → Option ((Int × Bool × (List (Int × Int × Int)) × Int × (List Int) × (List Int) × (List Int))) := fun (x150, x151) =>
if c0.2.1 = true then
if (v143.2.1 == p1) = true then
(at? x151 ((w64 (v42 - (1 : Int))))).bind fun v162 =>
impl_slotter_station_j5 p1 c0 x150 x151 (decide (v162 ≥ (0 : Int)))
else
impl_slotter_station_j5 p1 c0 x150 x151 false
else
impl_slotter_station_j5 p1 c0 x150 x151 false
noncomputable def impl_slotter_station_j6 (p1 : Int) (c0 : Int × Bool × (List (Int × Int × Int)) × Int × (List Int) × (List Int) × (List Int)) (v42 : Int) (v143 : Int × Int × Int) : Bool → Option ((Int × Bool × (List (Int × Int × Int)) × Int × (List Int) × (List Int) × (List Int))) := fun x168 =>
if x168 = true then
(at? c0.2.2.2.2.2.2 ((w64 (v42 - (1 : Int))))).bind fun v170 =>
if (!c0.2.1) = true then
impl_slotter_station_j4 p1 c0 v42 v143 ((List.set c0.2.2.2.2.1 (Int.toNat ((Int.tmod (w64 ((w64 (p1 - (Int.tmod c0.2.2.2.1 c0.1))) + c0.1)) c0.1))) ((0 : Int))), (List.set c0.2.2.2.2.2.2 (Int.toNat ((w64 (v42 - (1 : Int))))) c0.2.2.2.1))
else
impl_slotter_station_j4 p1 c0 v42 v143 (c0.2.2.2.2.1, (List.set c0.2.2.2.2.2.2 (Int.toNat ((w64 (v42 - (1 : Int))))) c0.2.2.2.1))
else
impl_slotter_station_j4 p1 c0 v42 v143 (c0.2.2.2.2.1, c0.2.2.2.2.2.2)
/-- (*loop.example/g01176/impl.slotter).station -/
noncomputable def impl_slotter_station (p1 : Int) (c0 : Int × Bool × (List (Int × Int × Int)) × Int × (List Int) × (List Int) × (List Int)) : Option ((Int × Bool × (List (Int × Int × Int)) × Int × (List Int) × (List Int) × (List Int))) :=
(nz? c0.1).bind fun u41 =>
(at? c0.2.2.2.2.1 ((Int.tmod (w64 ((w64 (p1 - (Int.tmod c0.2.2.2.1 c0.1))) + c0.1)) c0.1))).bind fun v42 =>
if (decide ((w64 (v42 - (1 : Int))) ≥ (0 : Int))) = true then
(at? c0.2.2.1 ((w64 (v42 - (1 : Int))))).bind fun v143 =>
if (v143.2.2 == p1) = true then
(at? c0.2.2.2.2.2.2 ((w64 (v42 - (1 : Int))))).bind fun v179 =>
impl_slotter_station_j6 p1 c0 v42 v143 (decide (v179 < (0 : Int)))
else
impl_slotter_station_j6 p1 c0 v42 v143 false
else
impl_slotter_station_j1 p1 c0 (c0.2.2.2.2.1, c0.2.2.2.2.2.2)
theorem impl_slotter_station_ok {p1 : Int} {c0 : Int × Bool × (List (Int × Int × Int)) × Int × (List Int) × (List Int) × (List Int)} {o : (Int × Bool × (List (Int × Int × Int)) × Int × (List Int) × (List Int) × (List Int))} (h : impl_slotter_station p1 c0 = some o) : RN 71 [.ref 0, .int .i64 p1] [.ptr (.agg [.int .i64 c0.1, .bool c0.2.1, .sh (.rows 3 (List.map e0 c0.2.2.1)), .int .i64 c0.2.2.2.1, .ints .i64 c0.2.2.2.2.1, .ints .i64 c0.2.2.2.2.2.1, .ints .i64 c0.2.2.2.2.2.2])] = some (.tup [], [.ptr (.agg [.int .i64 o.1, .bool o.2.1, .sh (.rows 3 (List.map e0 o.2.2.1)), .int .i64 o.2.2.2.1, .ints .i64 o.2.2.2.2.1, .ints .i64 o.2.2.2.2.2.1, .ints .i64 o.2.2.2.2.2.2])]) := by
 refine fn_run (o := o) (nr := 1) (F := k71) (st := ⟨entry 0 [.ptr 0 [] (some 0), .vw [] (.int .i64 p1)], fun n => ([.ptr (.agg [.int .i64 c0.1, .bool c0.2.1, .sh (.rows 3 (List.map e0 c0.2.2.1)), .int .i64 c0.2.2.2.1, .ints .i64 c0.2.2.2.2.1, .ints .i64 c0.2.2.2.2.2.1, .ints .i64 c0.2.2.2.2.2.2])] : List T)[n]?, 1⟩) (fun (o : (Int × Bool × (List (Int × Int × Int)) × Int × (List Int) × (List Int) × (List Int))) => (.tup [], [.ptr (.agg [.int .i64 o.1, .bool o.2.1, .sh (.rows 3 (List.map e0 o.2.2.1)), .int .i64 o.2.2.2.1, .ints .i64 o.2.2.2.2.1, .ints .i64 o.2.2.2.2.2.1, .ints .i64 o.2.2.2.2.2.2])])) rfl fns_71 rfl rfl rfl ?_
 refine wp_seq ?_
 obtain ⟨u41, hu41, h⟩ := bs h
 obtain ⟨v42, hv42, h⟩ := bs h
 refine wp_reg (nx' := 481) rfl (ev_den (.ptr 0 [] (some 0)) rfl rfl (ev_den (.ptr 0 [] (some 0)) rfl rfl (ev_den (.ptr 0 [] (some 4)) rfl rfl (ev_den (.ref 0 [.f 4] _ _ _) rfl (d_ld_o rfl (rget_of rfl (get_nil)) rfl rfl) (ev_v rfl rfl (ev_den (.ptr 0 [] (some 0)) rfl rfl (ev_den (.ptr 0 [] (some 0)) rfl rfl (ev_den (.ptr 0 [] (some 3)) rfl rfl (ev_v rfl (d_ld_o rfl (rget_of rfl (get_nil)) rfl rfl) (ev_den (.ptr 0 [] (some 0)) rfl rfl (ev_den (.ptr 0 [] (some 0)) rfl rfl (ev_den (.ptr 0 [] (some 0)) rfl rfl (ev_den (.ptr 0 [] (some 0)) rfl rfl (ev_v rfl (d_ld_o rfl (rget_of rfl (get_nil)) rfl rfl) (ev_v rfl (d_rem rfl rfl hu41) (ev_v rfl rfl (ev_den (.ptr 0 [] (some 0)) rfl rfl (ev_den (.ptr 0 [] (some 0)) rfl rfl (ev_den (.ptr 0 [] (some 0)) rfl rfl (ev_den (.ptr 0 [] (some 0)) rfl rfl (ev_v rfl (d_ld_o rfl (rget_of rfl (get_nil)) rfl rfl) (ev_v rfl rfl (ev_den (.ptr 0 [] (some 0)) rfl rfl (ev_den (.ptr 0 [] (some 0)) rfl rfl (ev_den (.ptr 0 [] (some 0)) rfl rfl (ev_den (.ptr 0 [] (some 0)) rfl rfl (ev_v rfl (d_ld_o rfl (rget_of rfl (get_nil)) rfl rfl) (ev_v rfl (d_rem rfl rfl hu41) (ev_den (.ptr 0 [.f 4, .e (Int.toNat ((Int.tmod (w64 ((w64 (p1 - (Int.tmod c0.2.2.2.1 c0.1))) + c0.1)) c0.1)))] none) rfl (d_idx_r (p := [.f 4]) rfl rfl hv42) (ev_den (.ptr 0 [.f 4, .e (Int.toNat ((Int.tmod (w64 ((w64 (p1 - (Int.tmod c0.2.2.2.1 c0.1))) + c0.1)) c0.1)))] none) rfl rfl (ev_nil))))))))))))))))))))))))))))))) (seqQ_n (?_))
 refine wp_seq ?_
 refine wp_join (impl_slotter_station_j1 p1 c0) (fun ((x59, x60) : (List Int) × (List Int)) => (⟨al .dead [(0, .ptr 0 [] (some 0)), (1, .vw [] (.int .i64 p1)), (4, .ptr 0 [.f 4, .e (Int.toNat ((Int.tmod (w64 ((w64 (p1 - (Int.tmod c0.2.2.2.1 c0.1))) + c0.1)) c0.1)))] none)], hl [some (.ptr (.agg [.int .i64 c0.1, .bool c0.2.1, .sh (.rows 3 (List.map e0 c0.2.2.1)), .int .i64 c0.2.2.2.1, .ints .i64 x59, .ints .i64 c0.2.2.2.2.2.1, .ints .i64 x60]))], 1⟩ : St)) ?_ ?_
 ·rintro ⟨x59, x60⟩ o h
  unfold impl_slotter_station_j1 at h
  refine seqQ_n (?_)
  refine wp_seq ?_
  refine wp_gc ?_
  refine wp_seq ?_
  obtain ⟨v63, hv63, h⟩ := bs h
  refine wp_reg (nx' := 65) rfl (ev_den (.ptr 0 [.f 4, .e (Int.toNat ((Int.tmod (w64 ((w64 (p1 - (Int.tmod c0.2.2.2.1 c0.1))) + c0.1)) c0.1)))] none) rfl rfl (ev_den (.ptr 0 [.f 4, .e (Int.toNat ((Int.tmod (w64 ((w64 (p1 - (Int.tmod c0.2.2.2.1 c0.1))) + c0.1)) c0.1)))] none) rfl rfl (ev_v rfl (d_ld_p rfl (rget_of rfl (get_f rfl (get_i hv63))) rfl) (ev_v rfl rfl (ev_nil))))) (seqQ_n (?_))
  rcases its h with ⟨hc64, h⟩ | ⟨hc64, h⟩
  ·refine wp_ct rfl hc64 ?_
   replace h := Option.some.inj h
   subst h
   exact wp_ret (gcQ_r (seqQ_r (qf_r ((outs_ok (vs := []) rfl (absW_nil) rfl rfl)))))
  ·refine wp_cf rfl hc64 ?_
   refine wp_skip (gcQ_n (gc_to [] (e := [(0, .ptr 0 [] (some 0)), (1, .vw [] (.int .i64 p1)), (4, .ptr 0 [.f 4, .e (Int.toNat ((Int.tmod (w64 ((w64 (p1 - (Int.tmod c0.2.2.2.1 c0.1))) + c0.1)) c0.1)))] none)]) (ts := [some (.ptr (.agg [.int .i64 c0.1, .bool c0.2.1, .sh (.rows 3 (List.map e0 c0.2.2.1)), .int .i64 c0.2.2.2.1, .ints .i64 x59, .ints .i64 c0.2.2.2.2.2.1, .ints .i64 x60]))]) (n := 1) rfl rfl rfl rfl) (seqQ_n (?_)))
   refine wp_seq ?_
   refine wp_gc ?_
   refine wp_reg (nx' := 97) rfl (ev_den (.ptr 0 [] (some 0)) rfl rfl (ev_den (.ptr 0 [] (some 0)) rfl rfl (ev_den (.ptr 0 [] (some 2)) rfl rfl (ev_v rfl (d_ld_o rfl (rget_of rfl (get_nil)) rfl rfl) (ev_v rfl (d_len_vr (e := e0) rfl) (ev_v rfl rfl (ev_nil))))))) (gcQ_n (gc_to [] (e := [(0, .ptr 0 [] (some 0)), (1, .vw [] (.int .i64 p1)), (4, .ptr 0 [.f 4, .e (Int.toNat ((Int.tmod (w64 ((w64 (p1 - (Int.tmod c0.2.2.2.1 c0.1))) + c0.1)) c0.1)))] none), (113, .vw [] (.rows 3 (List.map e0 c0.2.2.1))), (114, .vw [] (.int .i64 ((List.length c0.2.2.1 : Int)))), (115, .vw [] (.int .i64 ((0 : Int))))]) (ts := [some (.ptr (.agg [.int .i64 c0.1, .bool c0.2.1, .sh (.rows 3 (List.map e0 c0.2.2.1)), .int .i64 c0.2.2.2.1, .ints .i64 x59, .ints .i64 c0.2.2.2.2.2.1, .ints .i64 x60]))]) (n := 1) rfl rfl rfl rfl) (seqQ_n (?_)))
   refine wp_gc ?_
   refine wp_blk ?_
   obtain ⟨w140, hw140, h⟩ := bs h
   refine wp_mono (wp_loop (fun (x91 : Int) => (⟨al .dead [(0, .ptr 0 [] (some 0)), (1, .vw [] (.int .i64 p1)), (4, .ptr 0 [.f 4, .e (Int.toNat ((Int.tmod (w64 ((w64 (p1 - (Int.tmod c0.2.2.2.1 c0.1))) + c0.1)) c0.1)))] none), (113, .vw [] (.rows 3 (List.map e0 c0.2.2.1))), (114, .vw [] (.int .i64 ((List.length c0.2.2.1 : Int)))), (115, .vw [] (.int .i64 x91))], hl [some (.ptr (.agg [.int .i64 c0.1, .bool c0.2.1, .sh (.rows 3 (List.map e0 c0.2.2.1)), .int .i64 c0.2.2.2.1, .ints .i64 x59, .ints .i64 c0.2.2.2.2.2.1, .ints .i64 x60]))], 1⟩ : St)) (fun (v : Unit ⊕ ((Int × Bool × (List (Int × Int × Int)) × Int × (List Int) × (List Int) × (List Int)))) e st => match v with | .inl _ => e = .exit 0 ∧ gc 1 [] st = ⟨al .dead [], hl [some (.ptr (.agg [.int .i64 c0.1, .bool c0.2.1, .sh (.rows 3 (List.map e0 c0.2.2.1)), .int .i64 c0.2.2.2.1, .ints .i64 x59, .ints .i64 c0.2.2.2.2.2.1, .ints .i64 x60]))], 1⟩ | .inr rr => e = .ret ∧ outs 1 k71 st = some (.tup [], [.ptr (.agg [.int .i64 rr.1, .bool rr.2.1, .sh (.rows 3 (List.map e0 rr.2.2.1)), .int .i64 rr.2.2.2.1, .ints .i64 rr.2.2.2.2.1, .ints .i64 rr.2.2.2.2.2.1, .ints .i64 rr.2.2.2.2.2.2])])) hw140 ?_) ?_
   ·rintro x91 o h
    refine wp_gc ?_
    refine wp_seq ?_
    refine wp_reg (nx' := 17) rfl (ev_v rfl rfl (ev_nil)) (seqQ_n (?_))
    refine wp_seq ?_
    refine wp_gc ?_
    rcases its h with ⟨hc111, h⟩ | ⟨hc111, h⟩
    ·refine wp_ct rfl hc111 ?_
     refine wp_skip (gcQ_n (gc_to [] (e := [(0, .ptr 0 [] (some 0)), (1, .vw [] (.int .i64 p1)), (4, .ptr 0 [.f 4, .e (Int.toNat ((Int.tmod (w64 ((w64 (p1 - (Int.tmod c0.2.2.2.1 c0.1))) + c0.1)) c0.1)))] none), (113, .vw [] (.rows 3 (List.map e0 c0.2.2.1))), (114, .vw [] (.int .i64 ((List.length c0.2.2.1 : Int)))), (115, .vw [] (.int .i64 x91))]) (ts := [some (.ptr (.agg [.int .i64 c0.1, .bool c0.2.1, .sh (.rows 3 (List.map e0 c0.2.2.1)), .int .i64 c0.2.2.2.1, .ints .i64 x59, .ints .i64 c0.2.2.2.2.2.1, .ints .i64 x60]))]) (n := 1) rfl rfl rfl rfl) (seqQ_n (?_)))
     refine wp_seq ?_
     refine wp_gc ?_
     refine wp_gc ?_
     refine wp_blk ?_
     refine wp_seq ?_
     obtain ⟨v126, hv126, h⟩ := bs h
     refine wp_reg (nx' := 97) rfl (ev_v rfl rfl (ev_den (.pv _ _) rfl (d_idx_vr e0 rfl rfl hv126) (ev_den (.agg [(.vw _ _), (.vw _ _), (.vw _ _)]) rfl rfl (ev_new (.ptr 49 [] (some 0)) (.ptr (.agg [.int .i64 ((0 : Int)), .int .i64 ((0 : Int)), .int .i64 ((0 : Int))])) rfl rfl (ev_v rfl rfl (ev_wr0 rfl (w_st_a rfl rfl rfl (stL_cons (st1_of rfl rfl rfl (get_f rfl (get_nil)) rfl (rput_p (put_f rfl (put_nil)))) rfl (stL_cons (st1_of rfl rfl rfl (get_f rfl (get_nil)) rfl (rput_p (put_f rfl (put_nil)))) rfl (stL_cons (st1_of rfl rfl rfl (get_f rfl (get_nil)) rfl (rput_p (put_f rfl (put_nil)))) rfl (stL_nil))))) (ev_nil))))))) (seqQ_n (?_))
     refine wp_seq ?_
     refine wp_join (impl_slotter_station_j3 p1 c0 x59 x60 x91) (fun (x130 : Bool) => (⟨al .dead [(0, .ptr 0 [] (some 0)), (1, .vw [] (.int .i64 p1)), (4, .ptr 0 [.f 4, .e (Int.toNat ((Int.tmod (w64 ((w64 (p1 - (Int.tmod c0.2.2.2.1 c0.1))) + c0.1)) c0.1)))] none), (7, .vw [] (.int .i64 x91)), (113, .vw [] (.rows 3 (List.map e0 c0.2.2.1))), (114, .vw [] (.int .i64 ((List.length c0.2.2.1 : Int)))), (115, .vw [] (.int .i64 x91)), (142, .vw [] (.bool x130))], hl [some (.ptr (.agg [.int .i64 c0.1, .bool c0.2.1, .sh (.rows 3 (List.map e0 c0.2.2.1)), .int .i64 c0.2.2.2.1, .ints .i64 x59, .ints .i64 c0.2.2.2.2.2.1, .ints .i64 x60]))], 1⟩ : St)) ?_ ?_
     ·rintro x130 o h
      unfold impl_slotter_station_j3 at h
      refine seqQ_n (?_)
      rcases its h with ⟨hc131, h⟩ | ⟨hc131, h⟩
      ·refine wp_ct rfl hc131 ?_
       refine wp_seq ?_
       obtain ⟨v132, hv132, h⟩ := bs h
       refine wp_reg (nx' := 177) rfl (ev_den (.ptr 0 [] (some 0)) rfl rfl (ev_den (.ptr 0 [] (some 0)) rfl rfl (ev_den (.ptr 0 [] (some 5)) rfl rfl (ev_den (.ref 0 [.f 5] _ _ _) rfl (d_ld_o rfl (rget_of rfl (get_nil)) rfl rfl) (ev_v rfl rfl (ev_den (.ptr 0 [] (some 0)) rfl rfl (ev_den (.ptr 0 [] (some 0)) rfl rfl (ev_den (.ptr 0 [] (some 3)) rfl rfl (ev_v rfl (d_ld_o rfl (rget_of rfl (get_nil)) rfl rfl) (ev_den (.ptr 0 [.f 5, .e (Int.toNat x91)] none) rfl (d_idx_r (p := [.f 5]) rfl rfl hv132) (ev_wr0 rfl (w_st_p rfl (st1_of rfl rfl rfl (get_f rfl (get_i hv132)) rfl (rput_p (put_f rfl (put_i hv132))))) (ev_nil)))))))))))) (seqQ_n (?_))
       refine wp_seq ?_
       refine wp_reg (nx' := 257) rfl (ev_den (.ptr 0 [.f 4, .e (Int.toNat ((Int.tmod (w64 ((w64 (p1 - (Int.tmod c0.2.2.2.1 c0.1))) + c0.1)) c0.1)))] none) rfl rfl (ev_v rfl rfl (ev_v rfl rfl (ev_den (.ptr 0 [.f 4, .e (Int.toNat ((Int.tmod (w64 ((w64 (p1 - (Int.tmod c0.2.2.2.1 c0.1))) + c0.1)) c0.1)))] none) rfl rfl (ev_wr0 rfl (w_st_p rfl (st1_of rfl rfl rfl (get_f rfl (get_i hv63)) rfl (rput_p (put_f rfl (put_i hv63))))) (ev_nil)))))) (seqQ_n (?_))
       replace h := Option.some.inj h
       subst h
       exact wp_ret (blkQ_r (gcQ_r (gcQ_r (seqQ_r (gcQ_r (loopQ_r (And.intro rfl (outs_ok (vs := []) rfl (absW_nil) rfl rfl))))))))
      ·refine wp_cf rfl hc131 ?_
       refine wp_skip (blkQ_n (gcQ_n (gc_to [] (e := [(0, .ptr 0 [] (some 0)), (1, .vw [] (.int .i64 p1)), (4, .ptr 0 [.f 4, .e (Int.toNat ((Int.tmod (w64 ((w64 (p1 - (Int.tmod c0.2.2.2.1 c0.1))) + c0.1)) c0.1)))] none), (113, .vw [] (.rows 3 (List.map e0 c0.2.2.1))), (114, .vw [] (.int .i64 ((List.length c0.2.2.1 : Int)))), (115, .vw [] (.int .i64 x91))]) (ts := [some (.ptr (.agg [.int .i64 c0.1, .bool c0.2.1, .sh (.rows 3 (List.map e0 c0.2.2.1)), .int .i64 c0.2.2.2.1, .ints .i64 x59, .ints .i64 c0.2.2.2.2.2.1, .ints .i64 x60]))]) (n := 1) rfl rfl rfl rfl) (gcQ_n (gc_to [] (e := [(0, .ptr 0 [] (some 0)), (1, .vw [] (.int .i64 p1)), (4, .ptr 0 [.f 4, .e (Int.toNat ((Int.tmod (w64 ((w64 (p1 - (Int.tmod c0.2.2.2.1 c0.1))) + c0.1)) c0.1)))] none), (113, .vw [] (.rows 3 (List.map e0 c0.2.2.1))), (114, .vw [] (.int .i64 ((List.length c0.2.2.1 : Int)))), (115, .vw [] (.int .i64 x91))]) (ts := [some (.ptr (.agg [.int .i64 c0.1, .bool c0.2.1, .sh (.rows 3 (List.map e0 c0.2.2.1)), .int .i64 c0.2.2.2.1, .ints .i64 x59, .ints .i64 c0.2.2.2.2.2.1, .ints .i64 x60]))]) (n := 1) rfl rfl rfl rfl) (seqQ_n (?_)))))
       replace h := Option.some.inj h
       subst h
       exact wp_reg (nx' := 33) rfl (ev_v rfl rfl (ev_v rfl rfl (ev_nil))) (gcQ_n (gc_to [] (e := [(0, .ptr 0 [] (some 0)), (1, .vw [] (.int .i64 p1)), (4, .ptr 0 [.f 4, .e (Int.toNat ((Int.tmod (w64 ((w64 (p1 - (Int.tmod c0.2.2.2.1 c0.1))) + c0.1)) c0.1)))] none), (113, .vw [] (.rows 3 (List.map e0 c0.2.2.1))), (114, .vw [] (.int .i64 ((List.length c0.2.2.1 : Int)))), (115, .vw [] (.int .i64 ((w64 (x91 + (1 : Int))))))]) (ts := [some (.ptr (.agg [.int .i64 c0.1, .bool c0.2.1, .sh (.rows 3 (List.map e0 c0.2.2.1)), .int .i64 c0.2.2.2.1, .ints .i64 x59, .ints .i64 c0.2.2.2.2.2.1, .ints .i64 x60]))]) (n := 1) rfl rfl rfl rfl) (loopQ_n rfl))
     ·rcases its h with ⟨hc134, h⟩ | ⟨hc134, h⟩
      ·rcases its h with ⟨hc135, h⟩ | ⟨hc135, h⟩
       ·obtain ⟨v136, hv136, h⟩ := bs h
        exact wp_reg (nx' := 465) rfl (ev_den (.ptr 49 [] (some 1)) rfl rfl (ev_v rfl (d_ld_o rfl (rget_of rfl (get_nil)) rfl rfl) (ev_v rfl rfl (ev_v rfl rfl (ev_v rfl rfl (ev_on rfl hc134 (ev_den (.ptr 49 [] (some 0)) rfl rfl (ev_on rfl hc134 (ev_v rfl (d_ld_o rfl (rget_of rfl (get_nil)) rfl rfl) (ev_on rfl hc134 (ev_den (.ptr 0 [] (some 0)) rfl rfl (ev_on rfl hc134 (ev_den (.ptr 0 [] (some 0)) rfl rfl (ev_on rfl hc134 (ev_den (.ptr 0 [] (some 3)) rfl rfl (ev_on rfl hc134 (ev_v rfl (d_ld_o rfl (rget_of rfl (get_nil)) rfl rfl) (ev_on rfl hc134 (ev_v rfl rfl (ev_v rfl (d_pick_t rfl hc134 rfl) (ev_v rfl rfl (ev_on rfl hc135 (ev_den (.ptr 0 [] (some 0)) rfl rfl (ev_on rfl hc135 (ev_den (.ptr 0 [] (some 0)) rfl rfl (ev_on rfl hc135 (ev_den (.ptr 0 [] (some 5)) rfl rfl (ev_on rfl hc135 (ev_den (.ref 0 [.f 5] _ _ _) rfl (d_ld_o rfl (rget_of rfl (get_nil)) rfl rfl) (ev_on rfl hc135 (ev_v rfl rfl (ev_on rfl hc135 (ev_den (.ptr 0 [.f 5, .e (Int.toNat x91)] none) rfl (d_idx_r (p := [.f 5]) rfl rfl hv136) (ev_on rfl hc135 (ev_v rfl (d_ld_p rfl (rget_of rfl (get_f rfl (get_i hv136))) rfl) (ev_on rfl hc135 (ev_v rfl rfl (ev_v rfl (d_pick_t rfl hc135 rfl) (ev_nil))))))))))))))))))))))))))))))))))))))) (joinQ_n (decide (v136 < (0 : Int))) h (gc_to [] rfl rfl rfl rfl))
       ·exact wp_reg (nx' := 465) rfl (ev_den (.ptr 49 [] (some 1)) rfl rfl (ev_v rfl (d_ld_o rfl (rget_of rfl (get_nil)) rfl rfl) (ev_v rfl rfl (ev_v rfl rfl (ev_v rfl rfl (ev_on rfl hc134 (ev_den (.ptr 49 [] (some 0)) rfl rfl (ev_on rfl hc134 (ev_v rfl (d_ld_o rfl (rget_of rfl (get_nil)) rfl rfl) (ev_on rfl hc134 (ev_den (.ptr 0 [] (some 0)) rfl rfl (ev_on rfl hc134 (ev_den (.ptr 0 [] (some 0)) rfl rfl (ev_on rfl hc134 (ev_den (.ptr 0 [] (some 3)) rfl rfl (ev_on rfl hc134 (ev_v rfl (d_ld_o rfl (rget_of rfl (get_nil)) rfl rfl) (ev_on rfl hc134 (ev_v rfl rfl (ev_v rfl (d_pick_t rfl hc134 rfl) (ev_v rfl rfl (ev_off rfl hc135 (ev_off rfl hc135 (ev_off rfl hc135 (ev_off rfl hc135 (ev_off rfl hc135 (ev_off rfl hc135 (ev_off rfl hc135 (ev_off rfl hc135 (ev_v rfl (d_pick_f rfl hc135 rfl) (ev_nil))))))))))))))))))))))))))))))) (joinQ_n false h (gc_to [] rfl rfl rfl rfl))
      ·exact wp_reg (nx' := 465) rfl (ev_den (.ptr 49 [] (some 1)) rfl rfl (ev_v rfl (d_ld_o rfl (rget_of rfl (get_nil)) rfl rfl) (ev_v rfl rfl (ev_v rfl rfl (ev_v rfl rfl (ev_off rfl hc134 (ev_off rfl hc134 (ev_off rfl hc134 (ev_off rfl hc134 (ev_off rfl hc134 (ev_off rfl hc134 (ev_off rfl hc134 (ev_v rfl (d_pick_f rfl hc134 rfl) (ev_v rfl rfl (ev_off rfl rfl (ev_off rfl rfl (ev_off rfl rfl (ev_off rfl rfl (ev_off rfl rfl (ev_off rfl rfl (ev_off rfl rfl (ev_off rfl rfl (ev_v rfl (d_pick_f rfl rfl rfl) (ev_nil)))))))))))))))))))))))) (joinQ_n false h (gc_to [] rfl rfl rfl rfl))
    ·refine wp_cf rfl hc111 ?_
     replace h := Option.some.inj h
     subst h
     exact wp_exit (gcQ_e (seqQ_e (gcQ_e (loopQ_e (And.intro rfl (gc_to [] (e := []) (ts := [some (.ptr (.agg [.int .i64 c0.1, .bool c0.2.1, .sh (.rows 3 (List.map e0 c0.2.2.1)), .int .i64 c0.2.2.2.1, .ints .i64 x59, .ints .i64 c0.2.2.2.2.2.1, .ints .i64 x60]))]) (n := 1) rfl rfl rfl rfl))))))
   ·intro e st140 hg140
    rcases w140 with _ | r141
    ·obtain ⟨rfl, hg140⟩ := hg140
     replace h := Option.some.inj h
     subst h
     exact blkQ_h (gcQ_n hg140 (qf_n ((outs_ok (vs := []) rfl (absW_nil) rfl rfl))))
    ·obtain ⟨rfl, hg140⟩ := hg140
     replace h := Option.some.inj h
     subst h
     exact blkQ_r (gcQ_r (qf_r (hg140)))
 ·refine wp_seq ?_
  refine wp_reg (nx' := 561) rfl (ev_den (.ptr 0 [.f 4, .e (Int.toNat ((Int.tmod (w64 ((w64 (p1 - (Int.tmod c0.2.2.2.1 c0.1))) + c0.1)) c0.1)))] none) rfl rfl (ev_den (.ptr 0 [.f 4, .e (Int.toNat ((Int.tmod (w64 ((w64 (p1 - (Int.tmod c0.2.2.2.1 c0.1))) + c0.1)) c0.1)))] none) rfl rfl (ev_v rfl (d_ld_p rfl (rget_of rfl (get_f rfl (get_i hv42))) rfl) (ev_v rfl rfl (ev_v rfl rfl (ev_nil)))))) (seqQ_n (?_))
  refine wp_seq ?_
  refine wp_reg (nx' := 593) rfl (ev_v rfl rfl (ev_v rfl rfl (ev_nil))) (seqQ_n (?_))
  rcases its h with ⟨hc142, h⟩ | ⟨hc142, h⟩
  ·refine wp_ct rfl hc142 ?_
   refine wp_seq ?_
   obtain ⟨v143, hv143, h⟩ := bs h
   refine wp_reg (nx' := 737) rfl (ev_den (.ptr 0 [] (some 0)) rfl rfl (ev_den (.ptr 0 [] (some 0)) rfl rfl (ev_den (.ptr 0 [] (some 2)) rfl rfl (ev_v rfl (d_ld_o rfl (rget_of rfl (get_nil)) rfl rfl) (ev_v rfl rfl (ev_den (.pv _ _) rfl (d_idx_vr e0 rfl rfl hv143) (ev_den (.agg [(.vw _ _), (.vw _ _), (.vw _ _)]) rfl rfl (ev_new (.ptr 705 [] (some 0)) (.ptr (.agg [.int .i64 ((0 : Int)), .int .i64 ((0 : Int)), .int .i64 ((0 : Int))])) rfl rfl (ev_wr0 rfl (w_st_a rfl rfl rfl (stL_cons (st1_of rfl rfl rfl (get_f rfl (get_nil)) rfl (rput_p (put_f rfl (put_nil)))) rfl (stL_cons (st1_of rfl rfl rfl (get_f rfl (get_nil)) rfl (rput_p (put_f rfl (put_nil)))) rfl (stL_cons (st1_of rfl rfl rfl (get_f rfl (get_nil)) rfl (rput_p (put_f rfl (put_nil)))) rfl (stL_nil))))) (ev_nil)))))))))) (seqQ_n (?_))
   refine wp_seq ?_
   refine wp_join (impl_slotter_station_j4 p1 c0 v42 v143) (fun ((x150, x151) : (List Int) × (List Int)) => (⟨al .dead [(0, .ptr 0 [] (some 0)), (1, .vw [] (.int .i64 p1)), (4, .ptr 0 [.f 4, .e (Int.toNat ((Int.tmod (w64 ((w64 (p1 - (Int.tmod c0.2.2.2.1 c0.1))) + c0.1)) c0.1)))] none), (5, .vw [] (.int .i64 ((w64 (v42 - (1 : Int)))))), (6, .ptr 1 [] (some 0))], hl [some (.ptr (.agg [.int .i64 c0.1, .bool c0.2.1, .sh (.rows 3 (List.map e0 c0.2.2.1)), .int .i64 c0.2.2.2.1, .ints .i64 x150, .ints .i64 c0.2.2.2.2.2.1, .ints .i64 x151])), some (.ptr (.agg [.int .i64 v143.1, .int .i64 v143.2.1, .int .i64 v143.2.2]))], 2⟩ : St)) ?_ ?_
   ·rintro ⟨x150, x151⟩ o h
    unfold impl_slotter_station_j4 at h
    refine seqQ_n (?_)
    refine wp_seq ?_
    refine wp_join (impl_slotter_station_j5 p1 c0 x150 x151) (fun (x155 : Bool) => (⟨al .dead [(0, .ptr 0 [] (some 0)), (1, .vw [] (.int .i64 p1)), (4, .ptr 0 [.f 4, .e (Int.toNat ((Int.tmod (w64 ((w64 (p1 - (Int.tmod c0.2.2.2.1 c0.1))) + c0.1)) c0.1)))] none), (103, .vw [] (.bool x155))], hl [some (.ptr (.agg [.int .i64 c0.1, .bool c0.2.1, .sh (.rows 3 (List.map e0 c0.2.2.1)), .int .i64 c0.2.2.2.1, .ints .i64 x150, .ints .i64 c0.2.2.2.2.2.1, .ints .i64 x151]))], 1⟩ : St)) ?_ ?_
    ·rintro x155 o h
     unfold impl_slotter_station_j5 at h
     refine seqQ_n (?_)
     rcases its h with ⟨hc156, h⟩ | ⟨hc156, h⟩
     ·refine wp_ct rfl hc156 ?_
      refine wp_seq ?_
      obtain ⟨v157, hv157, h⟩ := bs h
      refine wp_reg (nx' := 49) rfl (ev_den (.ptr 0 [.f 4, .e (Int.toNat ((Int.tmod (w64 ((w64 (p1 - (Int.tmod c0.2.2.2.1 c0.1))) + c0.1)) c0.1)))] none) rfl rfl (ev_den (.ptr 0 [.f 4, .e (Int.toNat ((Int.tmod (w64 ((w64 (p1 - (Int.tmod c0.2.2.2.1 c0.1))) + c0.1)) c0.1)))] none) rfl rfl (ev_wr0 rfl (w_st_p rfl (st1_of rfl rfl rfl (get_f rfl (get_i hv157)) rfl (rput_p (put_f rfl (put_i hv157))))) (ev_nil)))) (seqQ_n (?_))
      replace h := Option.some.inj h
      subst h
      exact wp_ret (joinQ_r (seqQ_r (qf_r ((outs_ok (vs := []) rfl (absW_nil) rfl rfl)))))
     ·refine wp_cf rfl hc156 ?_
      exact wp_skip (joinQ_n (x150, x151) h (gc_to [] rfl rfl rfl rfl))
    ·rcases its h with ⟨hc160, h⟩ | ⟨hc160, h⟩
     ·rcases its h with ⟨hc161, h⟩ | ⟨hc161, h⟩
      ·obtain ⟨v162, hv162, h⟩ := bs h
       exact wp_reg (nx' := 338) rfl (ev_den (.ptr 0 [] (some 0)) rfl rfl (ev_den (.ptr 0 [] (some 0)) rfl rfl (ev_den (.ptr 0 [] (some 0)) rfl rfl (ev_den (.ptr 0 [] (some 1)) rfl rfl (ev_v rfl (d_ld_o rfl (rget_of rfl (get_nil)) rfl rfl) (ev_v rfl rfl (ev_on rfl hc160 (ev_den (.ptr 1 [] (some 1)) rfl rfl (ev_on rfl hc160 (ev_v rfl (d_ld_o rfl (rget_of rfl (get_nil)) rfl rfl) (ev_on rfl hc160 (ev_v rfl rfl (ev_on rfl hc160 (ev_v rfl rfl (ev_v rfl (d_pick_t rfl hc160 rfl) (ev_v rfl rfl (ev_on rfl hc161 (ev_den (.ptr 0 [] (some 0)) rfl rfl (ev_on rfl hc161 (ev_den (.ptr 0 [] (some 0)) rfl rfl (ev_on rfl hc161 (ev_den (.ptr 0 [] (some 6)) rfl rfl (ev_on rfl hc161 (ev_den (.ref 0 [.f 6] _ _ _) rfl (d_ld_o rfl (rget_of rfl (get_nil)) rfl rfl) (ev_on rfl hc161 (ev_v rfl rfl (ev_on rfl hc161 (ev_den (.ptr 0 [.f 6, .e (Int.toNat ((w64 (v42 - (1 : Int)))))] none) rfl (d_idx_r (p := [.f 6]) rfl rfl hv162) (ev_on rfl hc161 (ev_v rfl (d_ld_p rfl (rget_of rfl (get_f rfl (get_i hv162))) rfl) (ev_on rfl hc161 (ev_v rfl rfl (ev_v rfl (d_pick_t rfl hc161 rfl) (ev_nil)))))))))))))))))))))))))))))))))) (joinQ_n (decide (v162 ≥ (0 : Int))) h (gc_to [] rfl rfl rfl rfl))
      ·exact wp_reg (nx' := 338) rfl (ev_den (.ptr 0 [] (some 0)) rfl rfl (ev_den (.ptr 0 [] (some 0)) rfl rfl (ev_den (.ptr 0 [] (some 0)) rfl rfl (ev_den (.ptr 0 [] (some 1)) rfl rfl (ev_v rfl (d_ld_o rfl (rget_of rfl (get_nil)) rfl rfl) (ev_v rfl rfl (ev_on rfl hc160 (ev_den (.ptr 1 [] (some 1)) rfl rfl (ev_on rfl hc160 (ev_v rfl (d_ld_o rfl (rget_of rfl (get_nil)) rfl rfl) (ev_on rfl hc160 (ev_v rfl rfl (ev_on rfl hc160 (ev_v rfl rfl (ev_v rfl (d_pick_t rfl hc160 rfl) (ev_v rfl rfl (ev_off rfl hc161 (ev_off rfl hc161 (ev_off rfl hc161 (ev_off rfl hc161 (ev_off rfl hc161 (ev_off rfl hc161 (ev_off rfl hc161 (ev_off rfl hc161 (ev_v rfl (d_pick_f rfl hc161 rfl) (ev_nil)))))))))))))))))))))))))) (joinQ_n false h (gc_to [] rfl rfl rfl rfl))
     ·exact wp_reg (nx' := 338) rfl (ev_den (.ptr 0 [] (some 0)) rfl rfl (ev_den (.ptr 0 [] (some 0)) rfl rfl (ev_den (.ptr 0 [] (some 0)) rfl rfl (ev_den (.ptr 0 [] (some 1)) rfl rfl (ev_v rfl (d_ld_o rfl (rget_of rfl (get_nil)) rfl rfl) (ev_v rfl rfl (ev_off rfl hc160 (ev_off rfl hc160 (ev_off rfl hc160 (ev_off rfl hc160 (ev_v rfl (d_pick_f rfl hc160 rfl) (ev_v rfl rfl (ev_off rfl rfl (ev_off rfl rfl (ev_off rfl rfl (ev_off rfl rfl (ev_off rfl rfl (ev_off rfl rfl (ev_off rfl rfl (ev_off rfl rfl (ev_v rfl (d_pick_f rfl rfl rfl) (ev_nil)))))))))))))))))))))) (joinQ_n false h (gc_to [] rfl rfl rfl rfl))
   ·refine wp_seq ?_
    refine wp_join (impl_slotter_station_j6 p1 c0 v42 v143) (fun (x168 : Bool) => (⟨al .dead [(0, .ptr 0 [] (some 0)), (1, .vw [] (.int .i64 p1)), (4, .ptr 0 [.f 4, .e (Int.toNat ((Int.tmod (w64 ((w64 (p1 - (Int.tmod c0.2.2.2.1 c0.1))) + c0.1)) c0.1)))] none), (5, .vw [] (.int .i64 ((w64 (v42 - (1 : Int)))))), (6, .ptr 1 [] (some 0)), (64, .vw [] (.bool x168))], hl [some (.ptr (.agg [.int .i64 c0.1, .bool c0.2.1, .sh (.rows 3 (List.map e0 c0.2.2.1)), .int .i64 c0.2.2.2.1, .ints .i64 c0.2.2.2.2.1, .ints .i64 c0.2.2.2.2.2.1, .ints .i64 c0.2.2.2.2.2.2])), some (.ptr (.agg [.int .i64 v143.1, .int .i64 v143.2.1, .int .i64 v143.2.2]))], 2⟩ : St)) ?_ ?_
    ·rintro x168 o h
     unfold impl_slotter_station_j6 at h
     refine seqQ_n (?_)
     rcases its h with ⟨hc169, h⟩ | ⟨hc169, h⟩
     ·refine wp_ct rfl hc169 ?_
      refine wp_seq ?_
      obtain ⟨v170, hv170, h⟩ := bs h
      refine wp_reg (nx' := 178) rfl (ev_den (.ptr 0 [] (some 0)) rfl rfl (ev_den (.ptr 0 [] (some 0)) rfl rfl (ev_den (.ptr 0 [] (some 6)) rfl rfl (ev_den (.ref 0 [.f 6] _ _ _) rfl (d_ld_o rfl (rget_of rfl (get_nil)) rfl rfl) (ev_v rfl rfl (ev_den (.ptr 0 [] (some 0)) rfl rfl (ev_den (.ptr 0 [] (some 0)) rfl rfl (ev_den (.ptr 0 [] (some 3)) rfl rfl (ev_v rfl (d_ld_o rfl (rget_of rfl (get_nil)) rfl rfl) (ev_den (.ptr 0 [.f 6, .e (Int.toNat ((w64 (v42 - (1 : Int)))))] none) rfl (d_idx_r (p := [.f 6]) rfl rfl hv170) (ev_wr0 rfl (w_st_p rfl (st1_of rfl rfl rfl (get_f rfl (get_i hv170)) rfl (rput_p (put_f rfl (put_i hv170))))) (ev_nil)))))))))))) (seqQ_n (?_))
      refine wp_seq ?_
      refine wp_reg (nx' := 274) rfl (ev_den (.ptr 0 [] (some 0)) rfl rfl (ev_den (.ptr 0 [] (some 0)) rfl rfl (ev_den (.ptr 0 [] (some 0)) rfl rfl (ev_den (.ptr 0 [] (some 1)) rfl rfl (ev_v rfl (d_ld_o rfl (rget_of rfl (get_nil)) rfl rfl) (ev_v rfl rfl (ev_nil))))))) (seqQ_n (?_))
      rcases its h with ⟨hc171, h⟩ | ⟨hc171, h⟩
      ·refine wp_ct rfl hc171 ?_
       exact wp_reg (nx' := 322) rfl (ev_den (.ptr 0 [.f 4, .e (Int.toNat ((Int.tmod (w64 ((w64 (p1 - (Int.tmod c0.2.2.2.1 c0.1))) + c0.1)) c0.1)))] none) rfl rfl (ev_den (.ptr 0 [.f 4, .e (Int.toNat ((Int.tmod (w64 ((w64 (p1 - (Int.tmod c0.2.2.2.1 c0.1))) + c0.1)) c0.1)))] none) rfl rfl (ev_wr0 rfl (w_st_p rfl (st1_of rfl rfl rfl (get_f rfl (get_i hv42)) rfl (rput_p (put_f rfl (put_i hv42))))) (ev_nil)))) (joinQ_n ((List.set c0.2.2.2.2.1 (Int.toNat ((Int.tmod (w64 ((w64 (p1 - (Int.tmod c0.2.2.2.1 c0.1))) + c0.1)) c0.1))) ((0 : Int))), (List.set c0.2.2.2.2.2.2 (Int.toNat ((w64 (v42 - (1 : Int))))) c0.2.2.2.1)) h (gc_to [1] rfl rfl rfl rfl))
      ·refine wp_cf rfl hc171 ?_
       exact wp_skip (joinQ_n (c0.2.2.2.2.1, (List.set c0.2.2.2.2.2.2 (Int.toNat ((w64 (v42 - (1 : Int))))) c0.2.2.2.1)) h (gc_to [1] rfl rfl rfl rfl))
     ·refine wp_cf rfl hc169 ?_
      exact wp_skip (joinQ_n (c0.2.2.2.2.1, c0.2.2.2.2.2.2) h (gc_to [1] rfl rfl rfl rfl))
    ·rcases its h with ⟨hc178, h⟩ | ⟨hc178, h⟩
     ·obtain ⟨v179, hv179, h⟩ := bs h
      exact wp_reg (nx' := 961) rfl (ev_den (.ptr 705 [] (some 2)) rfl rfl (ev_v rfl (d_ld_o rfl (rget_of rfl (get_nil)) rfl rfl) (ev_v rfl rfl (ev_v rfl rfl (ev_v rfl rfl (ev_on rfl hc178 (ev_den (.ptr 0 [] (some 0)) rfl rfl (ev_on rfl hc178 (ev_den (.ptr 0 [] (some 0)) rfl rfl (ev_on rfl hc178 (ev_den (.ptr 0 [] (some 6)) rfl rfl (ev_on rfl hc178 (ev_den (.ref 0 [.f 6] _ _ _) rfl (d_ld_o rfl (rget_of rfl (get_nil)) rfl rfl) (ev_on rfl hc178 (ev_v rfl rfl (ev_on rfl hc178 (ev_den (.ptr 0 [.f 6, .e (Int.toNat ((w64 (v42 - (1 : Int)))))] none) rfl (d_idx_r (p := [.f 6]) rfl rfl hv179) (ev_on rfl hc178 (ev_v rfl (d_ld_p rfl (rget_of rfl (get_f rfl (get_i hv179))) rfl) (ev_on rfl hc178 (ev_v rfl rfl (ev_v rfl (d_pick_t rfl hc178 rfl) (ev_nil))))))))))))))))))))))) (joinQ_n (decide (v179 < (0 : Int))) h (gc_to [705] rfl rfl rfl rfl))
     ·exact wp_reg (nx' := 961) rfl (ev_den (.ptr 705 [] (some 2)) rfl rfl (ev_v rfl (d_ld_o rfl (rget_of rfl (get_nil)) rfl rfl) (ev_v rfl rfl (ev_v rfl rfl (ev_v rfl rfl (ev_off rfl hc178 (ev_off rfl hc178 (ev_off rfl hc178 (ev_off rfl hc178 (ev_off rfl hc178 (ev_off rfl hc178 (ev_off rfl hc178 (ev_off rfl hc178 (ev_v rfl (d_pick_f rfl hc178 rfl) (ev_nil))))))))))))))) (joinQ_n false h (gc_to [705] rfl rfl rfl rfl))
  ·refine wp_cf rfl hc142 ?_
   exact wp_skip (joinQ_n (c0.2.2.2.2.1, c0.2.2.2.2.2.2) h (gc_to [] rfl rfl rfl rfl))
noncomputable def impl_slotter_step_s1 (c0 : Int × Bool × (List (Int × Int × Int)) × Int × (List Int) × (List Int) × (List Int)) : (Int × Bool × (List (Int × Int × Int)) × Int × (List Int) × (List Int) × (List Int) × Int) → Option ((Int × Bool × (List (Int × Int × Int)) × Int × (List Int) × (List Int) × (List Int) × Int) ⊕ (Int × Bool × (List (Int × Int × Int)) × Int × (List Int) × (List Int) × (List Int))) := fun (x84, x85, x86, x87, x88, x89, x90, x91) =>
if (decide (x91 < c0.1)) = true then
(impl_slotter_station x91 ((x84, x85, x86, x87, x88, x89, x90))).bind fun v123 =>
some (.inl (v123.1, v123.2.1, v123.2.2.1, v123.2.2.2.1, v123.2.2.2.2.1, v123.2.2.2.2.2.1, v123.2.2.2.2.2.2, (w64 (x91 + (1 : Int)))))
else
some (.inr (x84, x85, x86, x87, x88, x89, x90))
noncomputable def impl_slotter_step_l1 (c0 : Int × Bool × (List (Int × Int × Int)) × Int × (List Int) × (List Int) × (List Int)) : (Int × Bool × (List (Int × Int × Int)) × Int × (List Int) × (List Int) × (List Int) × Int) → Option (Int × Bool × (List (Int × Int × Int)) × Int × (List Int) × (List Int) × (List Int)) := iter (impl_slotter_step_s1 c0)
/-- (*loop.example/g01176/impl.slotter).step -/
noncomputable def impl_slotter_step (c0 : Int × Bool × (List (Int × Int × Int)) × Int × (List Int) × (List Int) × (List Int)) : Option ((Int × Bool × (List (Int × Int × Int)) × Int × (List Int) × (List Int) × (List Int))) :=
(impl_slotter_step_l1 c0 (c0.1, c0.2.1, c0.2.2.1, c0.2.2.2.1, c0.2.2.2.2.1, c0.2.2.2.2.2.1, c0.2.2.2.2.2.2, (0 : Int))).bind fun (x102, x103, x104, x105, x106, x107, x108) =>
some (x102, x103, x104, (w64 (x105 + (1 : Int))), x106, x107, x108)
theorem impl_slotter_step_ok {c0 : Int × Bool × (List (Int × Int × Int)) × Int × (List Int) × (List Int) × (List Int)} {o : (Int × Bool × (List (Int × Int × Int)) × Int × (List Int) × (List Int) × (List Int))} (h : impl_slotter_step c0 = some o) : RN 44 [.ref 0] [.ptr (.agg [.int .i64 c0.1, .bool c0.2.1, .sh (.rows 3 (List.map e0 c0.2.2.1)), .int .i64 c0.2.2.2.1, .ints .i64 c0.2.2.2.2.1, .ints .i64 c0.2.2.2.2.2.1, .ints .i64 c0.2.2.2.2.2.2])] = some (.tup [], [.ptr (.agg [.int .i64 o.1, .bool o.2.1, .sh (.rows 3 (List.map e0 o.2.2.1)), .int .i64 o.2.2.2.1, .ints .i64 o.2.2.2.2.1, .ints .i64 o.2.2.2.2.2.1, .ints .i64 o.2.2.2.2.2.2])]) := by
 refine fn_run (o := o) (nr := 1) (F := k44) (st := ⟨entry 0 [.ptr 0 [] (some 0)], fun n => ([.ptr (.agg [.int .i64 c0.1, .bool c0.2.1, .sh (.rows 3 (List.map e0 c0.2.2.1)), .int .i64 c0.2.2.2.1, .ints .i64 c0.2.2.2.2.1, .ints .i64 c0.2.2.2.2.2.1, .ints .i64 c0.2.2.2.2.2.2])] : List T)[n]?, 1⟩) (fun (o : (Int × Bool × (List (Int × Int × Int)) × Int × (List Int) × (List Int) × (List Int))) => (.tup [], [.ptr (.agg [.int .i64 o.1, .bool o.2.1, .sh (.rows 3 (List.map e0 o.2.2.1)), .int .i64 o.2.2.2.1, .ints .i64 o.2.2.2.2.1, .ints .i64 o.2.2.2.2.2.1, .ints .i64 o.2.2.2.2.2.2])])) rfl fns_44 rfl rfl rfl ?_
 refine wp_seq ?_
 refine wp_gc ?_
 refine wp_seq ?_
 refine wp_gc ?_
 refine wp_reg (nx' := 97) rfl (ev_den (.ptr 0 [] (some 0)) rfl rfl (ev_den (.ptr 0 [] (some 0)) rfl rfl (ev_den (.ptr 0 [] (some 0)) rfl rfl (ev_den (.ptr 0 [] (some 0)) rfl rfl (ev_v rfl (d_ld_o rfl (rget_of rfl (get_nil)) rfl rfl) (ev_v rfl rfl (ev_nil))))))) (gcQ_n (gc_to [] (e := [(0, .ptr 0 [] (some 0)), (7, .vw [] (.int .i64 c0.1)), (8, .vw [] (.int .i64 ((0 : Int))))]) (ts := [some (.ptr (.agg [.int .i64 c0.1, .bool c0.2.1, .sh (.rows 3 (List.map e0 c0.2.2.1)), .int .i64 c0.2.2.2.1, .ints .i64 c0.2.2.2.2.1, .ints .i64 c0.2.2.2.2.2.1, .ints .i64 c0.2.2.2.2.2.2]))]) (n := 1) rfl rfl rfl rfl) (seqQ_n (?_)))
 refine wp_gc ?_
 refine wp_blk ?_
 obtain ⟨w139, hw139, h⟩ := bs h
 refine wp_mono (wp_loop (fun ((x84, x85, x86, x87, x88, x89, x90, x91) : Int × Bool × (List (Int × Int × Int)) × Int × (List Int) × (List Int) × (List Int) × Int) => (⟨al .dead [(0, .ptr 0 [] (some 0)), (7, .vw [] (.int .i64 c0.1)), (8, .vw [] (.int .i64 x91))], hl [some (.ptr (.agg [.int .i64 x84, .bool x85, .sh (.rows 3 (List.map e0 x86)), .int .i64 x87, .ints .i64 x88, .ints .i64 x89, .ints .i64 x90]))], 1⟩ : St)) (fun ((x102, x103, x104, x105, x106, x107, x108) : Int × Bool × (List (Int × Int × Int)) × Int × (List Int) × (List Int) × (List Int)) e st => e = .exit 0 ∧ gc 1 [0] st = ⟨al .dead [(0, .ptr 0 [] (some 0))], hl [some (.ptr (.agg [.int .i64 x102, .bool x103, .sh (.rows 3 (List.map e0 x104)), .int .i64 x105, .ints .i64 x106, .ints .i64 x107, .ints .i64 x108]))], 1⟩) hw139 ?_) ?_
 ·rintro ⟨x84, x85, x86, x87, x88, x89, x90, x91⟩ o h
  refine wp_gc ?_
  refine wp_seq ?_
  refine wp_reg (nx' := 17) rfl (ev_v rfl rfl (ev_nil)) (seqQ_n (?_))
  refine wp_seq ?_
  refine wp_gc ?_
  rcases its h with ⟨hc120, h⟩ | ⟨hc120, h⟩
  ·refine wp_ct rfl hc120 ?_
   refine wp_skip (gcQ_n (gc_to [] (e := [(0, .ptr 0 [] (some 0)), (7, .vw [] (.int .i64 c0.1)), (8, .vw [] (.int .i64 x91))]) (ts := [some (.ptr (.agg [.int .i64 x84, .bool x85, .sh (.rows 3 (List.map e0 x86)), .int .i64 x87, .ints .i64 x88, .ints .i64 x89, .ints .i64 x90]))]) (n := 1) rfl rfl rfl rfl) (seqQ_n (?_)))
   refine wp_seq ?_
   refine wp_gc ?_
   refine wp_gc ?_
   refine wp_blk ?_
   refine wp_seq ?_
   refine wp_reg (nx' := 33) rfl (ev_v rfl rfl (ev_v rfl rfl (ev_nil))) (seqQ_n (?_))
   obtain ⟨v123, hv123, h⟩ := bs h
   refine wp_reg (nx' := 81) rfl (ev_den (.ptr 0 [] (some 0)) rfl rfl (ev_v rfl rfl (ev_call1 [(.ptr 0 [] (some 0)), (.vw _ _)] rfl (call_ok (rs := [0]) (rd := []) rfl rfl rfl rfl (argL_cons rfl (argL_cons rfl (argL_nil))) rfl rfl (impl_slotter_station_ok hv123) rfl rfl rfl (bindR_t (bindL_nil)) rfl) (ev_nil)))) (blkQ_n (gcQ_n (gc_to [] (e := [(0, .ptr 0 [] (some 0)), (7, .vw [] (.int .i64 c0.1)), (8, .vw [] (.int .i64 x91))]) (ts := [some (.ptr (.agg [.int .i64 v123.1, .bool v123.2.1, .sh (.rows 3 (List.map e0 v123.2.2.1)), .int .i64 v123.2.2.2.1, .ints .i64 v123.2.2.2.2.1, .ints .i64 v123.2.2.2.2.2.1, .ints .i64 v123.2.2.2.2.2.2]))]) (n := 1) rfl rfl rfl rfl) (gcQ_n (gc_to [] (e := [(0, .ptr 0 [] (some 0)), (7, .vw [] (.int .i64 c0.1)), (8, .vw [] (.int .i64 x91))]) (ts := [some (.ptr (.agg [.int .i64 v123.1, .bool v123.2.1, .sh (.rows 3 (List.map e0 v123.2.2.1)), .int .i64 v123.2.2.2.1, .ints .i64 v123.2.2.2.2.1, .ints .i64 v123.2.2.2.2.2.1, .ints .i64 v123.2.2.2.2.2.2]))]) (n := 1) rfl rfl rfl rfl) (seqQ_n (?_)))))
   replace h := Option.some.inj h
   subst h
   exact wp_reg (nx' := 33) rfl (ev_v rfl rfl (ev_v rfl rfl (ev_nil))) (gcQ_n (gc_to [] (e := [(0, .ptr 0 [] (some 0)), (7, .vw [] (.int .i64 c0.1)), (8, .vw [] (.int .i64 ((w64 (x91 + (1 : Int))))))]) (ts := [some (.ptr (.agg [.int .i64 v123.1, .bool v123.2.1, .sh (.rows 3 (List.map e0 v123.2.2.1)), .int .i64 v123.2.2.2.1, .ints .i64 v123.2.2.2.2.1, .ints .i64 v123.2.2.2.2.2.1, .ints .i64 v123.2.2.2.2.2.2]))]) (n := 1) rfl rfl rfl rfl) (loopQ_n rfl))
  ·refine wp_cf rfl hc120 ?_
   replace h := Option.some.inj h
   subst h
   exact wp_exit (gcQ_e (seqQ_e (gcQ_e (loopQ_e (And.intro rfl (gc_to [] (e := [(0, .ptr 0 [] (some 0))]) (ts := [some (.ptr (.agg [.int .i64 x84, .bool x85, .sh (.rows 3 (List.map e0 x86)), .int .i64 x87, .ints .i64 x88, .ints .i64 x89, .ints .i64 x90]))]) (n := 1) rfl rfl rfl rfl))))))
 ·intro e st139 hg139
  obtain ⟨x102, x103, x104, x105, x106, x107, x108⟩ := w139
  obtain ⟨rfl, hg139⟩ := hg139
  refine blkQ_h (gcQ_n hg139 (gcQ_n (gc_to [] (e := [(0, .ptr 0 [] (some 0))]) (ts := [some (.ptr (.agg [.int .i64 x102, .bool x103, .sh (.rows 3 (List.map e0 x104)), .int .i64 x105, .ints .i64 x106, .ints .i64 x107, .ints .i64 x108]))]) (n := 1) rfl rfl rfl rfl) (seqQ_n (?_))))
  replace h := Option.some.inj h
  subst h
  exact wp_reg (nx' := 129) rfl (ev_den (.ptr 0 [] (some 0)) rfl rfl (ev_den (.ptr 0 [] (some 0)) rfl rfl (ev_den (.ptr 0 [] (some 3)) rfl rfl (ev_v rfl (d_ld_o rfl (rget_of rfl (get_nil)) rfl rfl) (ev_v rfl rfl (ev_den (.ptr 0 [] (some 0)) rfl rfl (ev_den (.ptr 0 [] (some 3)) rfl rfl (ev_wr0 rfl (w_st_o rfl rfl (st1_of rfl rfl rfl (get_f rfl (get_nil)) rfl (rput_p (put_f rfl (put_nil))))) (ev_nil))))))))) (qf_n ((outs_ok (vs := []) rfl (absW_nil) rfl rfl)))
noncomputable def impl_slotted_s1 : (Int × Bool × (List (Int × Int × Int)) × Int × (List Int) × (List Int) × (List Int)) → Option ((Int × Bool × (List (Int × Int × Int)) × Int × (List Int) × (List Int) × (List Int)) ⊕ (Int × Bool × (List (Int × Int × Int)) × Int × (List Int) × (List Int) × (List Int))) := fun (x88, x89, x90, x91, x92, x93, x94) =>
(slices_Contains x94 ((-1 : Int))).bind fun v124 =>
if v124 = true then
(impl_slotter_step ((x88, x89, x90, x91, x92, x93, x94))).bind fun v127 =>
some (.inl (v127.1, v127.2.1, v127.2.2.1, v127.2.2.2.1, v127.2.2.2.2.1, v127.2.2.2.2.2.1, v127.2.2.2.2.2.2))
else
some (.inr (x88, x89, x90, x91, x92, x93, x94))
noncomputable def impl_slotted_l1 : (Int × Bool × (List (Int × Int × Int)) × Int × (List Int) × (List Int) × (List Int)) → Option (Int × Bool × (List (Int × Int × Int)) × Int × (List Int) × (List Int) × (List Int)) := iter (impl_slotted_s1)
/-- loop.example/g01176/impl.slotted -/
noncomputable def impl_slotted (p0 : Int × Bool) (p1 : List (Int × Int × Int)) : Option (((List Int) × (List Int))) :=
(impl_newSlotter p0 p1).bind fun v30 =>
(impl_slotted_l1 (v30.1, v30.2.1, v30.2.2.1, v30.2.2.2.1, v30.2.2.2.2.1, v30.2.2.2.2.2.1, v30.2.2.2.2.2.2)).bind fun (x105, x106, x107, x108, x109, x110, x111) =>
some (x110, x111)
theorem impl_slotted_ok {p0 : Int × Bool} {p1 : List (Int × Int × Int)} {o : ((List Int) × (List Int))} (h : impl_slotted p0 p1 = some o) : RN 48 [.agg [.int .i64 p0.1, .bool p0.2], .rows 3 (List.map e0 p1)] [] = some (.tup [.ints .i64 o.1, .ints .i64 o.2], []) := by
 refine fn_run (o := o) (nr := 0) (F := k48) (st := ⟨entry 0 [.agg [.vw [] (.int .i64 p0.1), .vw [] (.bool p0.2)], .vw [] (.rows 3 (List.map e0 p1))], fun n => ([] : List T)[n]?, 0⟩) (fun (o : ((List Int) × (List Int))) => (.tup [.ints .i64 o.1, .ints .i64 o.2], [])) rfl fns_48 rfl rfl rfl ?_
 refine wp_seq ?_
 refine wp_reg (nx' := 48) rfl (ev_wr rfl (w_box (sv := (.agg [(.vw _ _), (.vw _ _)])) rfl rfl (absW_cons rfl rfl (absW_cons rfl rfl (absW_nil)))) (ev_new (.ref 16 [] 1 0 0) (.ints .i64 []) rfl rfl (ev_new (.ref 32 [] 1 0 0) (.ints .i64 []) rfl rfl (ev_nil)))) (seqQ_n (?_))
 refine wp_seq ?_
 refine wp_gc ?_
 obtain ⟨v30, hv30, h⟩ := bs h
 refine wp_reg (nx' := 112) rfl (ev_den (.agg [(.vw _ _), (.vw _ _)]) rfl (d_ld_os rfl (rget_of rfl (get_nil)) rfl (cells_cons rfl (cells_cons rfl (cells_nil)))) (ev_v rfl rfl (ev_call0 [(.agg [(.vw _ _), (.vw _ _)]), (.vw _ _)] rfl (call_ok (rs := []) (rd := []) rfl rfl rfl rfl (argL_cons (argT_a (argL_cons rfl (argL_cons rfl (argL_nil)))) (argL_cons rfl (argL_nil))) rfl rfl (impl_newSlotter_ok hv30) rfl rfl rfl rfl rfl) (ev_den (.ptr 80 [] (some 0)) rfl rfl (ev_nil))))) (gcQ_n (gc_to [80] (e := [(6, .ptr 0 [] (some 0))]) (ts := [some (.ptr (.agg [.int .i64 v30.1, .bool v30.2.1, .sh (.rows 3 (List.map e0 v30.2.2.1)), .int .i64 v30.2.2.2.1, .ints .i64 v30.2.2.2.2.1, .ints .i64 v30.2.2.2.2.2.1, .ints .i64 v30.2.2.2.2.2.2]))]) (n := 1) rfl rfl rfl rfl) (seqQ_n (?_)))
 refine wp_seq ?_
 refine wp_gc ?_
 refine wp_gc ?_
 refine wp_blk ?_
 obtain ⟨w142, hw142, h⟩ := bs h
 refine wp_mono (wp_loop (fun ((x88, x89, x90, x91, x92, x93, x94) : Int × Bool × (List (Int × Int × Int)) × Int × (List Int) × (List Int) × (List Int)) => (⟨al .dead [(6, .ptr 0 [] (some 0))], hl [some (.ptr (.agg [.int .i64 x88, .bool x89, .sh (.rows 3 (List.map e0 x90)), .int .i64 x91, .ints .i64 x92, .ints .i64 x93, .ints .i64 x94]))], 1⟩ : St)) (fun ((x105, x106, x107, x108, x109, x110, x111) : Int × Bool × (List (Int × Int × Int)) × Int × (List Int) × (List Int) × (List Int)) e st => e = .exit 0 ∧ gc 0 [6] st = ⟨al .dead [(6, .ptr 0 [] (some 0))], hl [some (.ptr (.agg [.int .i64 x105, .bool x106, .sh (.rows 3 (List.map e0 x107)), .int .i64 x108, .ints .i64 x109, .ints .i64 x110, .ints .i64 x111]))], 1⟩) hw142 ?_) ?_
 ·rintro ⟨x88, x89, x90, x91, x92, x93, x94⟩ o h
  refine wp_gc ?_
  refine wp_seq ?_
  refine wp_gc ?_
  refine wp_seq ?_
  obtain ⟨v124, hv124, h⟩ := bs h
  refine wp_reg (nx' := 81) rfl (ev_den (.ptr 0 [] (some 0)) rfl rfl (ev_den (.ptr 0 [] (some 0)) rfl rfl (ev_den (.ptr 0 [] (some 6)) rfl rfl (ev_den (.ref 0 [.f 6] _ _ _) rfl (d_ld_o rfl (rget_of rfl (get_nil)) rfl rfl) (ev_call0 [(.ref 0 [.f 6] _ _ _), (.vw _ _)] rfl (call_ok (rs := []) (rd := [0]) rfl rfl rfl rfl (argL_cons (argT_r (rget_of rfl (get_f rfl (get_nil))) sub_i) (argL_cons rfl (argL_nil))) rfl rfl (slices_Contains_ok hv124) rfl rfl rfl rfl rfl) (ev_nil)))))) (seqQ_n (?_))
  rcases its h with ⟨hc125, h⟩ | ⟨hc125, h⟩
  ·refine wp_ct rfl hc125 ?_
   refine wp_skip (gcQ_n (gc_to [0] (e := [(6, .ptr 0 [] (some 0))]) (ts := [some (.ptr (.agg [.int .i64 x88, .bool x89, .sh (.rows 3 (List.map e0 x90)), .int .i64 x91, .ints .i64 x92, .ints .i64 x93, .ints .i64 x94]))]) (n := 1) rfl rfl rfl rfl) (seqQ_n (?_)))
   refine wp_gc ?_
   refine wp_blk ?_
   obtain ⟨v127, hv127, h⟩ := bs h
   replace h := Option.some.inj h
   subst h
   exact wp_reg (nx' := 33) rfl (ev_den (.ptr 0 [] (some 0)) rfl rfl (ev_call1 [(.ptr 0 [] (some 0))] rfl (call_ok (rs := [0]) (rd := []) rfl rfl rfl rfl (argL_cons rfl (argL_nil)) rfl rfl (impl_slotter_step_ok hv127) rfl rfl rfl (bindR_t (bindL_nil)) rfl) (ev_nil))) (blkQ_n (gcQ_n (gc_to [0] (e := [(6, .ptr 0 [] (some 0))]) (ts := [some (.ptr (.agg [.int .i64 v127.1, .bool v127.2.1, .sh (.rows 3 (List.map e0 v127.2.2.1)), .int .i64 v127.2.2.2.1, .ints .i64 v127.2.2.2.2.1, .ints .i64 v127.2.2.2.2.2.1, .ints .i64 v127.2.2.2.2.2.2]))]) (n := 1) rfl rfl rfl rfl) (gcQ_n (gc_to [0] (e := [(6, .ptr 0 [] (some 0))]) (ts := [some (.ptr (.agg [.int .i64 v127.1, .bool v127.2.1, .sh (.rows 3 (List.map e0 v127.2.2.1)), .int .i64 v127.2.2.2.1, .ints .i64 v127.2.2.2.2.1, .ints .i64 v127.2.2.2.2.2.1, .ints .i64 v127.2.2.2.2.2.2]))]) (n := 1) rfl rfl rfl rfl) (loopQ_n rfl))))
  ·refine wp_cf rfl hc125 ?_
   replace h := Option.some.inj h
   subst h
   exact wp_exit (gcQ_e (seqQ_e (gcQ_e (loopQ_e (And.intro rfl (gc_to [0] (e := [(6, .ptr 0 [] (some 0))]) (ts := [some (.ptr (.agg [.int .i64 x88, .bool x89, .sh (.rows 3 (List.map e0 x90)), .int .i64 x91, .ints .i64 x92, .ints .i64 x93, .ints .i64 x94]))]) (n := 1) rfl rfl rfl rfl))))))
 ·intro e st142 hg142
  obtain ⟨x105, x106, x107, x108, x109, x110, x111⟩ := w142
  obtain ⟨rfl, hg142⟩ := hg142
  refine blkQ_h (gcQ_n hg142 (gcQ_n (gc_to [0] (e := [(6, .ptr 0 [] (some 0))]) (ts := [some (.ptr (.agg [.int .i64 x105, .bool x106, .sh (.rows 3 (List.map e0 x107)), .int .i64 x108, .ints .i64 x109, .ints .i64 x110, .ints .i64 x111]))]) (n := 1) rfl rfl rfl rfl) (seqQ_n (?_))))
  refine wp_seq ?_
  refine wp_reg (nx' := 161) rfl (ev_den (.ptr 0 [] (some 0)) rfl rfl (ev_den (.ptr 0 [] (some 0)) rfl rfl (ev_den (.ptr 0 [] (some 5)) rfl rfl (ev_den (.ref 0 [.f 5] _ _ _) rfl (d_ld_o rfl (rget_of rfl (get_nil)) rfl rfl) (ev_den (.ptr 0 [] (some 0)) rfl rfl (ev_den (.ptr 0 [] (some 0)) rfl rfl (ev_den (.ptr 0 [] (some 6)) rfl rfl (ev_den (.ref 0 [.f 6] _ _ _) rfl (d_ld_o rfl (rget_of rfl (get_nil)) rfl rfl) (ev_den (.ref 0 [.f 5] _ _ _) rfl rfl (ev_den (.ref 0 [.f 6] _ _ _) rfl rfl (ev_nil))))))))))) (seqQ_n (?_))
  replace h := Option.some.inj h
  subst h
  exact wp_ret (qf_r ((outs_ok (vs := [(.ref 0 [.f 5] _ _ _), (.ref 0 [.f 6] _ _ _)]) rfl (absW_cons (retT_ref (abs_refp (r := .ptr (.agg [.int .i64 x105, .bool x106, .sh (.rows 3 (List.map e0 x107)), .int .i64 x108, .ints .i64 x109, .ints .i64 x110, .ints .i64 x111])) rfl (get_f rfl (get_nil)) sub_i (rput_p (put_f rfl (put_nil))))) rfl (absW_cons (retT_ref (abs_refp (r := .ptr (.agg [.int .i64 x105, .bool x106, .sh (.rows 3 (List.map e0 x107)), .int .i64 x108, .ints .i64 x109, .dead, .ints .i64 x111])) rfl (get_f rfl (get_nil)) sub_i (rput_p (put_f rfl (put_nil))))) rfl (absW_nil))) rfl rfl)))
/-- loop.example/g01176/impl.ReadAt -/
noncomputable def impl_ReadAt (p0 : Int × Bool) (p1 : List (Int × Int × Int)) : Option (((List Int) × Bool)) :=
(impl_isSlotted p0 p1).bind fun v6 =>
if (!v6) = true then
some ([], false)
else
(impl_slotted p0 p1).bind fun v8 =>
some (v8.2, true)
theorem impl_ReadAt_ok {p0 : Int × Bool} {p1 : List (Int × Int × Int)} {o : ((List Int) × Bool)} (h : impl_ReadAt p0 p1 = some o) : RN 11 [.agg [.int .i64 p0.1, .bool p0.2], .rows 3 (List.map e0 p1)] [] = some (.tup [.ints .i64 o.1, .bool o.2], []) := by
 refine fn_run (o := o) (nr := 0) (F := k11) (st := ⟨entry 0 [.agg [.vw [] (.int .i64 p0.1), .vw [] (.bool p0.2)], .vw [] (.rows 3 (List.map e0 p1))], fun n => ([] : List T)[n]?, 0⟩) (fun (o : ((List Int) × Bool)) => (.tup [.ints .i64 o.1, .bool o.2], [])) rfl fns_11 rfl rfl rfl ?_
 refine wp_seq ?_
 refine wp_reg (nx' := 48) rfl (ev_wr rfl (w_box (sv := (.agg [(.vw _ _), (.vw _ _)])) rfl rfl (absW_cons rfl rfl (absW_cons rfl rfl (absW_nil)))) (ev_new (.ref 16 [] 1 0 0) (.ints .i64 []) rfl rfl (ev_v rfl rfl (ev_nil)))) (seqQ_n (?_))
 refine wp_seq ?_
 refine wp_gc ?_
 refine wp_seq ?_
 obtain ⟨v6, hv6, h⟩ := bs h
 refine wp_reg (nx' := 112) rfl (ev_den (.agg [(.vw _ _), (.vw _ _)]) rfl (d_ld_os rfl (rget_of rfl (get_nil)) rfl (cells_cons rfl (cells_cons rfl (cells_nil)))) (ev_v rfl rfl (ev_call0 [(.agg [(.vw _ _), (.vw _ _)]), (.vw _ _)] rfl (call_ok (rs := []) (rd := []) rfl rfl rfl rfl (argL_cons (argT_a (argL_cons rfl (argL_cons rfl (argL_nil)))) (argL_cons rfl (argL_nil))) rfl rfl (impl_isSlotted_ok hv6) rfl rfl rfl rfl rfl) (ev_v rfl rfl (ev_nil))))) (seqQ_n (?_))
 rcases its h with ⟨hc7, h⟩ | ⟨hc7, h⟩
 ·refine wp_ct rfl hc7 ?_
  refine wp_seq ?_
  refine wp_reg (nx' := 144) rfl (ev_new (.ref 112 [] 1 0 0) (.ints .i64 []) rfl rfl (ev_v rfl rfl (ev_nil))) (seqQ_n (?_))
  replace h := Option.some.inj h
  subst h
  exact wp_ret (gcQ_r (seqQ_r (qf_r ((outs_ok (vs := [(.ref 112 _ _ _ _), (.vw _ _)]) rfl (absW_cons (retT_ref (abs_ref rfl sub_i)) rfl (absW_cons rfl rfl (absW_nil))) rfl rfl)))))
 ·refine wp_cf rfl hc7 ?_
  refine wp_skip (gcQ_n (gc_to [0] (e := [(1, .vw [] (.rows 3 (List.map e0 p1))), (2, .ptr 0 [] (some 0))]) (ts := [some (.ptr (.agg [.int .i64 p0.1, .bool p0.2]))]) (n := 1) rfl rfl rfl rfl) (seqQ_n (?_)))
  refine wp_seq ?_
  obtain ⟨v8, hv8, h⟩ := bs h
  refine wp_reg (nx' := 129) rfl (ev_den (.agg [(.vw _ _), (.vw _ _)]) rfl (d_ld_os rfl (rget_of rfl (get_nil)) rfl (cells_cons rfl (cells_cons rfl (cells_nil)))) (ev_v rfl rfl (ev_call0 [(.agg [(.vw _ _), (.vw _ _)]), (.vw _ _)] rfl (call_ok (rs := []) (rd := []) rfl rfl rfl rfl (argL_cons (argT_a (argL_cons rfl (argL_cons rfl (argL_nil)))) (argL_cons rfl (argL_nil))) rfl rfl (impl_slotted_ok hv8) rfl rfl rfl (bindR_t (bindL_cons rfl (bindL_cons rfl (bindL_nil)))) rfl) (ev_den (.tup [(.ref 33 _ _ _ _), (.ref 34 _ _ _ _)]) rfl rfl (ev_den (.ref 33 _ _ _ _) rfl rfl (ev_den (.ref 34 _ _ _ _) rfl rfl (ev_den (.ref 33 _ _ _ _) rfl rfl (ev_den (.ref 34 _ _ _ _) rfl rfl (ev_nil))))))))) (seqQ_n (?_))
  refine wp_seq ?_
  refine wp_reg (nx' := 177) rfl (ev_den (.ref 34 _ _ _ _) rfl rfl (ev_den (.ref 34 _ _ _ _) rfl rfl (ev_v rfl rfl (ev_nil)))) (seqQ_n (?_))
  replace h := Option.some.inj h
  subst h
  exact wp_ret (qf_r ((outs_ok (vs := [(.ref 34 _ _ _ _), (.vw _ _)]) rfl (absW_cons (retT_ref (abs_ref rfl sub_i)) rfl (absW_cons rfl rfl (absW_nil))) rfl rfl)))
end Go.Proofs.Yteeejellpcikkaa.Ev.G5
