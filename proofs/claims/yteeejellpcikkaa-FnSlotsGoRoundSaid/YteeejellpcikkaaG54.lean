/- What functions of the program come to, as plain functions; no condition. -/
import Derived.Test.YteeejellpcikkaaG53
set_option linter.unusedVariables false
set_option linter.unusedSimpArgs false
set_option maxRecDepth 100000
set_option maxHeartbeats 4000000
set_option linter.unusedVariables false
namespace Go.Proofs.Yteeejellpcikkaa.Ev.G5
open Go
noncomputable def spec_slRun_tick_j2 (x232 : Int) : (Int × Bool × (List (Int × Int × Int)) × (List Int) × (List Int) × (List Int)) → Option ((Int × Bool × (List (Int × Int × Int)) × (List Int) × (List Int) × (List Int) × Int) ⊕ (Int × Bool × (List (Int × Int × Int)) × (List Int) × (List Int) × (List Int))) := fun (x359, x360, x361, x362, x363, x364) =>
some (.inl (x359, x360, x361, x362, x363, x364, (w64 (x232 + (1 : Int)))))
noncomputable def spec_slRun_tick_j4 (p1 : Int) (c0 : Int × Bool × (List (Int × Int × Int)) × (List Int) × (List Int) × (List Int)) (x226 : Int) (x227 : Bool) (x228 : List (Int × Int × Int)) (x230 : List Int) (x232 : Int) (x420 : List Int) (x421 : List Int) : Bool → Option ((Int × Bool × (List (Int × Int × Int)) × (List Int) × (List Int) × (List Int) × Int) ⊕ (Int × Bool × (List (Int × Int × Int)) × (List Int) × (List Int) × (List Int))) := fun x431 =>
if x431 = true then
spec_slRun_tick_j2 x232 (x226, x227, x228, x420, x230, x421)
else
(spec_slRun_next ((Int.tmod (w64 (x232 + p1)) c0.1)) p1 ((x226, x227, x228, x420, x230, x421))).bind fun v439 =>
if (decide (v439.1 ≥ (0 : Int))) = true then
(at? v439.2.2.2.2.1 x232).bind fun v441 =>
(at? v439.2.2.2.2.2.1 v439.1).bind fun v442 =>
spec_slRun_tick_j2 x232 (v439.2.1, v439.2.2.1, v439.2.2.2.1, (List.set v439.2.2.2.2.1 (Int.toNat x232) ((w64 (v439.1 + (1 : Int))))), (List.set v439.2.2.2.2.2.1 (Int.toNat v439.1) p1), v439.2.2.2.2.2.2)
else
spec_slRun_tick_j2 x232 (v439.2.1, v439.2.2.1, v439.2.2.2.1, v439.2.2.2.2.1, v439.2.2.2.2.2.1, v439.2.2.2.2.2.2)
noncomputable def spec_slRun_tick_j3 (p1 : Int) (c0 : Int × Bool × (List (Int × Int × Int)) × (List Int) × (List Int) × (List Int)) (x226 : Int) (x227 : Bool) (x228 : List (Int × Int × Int)) (x230 : List Int) (x232 : Int) : ((List Int) × (List Int) × Bool) → Option ((Int × Bool × (List (Int × Int × Int)) × (List Int) × (List Int) × (List Int) × Int) ⊕ (Int × Bool × (List (Int × Int × Int)) × (List Int) × (List Int) × (List Int))) := fun (x420, x421, x422) =>
(at? x420 x232).bind fun v455 =>
if (decide (v455 > (0 : Int))) = true then
spec_slRun_tick_j4 p1 c0 x226 x227 x228 x230 x232 x420 x421 true
else
if x422 = true then
spec_slRun_tick_j4 p1 c0 x226 x227 x228 x230 x232 x420 x421 x227
else
spec_slRun_tick_j4 p1 c0 x226 x227 x228 x230 x232 x420 x421 false
noncomputable def spec_slRun_tick_j6 (p1 : Int) (c0 : Int × Bool × (List (Int × Int × Int)) × (List Int) × (List Int) × (List Int)) (x226 : Int) (x227 : Bool) (x228 : List (Int × Int × Int)) (x229 : List Int) (x230 : List Int) (x232 : Int) (x469 : List Int) : Bool → Option ((Int × Bool × (List (Int × Int × Int)) × (List Int) × (List Int) × (List Int) × Int) ⊕ (Int × Bool × (List (Int × Int × Int)) × (List Int) × (List Int) × (List Int))) := fun x476 =>
if x476 = true then
spec_slRun_tick_j3 p1 c0 x226 x227 x228 x230 x232 ((List.set x229 (Int.toNat x232) ((0 : Int))), x469, x476)
else
spec_slRun_tick_j3 p1 c0 x226 x227 x228 x230 x232 (x229, x469, x476)
noncomputable def spec_slRun_tick_j7 (p1 : Int) (c0 : Int × Bool × (List (Int × Int × Int)) × (List Int) × (List Int) × (List Int)) (x226 : Int) (x227 : Bool) (x228 : List (Int × Int × Int)) (x229 : List Int) (x230 : List Int) (x232 : Int) (x469 : List Int) (x470 : Bool) : Bool → Option ((Int × Bool × (List (Int × Int × Int)) × (List Int) × (List Int) × (List Int) × Int) ⊕ (Int × Bool × (List (Int × Int × Int)) × (List Int) × (List Int) × (List Int))) := fun x487 =>
if x487 = true then
spec_slRun_tick_j6 p1 c0 x226 x227 x228 x229 x230 x232 x469 true
else
spec_slRun_tick_j6 p1 c0 x226 x227 x228 x229 x230 x232 x469 x470
noncomputable def spec_slRun_tick_j5 (p1 : Int) (c0 : Int × Bool × (List (Int × Int × Int)) × (List Int) × (List Int) × (List Int)) (x226 : Int) (x227 : Bool) (x228 : List (Int × Int × Int)) (x229 : List Int) (x230 : List Int) (x232 : Int) (v461 : Int) (v463 : Int × Int × Int) : ((List Int) × Bool) → Option ((Int × Bool × (List (Int × Int × Int)) × (List Int) × (List Int) × (List Int) × Int) ⊕ (Int × Bool × (List (Int × Int × Int)) × (List Int) × (List Int) × (List Int))) := fun (x469, x470) =>
if x227 = true then
if (v463.2.1 == (Int.tmod (w64 (x232 + p1)) c0.1)) = true then
(at? x469 ((w64 (v461 - (1 : Int))))).bind fun v493 =>
spec_slRun_tick_j7 p1 c0 x226 x227 x228 x229 x230 x232 x469 x470 (decide (v493 ≥ (0 : Int)))
else
spec_slRun_tick_j7 p1 c0 x226 x227 x228 x229 x230 x232 x469 x470 false
else
spec_slRun_tick_j7 p1 c0 x226 x227 x228 x229 x230 x232 x469 x470 false
noncomputable def spec_slRun_tick_j8 (p1 : Int) (c0 : Int × Bool × (List (Int × Int × Int)) × (List Int) × (List Int) × (List Int)) (x226 : Int) (x227 : Bool) (x228 : List (Int × Int × Int)) (x229 : List Int) (x230 : List Int) (x231 : List Int) (x232 : Int) (v461 : Int) (v463 : Int × Int × Int) : Bool → Option ((Int × Bool × (List (Int × Int × Int)) × (List Int) × (List Int) × (List Int) × Int) ⊕ (Int × Bool × (List (Int × Int × Int)) × (List Int) × (List Int) × (List Int))) := fun x499 =>
if x499 = true then
(at? x231 ((w64 (v461 - (1 : Int))))).bind fun v501 =>
spec_slRun_tick_j5 p1 c0 x226 x227 x228 x229 x230 x232 v461 v463 ((List.set x231 (Int.toNat ((w64 (v461 - (1 : Int))))) p1), (!x227))
else
spec_slRun_tick_j5 p1 c0 x226 x227 x228 x229 x230 x232 v461 v463 (x231, false)
noncomputable def spec_slRun_tick_s1 (p1 : Int) (c0 : Int × Bool × (List (Int × Int × Int)) × (List Int) × (List Int) × (List Int)) : (Int × Bool × (List (Int × Int × Int)) × (List Int) × (List Int) × (List Int) × Int) → Option ((Int × Bool × (List (Int × Int × Int)) × (List Int) × (List Int) × (List Int) × Int) ⊕ (Int × Bool × (List (Int × Int × Int)) × (List Int) × (List Int) × (List Int))) := fun (x226, x227, x228, x229, x230, x231, x232) =>
if (decide (x232 < (List.length c0.2.2.2.1 : Int))) = true then
(nz? c0.1).bind fun u402 =>
(at? x229 x232).bind fun v461 =>
if (decide ((w64 (v461 - (1 : Int))) ≥ (0 : Int))) = true then
(at? x228 ((w64 (v461 - (1 : Int))))).bind fun v463 =>
if (v463.2.2 == (Int.tmod (w64 (x232 + p1)) c0.1)) = true then
(at? x231 ((w64 (v461 - (1 : Int))))).bind fun v507 =>
spec_slRun_tick_j8 p1 c0 x226 x227 x228 x229 x230 x231 x232 v461 v463 (decide (v507 < (0 : Int)))
else
spec_slRun_tick_j8 p1 c0 x226 x227 x228 x229 x230 x231 x232 v461 v463 false
else
spec_slRun_tick_j3 p1 c0 x226 x227 x228 x230 x232 (x229, x231, false)
else
some (.inr (x226, x227, x228, x229, x230, x231))
noncomputable def spec_slRun_tick_l1 (p1 : Int) (c0 : Int × Bool × (List (Int × Int × Int)) × (List Int) × (List Int) × (List Int)) : (Int × Bool × (List (Int × Int × Int)) × (List Int) × (List Int) × (List Int) × Int) → Option (Int × Bool × (List (Int × Int × Int)) × (List Int) × (List Int) × (List Int)) := iter (spec_slRun_tick_s1 p1 c0)
/-- (*loop.example/g01176/spec.slRun).tick -/
noncomputable def spec_slRun_tick (p1 : Int) (c0 : Int × Bool × (List (Int × Int × Int)) × (List Int) × (List Int) × (List Int)) : Option ((Int × Bool × (List (Int × Int × Int)) × (List Int) × (List Int) × (List Int))) :=
(spec_slRun_tick_l1 p1 c0 (c0.1, c0.2.1, c0.2.2.1, c0.2.2.2.1, c0.2.2.2.2.1, c0.2.2.2.2.2, (0 : Int))).bind fun (x277, x278, x279, x280, x281, x282) =>
some (x277, x278, x279, x280, x281, x282)
theorem spec_slRun_tick_ok {p1 : Int} {c0 : Int × Bool × (List (Int × Int × Int)) × (List Int) × (List Int) × (List Int)} {o : (Int × Bool × (List (Int × Int × Int)) × (List Int) × (List Int) × (List Int))} (h : spec_slRun_tick p1 c0 = some o) : RN 53 [.ref 0, .int .i64 p1] [.ptr (.agg [.int .i64 c0.1, .bool c0.2.1, .sh (.rows 3 (List.map e0 c0.2.2.1)), .ints .i64 c0.2.2.2.1, .ints .i64 c0.2.2.2.2.1, .ints .i64 c0.2.2.2.2.2])] = some (.tup [], [.ptr (.agg [.int .i64 o.1, .bool o.2.1, .sh (.rows 3 (List.map e0 o.2.2.1)), .ints .i64 o.2.2.2.1, .ints .i64 o.2.2.2.2.1, .ints .i64 o.2.2.2.2.2])]) := by
 refine fn_run (o := o) (nr := 1) (F := k53) (st := ⟨entry 0 [.ptr 0 [] (some 0), .vw [] (.int .i64 p1)], fun n => ([.ptr (.agg [.int .i64 c0.1, .bool c0.2.1, .sh (.rows 3 (List.map e0 c0.2.2.1)), .ints .i64 c0.2.2.2.1, .ints .i64 c0.2.2.2.2.1, .ints .i64 c0.2.2.2.2.2])] : List T)[n]?, 1⟩) (fun (o : (Int × Bool × (List (Int × Int × Int)) × (List Int) × (List Int) × (List Int))) => (.tup [], [.ptr (.agg [.int .i64 o.1, .bool o.2.1, .sh (.rows 3 (List.map e0 o.2.2.1)), .ints .i64 o.2.2.2.1, .ints .i64 o.2.2.2.2.1, .ints .i64 o.2.2.2.2.2])])) rfl fns_53 rfl rfl rfl ?_
 refine wp_seq ?_
 refine wp_reg (nx' := 97) rfl (ev_den (.ptr 0 [] (some 0)) rfl rfl (ev_den (.ptr 0 [] (some 0)) rfl rfl (ev_den (.ptr 0 [] (some 0)) rfl rfl (ev_den (.ptr 0 [] (some 0)) rfl rfl (ev_v rfl (d_ld_o rfl (rget_of rfl (get_nil)) rfl rfl) (ev_v rfl rfl (ev_nil))))))) (seqQ_n (?_))
 refine wp_seq ?_
 refine wp_gc ?_
 refine wp_reg (nx' := 193) rfl (ev_den (.ptr 0 [] (some 0)) rfl rfl (ev_den (.ptr 0 [] (some 0)) rfl rfl (ev_den (.ptr 0 [] (some 3)) rfl rfl (ev_den (.ref 0 [.f 3] _ _ _) rfl (d_ld_o rfl (rget_of rfl (get_nil)) rfl rfl) (ev_v rfl rfl (ev_v rfl rfl (ev_nil))))))) (gcQ_n (gc_to [] (e := [(0, .ptr 0 [] (some 0)), (1, .vw [] (.int .i64 p1)), (4, .vw [] (.int .i64 c0.1)), (20, .vw [] (.int .i64 ((List.length c0.2.2.2.1 : Int)))), (21, .vw [] (.int .i64 ((0 : Int))))]) (ts := [some (.ptr (.agg [.int .i64 c0.1, .bool c0.2.1, .sh (.rows 3 (List.map e0 c0.2.2.1)), .ints .i64 c0.2.2.2.1, .ints .i64 c0.2.2.2.2.1, .ints .i64 c0.2.2.2.2.2]))]) (n := 1) rfl rfl rfl rfl) (seqQ_n (?_)))
 refine wp_gc ?_
 refine wp_blk ?_
 obtain ⟨w519, hw519, h⟩ := bs h
 refine wp_mono (wp_loop (fun ((x226, x227, x228, x229, x230, x231, x232) : Int × Bool × (List (Int × Int × Int)) × (List Int) × (List Int) × (List Int) × Int) => (⟨al .dead [(0, .ptr 0 [] (some 0)), (1, .vw [] (.int .i64 p1)), (4, .vw [] (.int .i64 c0.1)), (20, .vw [] (.int .i64 ((List.length c0.2.2.2.1 : Int)))), (21, .vw [] (.int .i64 x232))], hl [some (.ptr (.agg [.int .i64 x226, .bool x227, .sh (.rows 3 (List.map e0 x228)), .ints .i64 x229, .ints .i64 x230, .ints .i64 x231]))], 1⟩ : St)) (fun ((x277, x278, x279, x280, x281, x282) : Int × Bool × (List (Int × Int × Int)) × (List Int) × (List Int) × (List Int)) e st => e = .exit 0 ∧ gc 1 [] st = ⟨al .dead [], hl [some (.ptr (.agg [.int .i64 x277, .bool x278, .sh (.rows 3 (List.map e0 x279)), .ints .i64 x280, .ints .i64 x281, .ints .i64 x282]))], 1⟩) hw519 ?_) ?_
 ·rintro ⟨x226, x227, x228, x229, x230, x231, x232⟩ o h
  refine wp_gc ?_
  refine wp_seq ?_
  refine wp_reg (nx' := 17) rfl (ev_v rfl rfl (ev_nil)) (seqQ_n (?_))
  refine wp_seq ?_
  refine wp_gc ?_
  rcases its h with ⟨hc328, h⟩ | ⟨hc328, h⟩
  ·refine wp_ct rfl hc328 ?_
   refine wp_skip (gcQ_n (gc_to [] (e := [(0, .ptr 0 [] (some 0)), (1, .vw [] (.int .i64 p1)), (4, .vw [] (.int .i64 c0.1)), (20, .vw [] (.int .i64 ((List.length c0.2.2.2.1 : Int)))), (21, .vw [] (.int .i64 x232))]) (ts := [some (.ptr (.agg [.int .i64 x226, .bool x227, .sh (.rows 3 (List.map e0 x228)), .ints .i64 x229, .ints .i64 x230, .ints .i64 x231]))]) (n := 1) rfl rfl rfl rfl) (seqQ_n (?_)))
   refine wp_seq ?_
   refine wp_join (spec_slRun_tick_j2 x232) (fun ((x359, x360, x361, x362, x363, x364) : Int × Bool × (List (Int × Int × Int)) × (List Int) × (List Int) × (List Int)) => (⟨al .dead [(0, .ptr 0 [] (some 0)), (1, .vw [] (.int .i64 p1)), (4, .vw [] (.int .i64 c0.1)), (20, .vw [] (.int .i64 ((List.length c0.2.2.2.1 : Int)))), (21, .vw [] (.int .i64 x232))], hl [some (.ptr (.agg [.int .i64 x359, .bool x360, .sh (.rows 3 (List.map e0 x361)), .ints .i64 x362, .ints .i64 x363, .ints .i64 x364]))], 1⟩ : St)) ?_ ?_
   ·rintro ⟨x359, x360, x361, x362, x363, x364⟩ o h
    unfold spec_slRun_tick_j2 at h
    refine seqQ_n (?_)
    replace h := Option.some.inj h
    subst h
    exact wp_reg (nx' := 33) rfl (ev_v rfl rfl (ev_v rfl rfl (ev_nil))) (gcQ_n (gc_to [] (e := [(0, .ptr 0 [] (some 0)), (1, .vw [] (.int .i64 p1)), (4, .vw [] (.int .i64 c0.1)), (20, .vw [] (.int .i64 ((List.length c0.2.2.2.1 : Int)))), (21, .vw [] (.int .i64 ((w64 (x232 + (1 : Int))))))]) (ts := [some (.ptr (.agg [.int .i64 x359, .bool x360, .sh (.rows 3 (List.map e0 x361)), .ints .i64 x362, .ints .i64 x363, .ints .i64 x364]))]) (n := 1) rfl rfl rfl rfl) (loopQ_n rfl))
   ·refine wp_gc ?_
    refine wp_blk ?_
    refine wp_seq ?_
    refine wp_reg (nx' := 33) rfl (ev_v rfl rfl (ev_v rfl rfl (ev_nil))) (seqQ_n (?_))
    refine wp_seq ?_
    obtain ⟨u402, hu402, h⟩ := bs h
    refine wp_reg (nx' := 129) rfl (ev_v rfl rfl (ev_v rfl rfl (ev_v rfl rfl (ev_v rfl rfl (ev_v rfl (d_rem rfl rfl hu402) (ev_v rfl rfl (ev_nil))))))) (seqQ_n (?_))
    refine wp_seq ?_
    refine wp_reg (nx' := 145) rfl (ev_v rfl rfl (ev_nil)) (seqQ_n (?_))
    refine wp_seq ?_
    refine wp_join (spec_slRun_tick_j3 p1 c0 x226 x227 x228 x230 x232) (fun ((x420, x421, x422) : (List Int) × (List Int) × Bool) => (⟨al .dead [(0, .ptr 0 [] (some 0)), (1, .vw [] (.int .i64 p1)), (4, .vw [] (.int .i64 c0.1)), (5, .vw [] (.int .i64 x232)), (6, .vw [] (.int .i64 ((Int.tmod (w64 (x232 + p1)) c0.1)))), (7, .vw [] (.bool x422)), (20, .vw [] (.int .i64 ((List.length c0.2.2.2.1 : Int)))), (21, .vw [] (.int .i64 x232))], hl [some (.ptr (.agg [.int .i64 x226, .bool x227, .sh (.rows 3 (List.map e0 x228)), .ints .i64 x420, .ints .i64 x230, .ints .i64 x421]))], 1⟩ : St)) ?_ ?_
    ·rintro ⟨x420, x421, x422⟩ o h
     unfold spec_slRun_tick_j3 at h
     refine seqQ_n (?_)
     refine wp_seq ?_
     refine wp_gc ?_
     refine wp_seq ?_
     refine wp_join (spec_slRun_tick_j4 p1 c0 x226 x227 x228 x230 x232 x420 x421) (fun (x431 : Bool) => (⟨al .dead [(0, .ptr 0 [] (some 0)), (1, .vw [] (.int .i64 p1)), (4, .vw [] (.int .i64 c0.1)), (5, .vw [] (.int .i64 x232)), (6, .vw [] (.int .i64 ((Int.tmod (w64 (x232 + p1)) c0.1)))), (20, .vw [] (.int .i64 ((List.length c0.2.2.2.1 : Int)))), (21, .vw [] (.int .i64 x232)), (118, .vw [] (.bool x431))], hl [some (.ptr (.agg [.int .i64 x226, .bool x227, .sh (.rows 3 (List.map e0 x228)), .ints .i64 x420, .ints .i64 x230, .ints .i64 x421]))], 1⟩ : St)) ?_ ?_
     ·rintro x431 o h
      unfold spec_slRun_tick_j4 at h
      refine seqQ_n (?_)
      rcases its h with ⟨hc432, h⟩ | ⟨hc432, h⟩
      ·refine wp_ct rfl hc432 ?_
       exact wp_exit (gcQ_e (seqQ_e (blkQ_h (gcQ_n (gc_to [] (e := [(0, .ptr 0 [] (some 0)), (1, .vw [] (.int .i64 p1)), (4, .vw [] (.int .i64 c0.1)), (20, .vw [] (.int .i64 ((List.length c0.2.2.2.1 : Int)))), (21, .vw [] (.int .i64 x232))]) (ts := [some (.ptr (.agg [.int .i64 x226, .bool x227, .sh (.rows 3 (List.map e0 x228)), .ints .i64 x420, .ints .i64 x230, .ints .i64 x421]))]) (n := 1) rfl rfl rfl rfl) (joinQ_n (x226, x227, x228, x420, x230, x421) h (gc_to [] rfl rfl rfl rfl))))))
      ·refine wp_cf rfl hc432 ?_
       refine wp_skip (gcQ_n (gc_to [] (e := [(0, .ptr 0 [] (some 0)), (1, .vw [] (.int .i64 p1)), (4, .vw [] (.int .i64 c0.1)), (5, .vw [] (.int .i64 x232)), (6, .vw [] (.int .i64 ((Int.tmod (w64 (x232 + p1)) c0.1)))), (20, .vw [] (.int .i64 ((List.length c0.2.2.2.1 : Int)))), (21, .vw [] (.int .i64 x232))]) (ts := [some (.ptr (.agg [.int .i64 x226, .bool x227, .sh (.rows 3 (List.map e0 x228)), .ints .i64 x420, .ints .i64 x230, .ints .i64 x421]))]) (n := 1) rfl rfl rfl rfl) (seqQ_n (?_)))
       refine wp_seq ?_
       obtain ⟨v439, hv439, h⟩ := bs h
       refine wp_reg (nx' := 81) rfl (ev_den (.ptr 0 [] (some 0)) rfl rfl (ev_v rfl rfl (ev_v rfl rfl (ev_call1 [(.ptr 0 [] (some 0)), (.vw _ _), (.vw _ _)] rfl (call_ok (rs := [0]) (rd := []) rfl rfl rfl rfl (argL_cons rfl (argL_cons rfl (argL_cons rfl (argL_nil)))) rfl rfl (spec_slRun_next_ok hv439) rfl rfl rfl rfl rfl) (ev_v rfl rfl (ev_nil)))))) (seqQ_n (?_))
       refine wp_seq ?_
       refine wp_reg (nx' := 113) rfl (ev_v rfl rfl (ev_v rfl rfl (ev_nil))) (seqQ_n (?_))
       rcases its h with ⟨hc440, h⟩ | ⟨hc440, h⟩
       ·refine wp_ct rfl hc440 ?_
        refine wp_seq ?_
        obtain ⟨v441, hv441, h⟩ := bs h
        refine wp_reg (nx' := 257) rfl (ev_den (.ptr 0 [] (some 0)) rfl rfl (ev_den (.ptr 0 [] (some 0)) rfl rfl (ev_den (.ptr 0 [] (some 3)) rfl rfl (ev_den (.ref 0 [.f 3] _ _ _) rfl (d_ld_o rfl (rget_of rfl (get_nil)) rfl rfl) (ev_v rfl rfl (ev_v rfl rfl (ev_v rfl rfl (ev_den (.ptr 0 [.f 3, .e (Int.toNat x232)] none) rfl (d_idx_r (p := [.f 3]) rfl rfl hv441) (ev_wr0 rfl (w_st_p rfl (st1_of rfl rfl rfl (get_f rfl (get_i hv441)) rfl (rput_p (put_f rfl (put_i hv441))))) (ev_nil)))))))))) (seqQ_n (?_))
        obtain ⟨v442, hv442, h⟩ := bs h
        exact wp_reg (nx' := 385) rfl (ev_den (.ptr 0 [] (some 0)) rfl rfl (ev_den (.ptr 0 [] (some 0)) rfl rfl (ev_den (.ptr 0 [] (some 4)) rfl rfl (ev_den (.ref 0 [.f 4] _ _ _) rfl (d_ld_o rfl (rget_of rfl (get_nil)) rfl rfl) (ev_v rfl rfl (ev_v rfl rfl (ev_den (.ptr 0 [.f 4, .e (Int.toNat v439.1)] none) rfl (d_idx_r (p := [.f 4]) rfl rfl hv442) (ev_wr0 rfl (w_st_p rfl (st1_of rfl rfl rfl (get_f rfl (get_i hv442)) rfl (rput_p (put_f rfl (put_i hv442))))) (ev_nil))))))))) (blkQ_n (gcQ_n (gc_to [] (e := [(0, .ptr 0 [] (some 0)), (1, .vw [] (.int .i64 p1)), (4, .vw [] (.int .i64 c0.1)), (20, .vw [] (.int .i64 ((List.length c0.2.2.2.1 : Int)))), (21, .vw [] (.int .i64 x232))]) (ts := [some (.ptr (.agg [.int .i64 v439.2.1, .bool v439.2.2.1, .sh (.rows 3 (List.map e0 v439.2.2.2.1)), .ints .i64 ((List.set v439.2.2.2.2.1 (Int.toNat x232) ((w64 (v439.1 + (1 : Int)))))), .ints .i64 ((List.set v439.2.2.2.2.2.1 (Int.toNat v439.1) p1)), .ints .i64 v439.2.2.2.2.2.2]))]) (n := 1) rfl rfl rfl rfl) (joinQ_n (v439.2.1, v439.2.2.1, v439.2.2.2.1, (List.set v439.2.2.2.2.1 (Int.toNat x232) ((w64 (v439.1 + (1 : Int))))), (List.set v439.2.2.2.2.2.1 (Int.toNat v439.1) p1), v439.2.2.2.2.2.2) h (gc_to [] rfl rfl rfl rfl))))
       ·refine wp_cf rfl hc440 ?_
        exact wp_skip (blkQ_n (gcQ_n (gc_to [] (e := [(0, .ptr 0 [] (some 0)), (1, .vw [] (.int .i64 p1)), (4, .vw [] (.int .i64 c0.1)), (20, .vw [] (.int .i64 ((List.length c0.2.2.2.1 : Int)))), (21, .vw [] (.int .i64 x232))]) (ts := [some (.ptr (.agg [.int .i64 v439.2.1, .bool v439.2.2.1, .sh (.rows 3 (List.map e0 v439.2.2.2.1)), .ints .i64 v439.2.2.2.2.1, .ints .i64 v439.2.2.2.2.2.1, .ints .i64 v439.2.2.2.2.2.2]))]) (n := 1) rfl rfl rfl rfl) (joinQ_n (v439.2.1, v439.2.2.1, v439.2.2.2.1, v439.2.2.2.2.1, v439.2.2.2.2.2.1, v439.2.2.2.2.2.2) h (gc_to [] rfl rfl rfl rfl))))
     ·obtain ⟨v455, hv455, h⟩ := bs h
      rcases its h with ⟨hc456, h⟩ | ⟨hc456, h⟩
      ·exact wp_reg (nx' := 289) rfl (ev_den (.ptr 0 [] (some 0)) rfl rfl (ev_den (.ptr 0 [] (some 0)) rfl rfl (ev_den (.ptr 0 [] (some 3)) rfl rfl (ev_den (.ref 0 [.f 3] _ _ _) rfl (d_ld_o rfl (rget_of rfl (get_nil)) rfl rfl) (ev_v rfl rfl (ev_den (.ptr 0 [.f 3, .e (Int.toNat x232)] none) rfl (d_idx_r (p := [.f 3]) rfl rfl hv455) (ev_v rfl (d_ld_p rfl (rget_of rfl (get_f rfl (get_i hv455))) rfl) (ev_v rfl rfl (ev_v rfl rfl (ev_off rfl hc456 (ev_off rfl hc456 (ev_un rfl (ev_un rfl (ev_un rfl (ev_un rfl (ev_un rfl (ev_off rfl hc456 (ev_v rfl (d_pick_t rfl hc456 rfl) (ev_nil))))))))))))))))))) (joinQ_n true h (gc_to [] rfl rfl rfl rfl))
      ·rcases its h with ⟨hc458, h⟩ | ⟨hc458, h⟩
       ·exact wp_reg (nx' := 289) rfl (ev_den (.ptr 0 [] (some 0)) rfl rfl (ev_den (.ptr 0 [] (some 0)) rfl rfl (ev_den (.ptr 0 [] (some 3)) rfl rfl (ev_den (.ref 0 [.f 3] _ _ _) rfl (d_ld_o rfl (rget_of rfl (get_nil)) rfl rfl) (ev_v rfl rfl (ev_den (.ptr 0 [.f 3, .e (Int.toNat x232)] none) rfl (d_idx_r (p := [.f 3]) rfl rfl hv455) (ev_v rfl (d_ld_p rfl (rget_of rfl (get_f rfl (get_i hv455))) rfl) (ev_v rfl rfl (ev_v rfl rfl (ev_on rfl hc456 (ev_v rfl rfl (ev_on rfl hc456 (ev_v rfl rfl (ev_on rfl hc458 (ev_den (.ptr 0 [] (some 0)) rfl rfl (ev_on rfl hc458 (ev_den (.ptr 0 [] (some 0)) rfl rfl (ev_on rfl hc458 (ev_den (.ptr 0 [] (some 0)) rfl rfl (ev_on rfl hc458 (ev_den (.ptr 0 [] (some 1)) rfl rfl (ev_on rfl hc458 (ev_v rfl (d_ld_o rfl (rget_of rfl (get_nil)) rfl rfl) (ev_on rfl hc456 (ev_v rfl (d_pick_t rfl hc458 rfl) (ev_v rfl (d_pick_f rfl hc456 rfl) (ev_nil))))))))))))))))))))))))))) (joinQ_n x227 h (gc_to [] rfl rfl rfl rfl))
       ·exact wp_reg (nx' := 289) rfl (ev_den (.ptr 0 [] (some 0)) rfl rfl (ev_den (.ptr 0 [] (some 0)) rfl rfl (ev_den (.ptr 0 [] (some 3)) rfl rfl (ev_den (.ref 0 [.f 3] _ _ _) rfl (d_ld_o rfl (rget_of rfl (get_nil)) rfl rfl) (ev_v rfl rfl (ev_den (.ptr 0 [.f 3, .e (Int.toNat x232)] none) rfl (d_idx_r (p := [.f 3]) rfl rfl hv455) (ev_v rfl (d_ld_p rfl (rget_of rfl (get_f rfl (get_i hv455))) rfl) (ev_v rfl rfl (ev_v rfl rfl (ev_on rfl hc456 (ev_v rfl rfl (ev_on rfl hc456 (ev_v rfl rfl (ev_off rfl hc458 (ev_off rfl hc458 (ev_off rfl hc458 (ev_off rfl hc458 (ev_off rfl hc458 (ev_on rfl hc456 (ev_v rfl (d_pick_f rfl hc458 rfl) (ev_v rfl (d_pick_f rfl hc456 rfl) (ev_nil)))))))))))))))))))))) (joinQ_n false h (gc_to [] rfl rfl rfl rfl))
    ·refine wp_seq ?_
     obtain ⟨v461, hv461, h⟩ := bs h
     refine wp_reg (nx' := 289) rfl (ev_den (.ptr 0 [] (some 0)) rfl rfl (ev_den (.ptr 0 [] (some 0)) rfl rfl (ev_den (.ptr 0 [] (some 3)) rfl rfl (ev_den (.ref 0 [.f 3] _ _ _) rfl (d_ld_o rfl (rget_of rfl (get_nil)) rfl rfl) (ev_v rfl rfl (ev_den (.ptr 0 [.f 3, .e (Int.toNat x232)] none) rfl (d_idx_r (p := [.f 3]) rfl rfl hv461) (ev_v rfl (d_ld_p rfl (rget_of rfl (get_f rfl (get_i hv461))) rfl) (ev_v rfl rfl (ev_v rfl rfl (ev_nil)))))))))) (seqQ_n (?_))
     refine wp_seq ?_
     refine wp_reg (nx' := 321) rfl (ev_v rfl rfl (ev_v rfl rfl (ev_nil))) (seqQ_n (?_))
     rcases its h with ⟨hc462, h⟩ | ⟨hc462, h⟩
     ·refine wp_ct rfl hc462 ?_
      refine wp_seq ?_
      obtain ⟨v463, hv463, h⟩ := bs h
      refine wp_reg (nx' := 465) rfl (ev_den (.ptr 0 [] (some 0)) rfl rfl (ev_den (.ptr 0 [] (some 0)) rfl rfl (ev_den (.ptr 0 [] (some 2)) rfl rfl (ev_v rfl (d_ld_o rfl (rget_of rfl (get_nil)) rfl rfl) (ev_v rfl rfl (ev_den (.pv _ _) rfl (d_idx_vr e0 rfl rfl hv463) (ev_den (.agg [(.vw _ _), (.vw _ _), (.vw _ _)]) rfl rfl (ev_new (.ptr 433 [] (some 0)) (.ptr (.agg [.int .i64 ((0 : Int)), .int .i64 ((0 : Int)), .int .i64 ((0 : Int))])) rfl rfl (ev_wr0 rfl (w_st_a rfl rfl rfl (stL_cons (st1_of rfl rfl rfl (get_f rfl (get_nil)) rfl (rput_p (put_f rfl (put_nil)))) rfl (stL_cons (st1_of rfl rfl rfl (get_f rfl (get_nil)) rfl (rput_p (put_f rfl (put_nil)))) rfl (stL_cons (st1_of rfl rfl rfl (get_f rfl (get_nil)) rfl (rput_p (put_f rfl (put_nil)))) rfl (stL_nil))))) (ev_nil)))))))))) (seqQ_n (?_))
      refine wp_seq ?_
      refine wp_join (spec_slRun_tick_j5 p1 c0 x226 x227 x228 x229 x230 x232 v461 v463) (fun ((x469, x470) : (List Int) × Bool) => (⟨al .dead [(0, .ptr 0 [] (some 0)), (1, .vw [] (.int .i64 p1)), (4, .vw [] (.int .i64 c0.1)), (5, .vw [] (.int .i64 x232)), (6, .vw [] (.int .i64 ((Int.tmod (w64 (x232 + p1)) c0.1)))), (7, .vw [] (.bool x470)), (8, .vw [] (.int .i64 ((w64 (v461 - (1 : Int)))))), (9, .ptr 1 [] (some 0)), (20, .vw [] (.int .i64 ((List.length c0.2.2.2.1 : Int)))), (21, .vw [] (.int .i64 x232))], hl [some (.ptr (.agg [.int .i64 x226, .bool x227, .sh (.rows 3 (List.map e0 x228)), .ints .i64 x229, .ints .i64 x230, .ints .i64 x469])), some (.ptr (.agg [.int .i64 v463.1, .int .i64 v463.2.1, .int .i64 v463.2.2]))], 2⟩ : St)) ?_ ?_
      ·rintro ⟨x469, x470⟩ o h
       unfold spec_slRun_tick_j5 at h
       refine seqQ_n (?_)
       refine wp_seq ?_
       refine wp_join (spec_slRun_tick_j6 p1 c0 x226 x227 x228 x229 x230 x232 x469) (fun (x476 : Bool) => (⟨al .dead [(0, .ptr 0 [] (some 0)), (1, .vw [] (.int .i64 p1)), (4, .vw [] (.int .i64 c0.1)), (5, .vw [] (.int .i64 x232)), (6, .vw [] (.int .i64 ((Int.tmod (w64 (x232 + p1)) c0.1)))), (7, .vw [] (.bool x476)), (20, .vw [] (.int .i64 ((List.length c0.2.2.2.1 : Int)))), (21, .vw [] (.int .i64 x232))], hl [some (.ptr (.agg [.int .i64 x226, .bool x227, .sh (.rows 3 (List.map e0 x228)), .ints .i64 x229, .ints .i64 x230, .ints .i64 x469]))], 1⟩ : St)) ?_ ?_
       ·rintro x476 o h
        unfold spec_slRun_tick_j6 at h
        refine seqQ_n (?_)
        refine wp_seq ?_
        refine wp_reg (nx' := 17) rfl (ev_v rfl rfl (ev_nil)) (seqQ_n (?_))
        rcases its h with ⟨hc477, h⟩ | ⟨hc477, h⟩
        ·refine wp_ct rfl hc477 ?_
         exact wp_reg (nx' := 129) rfl (ev_den (.ptr 0 [] (some 0)) rfl rfl (ev_den (.ptr 0 [] (some 0)) rfl rfl (ev_den (.ptr 0 [] (some 3)) rfl rfl (ev_den (.ref 0 [.f 3] _ _ _) rfl (d_ld_o rfl (rget_of rfl (get_nil)) rfl rfl) (ev_v rfl rfl (ev_den (.ptr 0 [.f 3, .e (Int.toNat x232)] none) rfl (d_idx_r (p := [.f 3]) rfl rfl hv461) (ev_wr0 rfl (w_st_p rfl (st1_of rfl rfl rfl (get_f rfl (get_i hv461)) rfl (rput_p (put_f rfl (put_i hv461))))) (ev_nil)))))))) (joinQ_n ((List.set x229 (Int.toNat x232) ((0 : Int))), x469, x476) h (gc_to [] rfl rfl rfl rfl))
        ·refine wp_cf rfl hc477 ?_
         exact wp_skip (joinQ_n (x229, x469, x476) h (gc_to [] rfl rfl rfl rfl))
       ·refine wp_seq ?_
        refine wp_join (spec_slRun_tick_j7 p1 c0 x226 x227 x228 x229 x230 x232 x469 x470) (fun (x487 : Bool) => (⟨al .dead [(0, .ptr 0 [] (some 0)), (1, .vw [] (.int .i64 p1)), (4, .vw [] (.int .i64 c0.1)), (5, .vw [] (.int .i64 x232)), (6, .vw [] (.int .i64 ((Int.tmod (w64 (x232 + p1)) c0.1)))), (7, .vw [] (.bool x470)), (20, .vw [] (.int .i64 ((List.length c0.2.2.2.1 : Int)))), (21, .vw [] (.int .i64 x232)), (93, .vw [] (.bool x487))], hl [some (.ptr (.agg [.int .i64 x226, .bool x227, .sh (.rows 3 (List.map e0 x228)), .ints .i64 x229, .ints .i64 x230, .ints .i64 x469]))], 1⟩ : St)) ?_ ?_
        ·rintro x487 o h
         unfold spec_slRun_tick_j7 at h
         refine seqQ_n (?_)
         rcases its h with ⟨hc488, h⟩ | ⟨hc488, h⟩
         ·refine wp_ct rfl hc488 ?_
          exact wp_reg (nx' := 17) rfl (ev_v rfl rfl (ev_nil)) (joinQ_n true h (gc_to [] rfl rfl rfl rfl))
         ·refine wp_cf rfl hc488 ?_
          exact wp_skip (joinQ_n x470 h (gc_to [] rfl rfl rfl rfl))
        ·rcases its h with ⟨hc491, h⟩ | ⟨hc491, h⟩
         ·rcases its h with ⟨hc492, h⟩ | ⟨hc492, h⟩
          ·obtain ⟨v493, hv493, h⟩ := bs h
           exact wp_reg (nx' := 338) rfl (ev_den (.ptr 0 [] (some 0)) rfl rfl (ev_den (.ptr 0 [] (some 0)) rfl rfl (ev_den (.ptr 0 [] (some 0)) rfl rfl (ev_den (.ptr 0 [] (some 1)) rfl rfl (ev_v rfl (d_ld_o rfl (rget_of rfl (get_nil)) rfl rfl) (ev_v rfl rfl (ev_on rfl hc491 (ev_den (.ptr 1 [] (some 1)) rfl rfl (ev_on rfl hc491 (ev_v rfl (d_ld_o rfl (rget_of rfl (get_nil)) rfl rfl) (ev_on rfl hc491 (ev_v rfl rfl (ev_on rfl hc491 (ev_v rfl rfl (ev_v rfl (d_pick_t rfl hc491 rfl) (ev_v rfl rfl (ev_on rfl hc492 (ev_den (.ptr 0 [] (some 0)) rfl rfl (ev_on rfl hc492 (ev_den (.ptr 0 [] (some 0)) rfl rfl (ev_on rfl hc492 (ev_den (.ptr 0 [] (some 5)) rfl rfl (ev_on rfl hc492 (ev_den (.ref 0 [.f 5] _ _ _) rfl (d_ld_o rfl (rget_of rfl (get_nil)) rfl rfl) (ev_on rfl hc492 (ev_v rfl rfl (ev_on rfl hc492 (ev_den (.ptr 0 [.f 5, .e (Int.toNat ((w64 (v461 - (1 : Int)))))] none) rfl (d_idx_r (p := [.f 5]) rfl rfl hv493) (ev_on rfl hc492 (ev_v rfl (d_ld_p rfl (rget_of rfl (get_f rfl (get_i hv493))) rfl) (ev_on rfl hc492 (ev_v rfl rfl (ev_v rfl (d_pick_t rfl hc492 rfl) (ev_nil)))))))))))))))))))))))))))))))))) (joinQ_n (decide (v493 ≥ (0 : Int))) h (gc_to [] rfl rfl rfl rfl))
          ·exact wp_reg (nx' := 338) rfl (ev_den (.ptr 0 [] (some 0)) rfl rfl (ev_den (.ptr 0 [] (some 0)) rfl rfl (ev_den (.ptr 0 [] (some 0)) rfl rfl (ev_den (.ptr 0 [] (some 1)) rfl rfl (ev_v rfl (d_ld_o rfl (rget_of rfl (get_nil)) rfl rfl) (ev_v rfl rfl (ev_on rfl hc491 (ev_den (.ptr 1 [] (some 1)) rfl rfl (ev_on rfl hc491 (ev_v rfl (d_ld_o rfl (rget_of rfl (get_nil)) rfl rfl) (ev_on rfl hc491 (ev_v rfl rfl (ev_on rfl hc491 (ev_v rfl rfl (ev_v rfl (d_pick_t rfl hc491 rfl) (ev_v rfl rfl (ev_off rfl hc492 (ev_off rfl hc492 (ev_off rfl hc492 (ev_off rfl hc492 (ev_off rfl hc492 (ev_off rfl hc492 (ev_off rfl hc492 (ev_off rfl hc492 (ev_v rfl (d_pick_f rfl hc492 rfl) (ev_nil)))))))))))))))))))))))))) (joinQ_n false h (gc_to [] rfl rfl rfl rfl))
         ·exact wp_reg (nx' := 338) rfl (ev_den (.ptr 0 [] (some 0)) rfl rfl (ev_den (.ptr 0 [] (some 0)) rfl rfl (ev_den (.ptr 0 [] (some 0)) rfl rfl (ev_den (.ptr 0 [] (some 1)) rfl rfl (ev_v rfl (d_ld_o rfl (rget_of rfl (get_nil)) rfl rfl) (ev_v rfl rfl (ev_off rfl hc491 (ev_off rfl hc491 (ev_off rfl hc491 (ev_off rfl hc491 (ev_v rfl (d_pick_f rfl hc491 rfl) (ev_v rfl rfl (ev_off rfl rfl (ev_off rfl rfl (ev_off rfl rfl (ev_off rfl rfl (ev_off rfl rfl (ev_off rfl rfl (ev_off rfl rfl (ev_off rfl rfl (ev_v rfl (d_pick_f rfl rfl rfl) (ev_nil)))))))))))))))))))))) (joinQ_n false h (gc_to [] rfl rfl rfl rfl))
      ·refine wp_seq ?_
       refine wp_join (spec_slRun_tick_j8 p1 c0 x226 x227 x228 x229 x230 x231 x232 v461 v463) (fun (x499 : Bool) => (⟨al .dead [(0, .ptr 0 [] (some 0)), (1, .vw [] (.int .i64 p1)), (4, .vw [] (.int .i64 c0.1)), (5, .vw [] (.int .i64 x232)), (6, .vw [] (.int .i64 ((Int.tmod (w64 (x232 + p1)) c0.1)))), (7, .vw [] (.bool false)), (8, .vw [] (.int .i64 ((w64 (v461 - (1 : Int)))))), (9, .ptr 1 [] (some 0)), (20, .vw [] (.int .i64 ((List.length c0.2.2.2.1 : Int)))), (21, .vw [] (.int .i64 x232)), (59, .vw [] (.bool x499))], hl [some (.ptr (.agg [.int .i64 x226, .bool x227, .sh (.rows 3 (List.map e0 x228)), .ints .i64 x229, .ints .i64 x230, .ints .i64 x231])), some (.ptr (.agg [.int .i64 v463.1, .int .i64 v463.2.1, .int .i64 v463.2.2]))], 2⟩ : St)) ?_ ?_
       ·rintro x499 o h
        unfold spec_slRun_tick_j8 at h
        refine seqQ_n (?_)
        rcases its h with ⟨hc500, h⟩ | ⟨hc500, h⟩
        ·refine wp_ct rfl hc500 ?_
         refine wp_seq ?_
         obtain ⟨v501, hv501, h⟩ := bs h
         refine wp_reg (nx' := 130) rfl (ev_den (.ptr 0 [] (some 0)) rfl rfl (ev_den (.ptr 0 [] (some 0)) rfl rfl (ev_den (.ptr 0 [] (some 5)) rfl rfl (ev_den (.ref 0 [.f 5] _ _ _) rfl (d_ld_o rfl (rget_of rfl (get_nil)) rfl rfl) (ev_v rfl rfl (ev_v rfl rfl (ev_den (.ptr 0 [.f 5, .e (Int.toNat ((w64 (v461 - (1 : Int)))))] none) rfl (d_idx_r (p := [.f 5]) rfl rfl hv501) (ev_wr0 rfl (w_st_p rfl (st1_of rfl rfl rfl (get_f rfl (get_i hv501)) rfl (rput_p (put_f rfl (put_i hv501))))) (ev_nil))))))))) (seqQ_n (?_))
         exact wp_reg (nx' := 242) rfl (ev_den (.ptr 0 [] (some 0)) rfl rfl (ev_den (.ptr 0 [] (some 0)) rfl rfl (ev_den (.ptr 0 [] (some 0)) rfl rfl (ev_den (.ptr 0 [] (some 1)) rfl rfl (ev_v rfl (d_ld_o rfl (rget_of rfl (get_nil)) rfl rfl) (ev_v rfl rfl (ev_v rfl rfl (ev_nil)))))))) (joinQ_n ((List.set x231 (Int.toNat ((w64 (v461 - (1 : Int))))) p1), (!x227)) h (gc_to [1] rfl rfl rfl rfl))
        ·refine wp_cf rfl hc500 ?_
         exact wp_skip (joinQ_n (x231, false) h (gc_to [1] rfl rfl rfl rfl))
       ·rcases its h with ⟨hc506, h⟩ | ⟨hc506, h⟩
        ·obtain ⟨v507, hv507, h⟩ := bs h
         exact wp_reg (nx' := 689) rfl (ev_den (.ptr 433 [] (some 2)) rfl rfl (ev_v rfl (d_ld_o rfl (rget_of rfl (get_nil)) rfl rfl) (ev_v rfl rfl (ev_v rfl rfl (ev_v rfl rfl (ev_on rfl hc506 (ev_den (.ptr 0 [] (some 0)) rfl rfl (ev_on rfl hc506 (ev_den (.ptr 0 [] (some 0)) rfl rfl (ev_on rfl hc506 (ev_den (.ptr 0 [] (some 5)) rfl rfl (ev_on rfl hc506 (ev_den (.ref 0 [.f 5] _ _ _) rfl (d_ld_o rfl (rget_of rfl (get_nil)) rfl rfl) (ev_on rfl hc506 (ev_v rfl rfl (ev_on rfl hc506 (ev_den (.ptr 0 [.f 5, .e (Int.toNat ((w64 (v461 - (1 : Int)))))] none) rfl (d_idx_r (p := [.f 5]) rfl rfl hv507) (ev_on rfl hc506 (ev_v rfl (d_ld_p rfl (rget_of rfl (get_f rfl (get_i hv507))) rfl) (ev_on rfl hc506 (ev_v rfl rfl (ev_v rfl (d_pick_t rfl hc506 rfl) (ev_nil))))))))))))))))))))))) (joinQ_n (decide (v507 < (0 : Int))) h (gc_to [433] rfl rfl rfl rfl))
        ·exact wp_reg (nx' := 689) rfl (ev_den (.ptr 433 [] (some 2)) rfl rfl (ev_v rfl (d_ld_o rfl (rget_of rfl (get_nil)) rfl rfl) (ev_v rfl rfl (ev_v rfl rfl (ev_v rfl rfl (ev_off rfl hc506 (ev_off rfl hc506 (ev_off rfl hc506 (ev_off rfl hc506 (ev_off rfl hc506 (ev_off rfl hc506 (ev_off rfl hc506 (ev_off rfl hc506 (ev_v rfl (d_pick_f rfl hc506 rfl) (ev_nil))))))))))))))) (joinQ_n false h (gc_to [433] rfl rfl rfl rfl))
     ·refine wp_cf rfl hc462 ?_
      exact wp_skip (joinQ_n (x229, x231, false) h (gc_to [] rfl rfl rfl rfl))
  ·refine wp_cf rfl hc328 ?_
   replace h := Option.some.inj h
   subst h
   exact wp_exit (gcQ_e (seqQ_e (gcQ_e (loopQ_e (And.intro rfl (gc_to [] (e := []) (ts := [some (.ptr (.agg [.int .i64 x226, .bool x227, .sh (.rows 3 (List.map e0 x228)), .ints .i64 x229, .ints .i64 x230, .ints .i64 x231]))]) (n := 1) rfl rfl rfl rfl))))))
 ·intro e st519 hg519
  obtain ⟨x277, x278, x279, x280, x281, x282⟩ := w519
  obtain ⟨rfl, hg519⟩ := hg519
  replace h := Option.some.inj h
  subst h
  exact blkQ_h (gcQ_n hg519 (qf_n ((outs_ok (vs := []) rfl (absW_nil) rfl rfl))))
noncomputable def spec_slEnd_s1 (p2 : Int) : (Int × Bool × (List (Int × Int × Int)) × (List Int) × (List Int) × (List Int) × Int) → Option ((Int × Bool × (List (Int × Int × Int)) × (List Int) × (List Int) × (List Int) × Int) ⊕ (Int × Bool × (List (Int × Int × Int)) × (List Int) × (List Int) × (List Int))) := fun (x77, x78, x79, x80, x81, x82, x83) =>
if (decide (x83 < p2)) = true then
(spec_slRun_tick x83 ((x77, x78, x79, x80, x81, x82))).bind fun v112 =>
some (.inl (v112.1, v112.2.1, v112.2.2.1, v112.2.2.2.1, v112.2.2.2.2.1, v112.2.2.2.2.2, (w64 (x83 + (1 : Int)))))
else
some (.inr (x77, x78, x79, x80, x81, x82))
noncomputable def spec_slEnd_l1 (p2 : Int) : (Int × Bool × (List (Int × Int × Int)) × (List Int) × (List Int) × (List Int) × Int) → Option (Int × Bool × (List (Int × Int × Int)) × (List Int) × (List Int) × (List Int)) := iter (spec_slEnd_s1 p2)
/-- loop.example/g01176/spec.slEnd -/
noncomputable def spec_slEnd (p0 : Int × Bool) (p1 : List (Int × Int × Int)) (p2 : Int) : Option ((Int × Bool × (List (Int × Int × Int)) × (List Int) × (List Int) × (List Int))) :=
(spec_slNew p0 p1).bind fun v26 =>
(spec_slEnd_l1 p2 (v26.1, v26.2.1, v26.2.2.1, v26.2.2.2.1, v26.2.2.2.2.1, v26.2.2.2.2.2, (0 : Int))).bind fun (x93, x94, x95, x96, x97, x98) =>
some (x93, x94, x95, x96, x97, x98)
theorem spec_slEnd_ok {p0 : Int × Bool} {p1 : List (Int × Int × Int)} {p2 : Int} {o : (Int × Bool × (List (Int × Int × Int)) × (List Int) × (List Int) × (List Int))} (h : spec_slEnd p0 p1 p2 = some o) : RN 47 [.agg [.int .i64 p0.1, .bool p0.2], .rows 3 (List.map e0 p1), .int .i64 p2] [] = some (.ptr (.agg [.int .i64 o.1, .bool o.2.1, .sh (.rows 3 (List.map e0 o.2.2.1)), .ints .i64 o.2.2.2.1, .ints .i64 o.2.2.2.2.1, .ints .i64 o.2.2.2.2.2]), []) := by
 refine fn_run (o := o) (nr := 0) (F := k47) (st := ⟨entry 0 [.agg [.vw [] (.int .i64 p0.1), .vw [] (.bool p0.2)], .vw [] (.rows 3 (List.map e0 p1)), .vw [] (.int .i64 p2)], fun n => ([] : List T)[n]?, 0⟩) (fun (o : (Int × Bool × (List (Int × Int × Int)) × (List Int) × (List Int) × (List Int))) => (.ptr (.agg [.int .i64 o.1, .bool o.2.1, .sh (.rows 3 (List.map e0 o.2.2.1)), .ints .i64 o.2.2.2.1, .ints .i64 o.2.2.2.2.1, .ints .i64 o.2.2.2.2.2]), [])) rfl fns_47 rfl rfl rfl ?_
 refine wp_seq ?_
 refine wp_reg (nx' := 32) rfl (ev_wr rfl (w_box (sv := (.agg [(.vw _ _), (.vw _ _)])) rfl rfl (absW_cons rfl rfl (absW_cons rfl rfl (absW_nil)))) (ev_den (.nilS _) rfl rfl (ev_nil))) (seqQ_n (?_))
 refine wp_seq ?_
 obtain ⟨v26, hv26, h⟩ := bs h
 refine wp_reg (nx' := 96) rfl (ev_den (.agg [(.vw _ _), (.vw _ _)]) rfl (d_ld_os rfl (rget_of rfl (get_nil)) rfl (cells_cons rfl (cells_cons rfl (cells_nil)))) (ev_v rfl rfl (ev_call0 [(.agg [(.vw _ _), (.vw _ _)]), (.vw _ _)] rfl (call_ok (rs := []) (rd := []) rfl rfl rfl rfl (argL_cons (argT_a (argL_cons rfl (argL_cons rfl (argL_nil)))) (argL_cons rfl (argL_nil))) rfl rfl (spec_slNew_ok hv26) rfl rfl rfl rfl rfl) (ev_den (.ptr 64 [] (some 0)) rfl rfl (ev_nil))))) (seqQ_n (?_))
 refine wp_seq ?_
 refine wp_gc ?_
 refine wp_seq ?_
 refine wp_gc ?_
 refine wp_reg (nx' := 112) rfl (ev_v rfl rfl (ev_nil)) (gcQ_n (gc_to [64] (e := [(2, .vw [] (.int .i64 p2)), (7, .ptr 0 [] (some 0)), (8, .vw [] (.int .i64 ((0 : Int))))]) (ts := [some (.ptr (.agg [.int .i64 v26.1, .bool v26.2.1, .sh (.rows 3 (List.map e0 v26.2.2.1)), .ints .i64 v26.2.2.2.1, .ints .i64 v26.2.2.2.2.1, .ints .i64 v26.2.2.2.2.2]))]) (n := 1) rfl rfl rfl rfl) (seqQ_n (?_)))
 refine wp_gc ?_
 refine wp_blk ?_
 obtain ⟨w126, hw126, h⟩ := bs h
 refine wp_mono (wp_loop (fun ((x77, x78, x79, x80, x81, x82, x83) : Int × Bool × (List (Int × Int × Int)) × (List Int) × (List Int) × (List Int) × Int) => (⟨al .dead [(2, .vw [] (.int .i64 p2)), (7, .ptr 0 [] (some 0)), (8, .vw [] (.int .i64 x83))], hl [some (.ptr (.agg [.int .i64 x77, .bool x78, .sh (.rows 3 (List.map e0 x79)), .ints .i64 x80, .ints .i64 x81, .ints .i64 x82]))], 1⟩ : St)) (fun ((x93, x94, x95, x96, x97, x98) : Int × Bool × (List (Int × Int × Int)) × (List Int) × (List Int) × (List Int)) e st => e = .exit 0 ∧ gc 0 [7] st = ⟨al .dead [(7, .ptr 0 [] (some 0))], hl [some (.ptr (.agg [.int .i64 x93, .bool x94, .sh (.rows 3 (List.map e0 x95)), .ints .i64 x96, .ints .i64 x97, .ints .i64 x98]))], 1⟩) hw126 ?_) ?_
 ·rintro ⟨x77, x78, x79, x80, x81, x82, x83⟩ o h
  refine wp_gc ?_
  refine wp_seq ?_
  refine wp_gc ?_
  refine wp_seq ?_
  refine wp_reg (nx' := 49) rfl (ev_v rfl rfl (ev_v rfl rfl (ev_v rfl rfl (ev_nil)))) (seqQ_n (?_))
  rcases its h with ⟨hc109, h⟩ | ⟨hc109, h⟩
  ·refine wp_ct rfl hc109 ?_
   refine wp_skip (gcQ_n (gc_to [0] (e := [(2, .vw [] (.int .i64 p2)), (7, .ptr 0 [] (some 0)), (8, .vw [] (.int .i64 x83))]) (ts := [some (.ptr (.agg [.int .i64 x77, .bool x78, .sh (.rows 3 (List.map e0 x79)), .ints .i64 x80, .ints .i64 x81, .ints .i64 x82]))]) (n := 1) rfl rfl rfl rfl) (seqQ_n (?_)))
   refine wp_seq ?_
   refine wp_gc ?_
   refine wp_gc ?_
   refine wp_blk ?_
   obtain ⟨v112, hv112, h⟩ := bs h
   refine wp_reg (nx' := 49) rfl (ev_den (.ptr 0 [] (some 0)) rfl rfl (ev_v rfl rfl (ev_call1 [(.ptr 0 [] (some 0)), (.vw _ _)] rfl (call_ok (rs := [0]) (rd := []) rfl rfl rfl rfl (argL_cons rfl (argL_cons rfl (argL_nil))) rfl rfl (spec_slRun_tick_ok hv112) rfl rfl rfl (bindR_t (bindL_nil)) rfl) (ev_nil)))) (blkQ_n (gcQ_n (gc_to [0] (e := [(2, .vw [] (.int .i64 p2)), (7, .ptr 0 [] (some 0)), (8, .vw [] (.int .i64 x83))]) (ts := [some (.ptr (.agg [.int .i64 v112.1, .bool v112.2.1, .sh (.rows 3 (List.map e0 v112.2.2.1)), .ints .i64 v112.2.2.2.1, .ints .i64 v112.2.2.2.2.1, .ints .i64 v112.2.2.2.2.2]))]) (n := 1) rfl rfl rfl rfl) (gcQ_n (gc_to [0] (e := [(2, .vw [] (.int .i64 p2)), (7, .ptr 0 [] (some 0)), (8, .vw [] (.int .i64 x83))]) (ts := [some (.ptr (.agg [.int .i64 v112.1, .bool v112.2.1, .sh (.rows 3 (List.map e0 v112.2.2.1)), .ints .i64 v112.2.2.2.1, .ints .i64 v112.2.2.2.2.1, .ints .i64 v112.2.2.2.2.2]))]) (n := 1) rfl rfl rfl rfl) (seqQ_n (?_)))))
   replace h := Option.some.inj h
   subst h
   exact wp_reg (nx' := 49) rfl (ev_v rfl rfl (ev_v rfl rfl (ev_v rfl rfl (ev_nil)))) (gcQ_n (gc_to [0] (e := [(2, .vw [] (.int .i64 p2)), (7, .ptr 0 [] (some 0)), (8, .vw [] (.int .i64 ((w64 (x83 + (1 : Int))))))]) (ts := [some (.ptr (.agg [.int .i64 v112.1, .bool v112.2.1, .sh (.rows 3 (List.map e0 v112.2.2.1)), .ints .i64 v112.2.2.2.1, .ints .i64 v112.2.2.2.2.1, .ints .i64 v112.2.2.2.2.2]))]) (n := 1) rfl rfl rfl rfl) (loopQ_n rfl))
  ·refine wp_cf rfl hc109 ?_
   replace h := Option.some.inj h
   subst h
   exact wp_exit (gcQ_e (seqQ_e (gcQ_e (loopQ_e (And.intro rfl (gc_to [0] (e := [(7, .ptr 0 [] (some 0))]) (ts := [some (.ptr (.agg [.int .i64 x77, .bool x78, .sh (.rows 3 (List.map e0 x79)), .ints .i64 x80, .ints .i64 x81, .ints .i64 x82]))]) (n := 1) rfl rfl rfl rfl))))))
 ·intro e st126 hg126
  obtain ⟨x93, x94, x95, x96, x97, x98⟩ := w126
  obtain ⟨rfl, hg126⟩ := hg126
  refine blkQ_h (gcQ_n hg126 (gcQ_n (gc_to [0] (e := [(7, .ptr 0 [] (some 0))]) (ts := [some (.ptr (.agg [.int .i64 x93, .bool x94, .sh (.rows 3 (List.map e0 x95)), .ints .i64 x96, .ints .i64 x97, .ints .i64 x98]))]) (n := 1) rfl rfl rfl rfl) (seqQ_n (?_))))
  refine wp_seq ?_
  refine wp_reg (nx' := 33) rfl (ev_den (.ptr 0 [] (some 0)) rfl rfl (ev_den (.ptr 0 [] (some 0)) rfl rfl (ev_nil))) (seqQ_n (?_))
  replace h := Option.some.inj h
  subst h
  exact wp_ret (qf_r ((outs_ok (vs := [(.ptr 0 [] (some 0))]) rfl (absW_cons rfl rfl (absW_nil)) rfl rfl)))
/-- loop.example/g01176/spec.slWhole -/
noncomputable def spec_slWhole (p0 : Int × Bool) (p1 : List (Int × Int × Int)) : Option ((Int × Bool × (List (Int × Int × Int)) × (List Int) × (List Int) × (List Int))) :=
(spec_slTicks p0 p1).bind fun v3 =>
(spec_slEnd p0 p1 v3).bind fun v4 =>
some v4
theorem spec_slWhole_ok {p0 : Int × Bool} {p1 : List (Int × Int × Int)} {o : (Int × Bool × (List (Int × Int × Int)) × (List Int) × (List Int) × (List Int))} (h : spec_slWhole p0 p1 = some o) : RN 57 [.agg [.int .i64 p0.1, .bool p0.2], .rows 3 (List.map e0 p1)] [] = some (.ptr (.agg [.int .i64 o.1, .bool o.2.1, .sh (.rows 3 (List.map e0 o.2.2.1)), .ints .i64 o.2.2.2.1, .ints .i64 o.2.2.2.2.1, .ints .i64 o.2.2.2.2.2]), []) := by
 refine fn_run (o := o) (nr := 0) (F := k57) (st := ⟨entry 0 [.agg [.vw [] (.int .i64 p0.1), .vw [] (.bool p0.2)], .vw [] (.rows 3 (List.map e0 p1))], fun n => ([] : List T)[n]?, 0⟩) (fun (o : (Int × Bool × (List (Int × Int × Int)) × (List Int) × (List Int) × (List Int))) => (.ptr (.agg [.int .i64 o.1, .bool o.2.1, .sh (.rows 3 (List.map e0 o.2.2.1)), .ints .i64 o.2.2.2.1, .ints .i64 o.2.2.2.2.1, .ints .i64 o.2.2.2.2.2]), [])) rfl fns_57 rfl rfl rfl ?_
 refine wp_seq ?_
 refine wp_reg (nx' := 32) rfl (ev_wr rfl (w_box (sv := (.agg [(.vw _ _), (.vw _ _)])) rfl rfl (absW_cons rfl rfl (absW_cons rfl rfl (absW_nil)))) (ev_den (.nilS _) rfl rfl (ev_nil))) (seqQ_n (?_))
 refine wp_seq ?_
 obtain ⟨v3, hv3, h⟩ := bs h
 obtain ⟨v4, hv4, h⟩ := bs h
 refine wp_reg (nx' := 144) rfl (ev_den (.agg [(.vw _ _), (.vw _ _)]) rfl (d_ld_os rfl (rget_of rfl (get_nil)) rfl (cells_cons rfl (cells_cons rfl (cells_nil)))) (ev_v rfl rfl (ev_den (.agg [(.vw _ _), (.vw _ _)]) rfl (d_ld_os rfl (rget_of rfl (get_nil)) rfl (cells_cons rfl (cells_cons rfl (cells_nil)))) (ev_v rfl rfl (ev_call0 [(.agg [(.vw _ _), (.vw _ _)]), (.vw _ _)] rfl (call_ok (rs := []) (rd := []) rfl rfl rfl rfl (argL_cons (argT_a (argL_cons rfl (argL_cons rfl (argL_nil)))) (argL_cons rfl (argL_nil))) rfl rfl (spec_slTicks_ok hv3) rfl rfl rfl rfl rfl) (ev_call0 [(.agg [(.vw _ _), (.vw _ _)]), (.vw _ _), (.vw _ _)] rfl (call_ok (rs := []) (rd := []) rfl rfl rfl rfl (argL_cons (argT_a (argL_cons rfl (argL_cons rfl (argL_nil)))) (argL_cons rfl (argL_cons rfl (argL_nil)))) rfl rfl (spec_slEnd_ok hv4) rfl rfl rfl rfl rfl) (ev_den (.ptr 112 [] (some 0)) rfl rfl (ev_nil)))))))) (seqQ_n (?_))
 replace h := Option.some.inj h
 subst h
 exact wp_ret (qf_r ((outs_ok (vs := [(.ptr 112 [] (some 0))]) rfl (absW_cons rfl rfl (absW_nil)) rfl rfl)))
/-- loop.example/g01176/spec.ReadAt -/
noncomputable def spec_ReadAt (p0 : Int × Bool) (p1 : List (Int × Int × Int)) : Option (((List Int) × Bool)) :=
(spec_slAll p0 p1).bind fun v6 =>
if (!v6) = true then
some ([], false)
else
(spec_slWhole p0 p1).bind fun v8 =>
some (v8.2.2.2.2.2, true)
theorem spec_ReadAt_ok {p0 : Int × Bool} {p1 : List (Int × Int × Int)} {o : ((List Int) × Bool)} (h : spec_ReadAt p0 p1 = some o) : RN 23 [.agg [.int .i64 p0.1, .bool p0.2], .rows 3 (List.map e0 p1)] [] = some (.tup [.ints .i64 o.1, .bool o.2], []) := by
 refine fn_run (o := o) (nr := 0) (F := k23) (st := ⟨entry 0 [.agg [.vw [] (.int .i64 p0.1), .vw [] (.bool p0.2)], .vw [] (.rows 3 (List.map e0 p1))], fun n => ([] : List T)[n]?, 0⟩) (fun (o : ((List Int) × Bool)) => (.tup [.ints .i64 o.1, .bool o.2], [])) rfl fns_23 rfl rfl rfl ?_
 refine wp_seq ?_
 refine wp_reg (nx' := 48) rfl (ev_wr rfl (w_box (sv := (.agg [(.vw _ _), (.vw _ _)])) rfl rfl (absW_cons rfl rfl (absW_cons rfl rfl (absW_nil)))) (ev_new (.ref 16 [] 1 0 0) (.ints .i64 []) rfl rfl (ev_v rfl rfl (ev_nil)))) (seqQ_n (?_))
 refine wp_seq ?_
 refine wp_gc ?_
 refine wp_seq ?_
 obtain ⟨v6, hv6, h⟩ := bs h
 refine wp_reg (nx' := 112) rfl (ev_den (.agg [(.vw _ _), (.vw _ _)]) rfl (d_ld_os rfl (rget_of rfl (get_nil)) rfl (cells_cons rfl (cells_cons rfl (cells_nil)))) (ev_v rfl rfl (ev_call0 [(.agg [(.vw _ _), (.vw _ _)]), (.vw _ _)] rfl (call_ok (rs := []) (rd := []) rfl rfl rfl rfl (argL_cons (argT_a (argL_cons rfl (argL_cons rfl (argL_nil)))) (argL_cons rfl (argL_nil))) rfl rfl (spec_slAll_ok hv6) rfl rfl rfl rfl rfl) (ev_v rfl rfl (ev_nil))))) (seqQ_n (?_))
 rcases its h with ⟨hc7, h⟩ | ⟨hc7, h⟩
 ·refine wp_ct rfl hc7 ?_
  refine wp_seq ?_
  refine wp_reg (nx' := 144) rfl (ev_new (.ref 112 [] 1 0 0) (.ints .i64 []) rfl rfl (ev_v rfl rfl (ev_nil))) (seqQ_n (?_))
  replace h := Option.some.inj h
  subst h
  exact wp_ret (gcQ_r (seqQ_r (qf_r ((outs_ok (vs := [(.ref 112 _ _ _ _), (.vw _ _)]) rfl (absW_cons (retT_ref (abs_ref rfl sub_i)) rfl (absW_cons rfl rfl (absW_nil))) rfl rfl)))))
 ·refine wp_cf rfl hc7 ?_
  refine wp_skip (gcQ_n (gc_to [0] (e := [(1, .vw [] (.rows 3 (List.map e0 p1))), (2, .ptr 0 [] (some 0))]) (ts := [some (.ptr (.agg [.int .i64 p0.1, .bool p0.2]))]) (n := 1) rfl rfl rfl rfl) (seqQ_n (?_)))
  refine wp_seq ?_
  obtain ⟨v8, hv8, h⟩ := bs h
  refine wp_reg (nx' := 129) rfl (ev_den (.agg [(.vw _ _), (.vw _ _)]) rfl (d_ld_os rfl (rget_of rfl (get_nil)) rfl (cells_cons rfl (cells_cons rfl (cells_nil)))) (ev_v rfl rfl (ev_call0 [(.agg [(.vw _ _), (.vw _ _)]), (.vw _ _)] rfl (call_ok (rs := []) (rd := []) rfl rfl rfl rfl (argL_cons (argT_a (argL_cons rfl (argL_cons rfl (argL_nil)))) (argL_cons rfl (argL_nil))) rfl rfl (spec_slWhole_ok hv8) rfl rfl rfl rfl rfl) (ev_den (.ptr 33 [] (some 0)) rfl rfl (ev_den (.ptr 33 [] (some 5)) rfl rfl (ev_den (.ref 33 [.f 5] _ _ _) rfl (d_ld_o rfl (rget_of rfl (get_nil)) rfl rfl) (ev_den (.ref 33 [.f 5] _ _ _) rfl rfl (ev_v rfl rfl (ev_nil))))))))) (seqQ_n (?_))
  replace h := Option.some.inj h
  subst h
  exact wp_ret (qf_r ((outs_ok (vs := [(.ref 33 [.f 5] _ _ _), (.vw _ _)]) rfl (absW_cons (retT_ref (abs_refp (r := .ptr (.agg [.int .i64 v8.1, .bool v8.2.1, .sh (.rows 3 (List.map e0 v8.2.2.1)), .ints .i64 v8.2.2.2.1, .ints .i64 v8.2.2.2.2.1, .ints .i64 v8.2.2.2.2.2])) rfl (get_f rfl (get_nil)) sub_i (rput_p (put_f rfl (put_nil))))) rfl (absW_cons rfl rfl (absW_nil))) rfl rfl)))
/-- loop.example/g01176/impl.FilledAt -/
noncomputable def impl_FilledAt (p0 : Int × Bool) (p1 : List (Int × Int × Int)) : Option (((List Int) × Bool)) :=
(impl_isSlotted p0 p1).bind fun v6 =>
if (!v6) = true then
some ([], false)
else
(impl_slotted p0 p1).bind fun v8 =>
some (v8.1, true)
theorem impl_FilledAt_ok {p0 : Int × Bool} {p1 : List (Int × Int × Int)} {o : ((List Int) × Bool)} (h : impl_FilledAt p0 p1 = some o) : RN 10 [.agg [.int .i64 p0.1, .bool p0.2], .rows 3 (List.map e0 p1)] [] = some (.tup [.ints .i64 o.1, .bool o.2], []) := by
 refine fn_run (o := o) (nr := 0) (F := k10) (st := ⟨entry 0 [.agg [.vw [] (.int .i64 p0.1), .vw [] (.bool p0.2)], .vw [] (.rows 3 (List.map e0 p1))], fun n => ([] : List T)[n]?, 0⟩) (fun (o : ((List Int) × Bool)) => (.tup [.ints .i64 o.1, .bool o.2], [])) rfl fns_10 rfl rfl rfl ?_
 refine wp_seq ?_
 refine wp_reg (nx' := 48) rfl (ev_wr rfl (w_box (sv := (.agg [(.vw _ _), (.vw _ _)])) rfl rfl (absW_cons rfl rfl (absW_cons rfl rfl (absW_nil)))) (ev_new (.ref 16 [] 1 0 0) (.ints .i64 []) rfl rfl (ev_v rfl rfl (ev_nil)))) (seqQ_n (?_))
 refine wp_seq ?_
 refine wp_gc ?_
 refine wp_seq ?_
 obtain ⟨v6, hv6, h⟩ := bs h
 refine wp_reg (nx' := 112) rfl (ev_den (.agg [(.vw _ _), (.vw _ _)]) rfl (d_ld_os rfl (rget_of rfl (get_nil)) rfl (cells_cons rfl (cells_cons rfl (cells_nil)))) (ev_v rfl rfl (ev_call0 [(.agg [(.vw _ _), (.vw _ _)]), (.vw _ _)] rfl (call_ok (rs := []) (rd := []) rfl rfl rfl rfl (argL_cons (argT_a (argL_cons rfl (argL_cons rfl (argL_nil)))) (argL_cons rfl (argL_nil))) rfl rfl (impl_isSlotted_ok hv6) rfl rfl rfl rfl rfl) (ev_v rfl rfl (ev_nil))))) (seqQ_n (?_))
 rcases its h with ⟨hc7, h⟩ | ⟨hc7, h⟩
 ·refine wp_ct rfl hc7 ?_
  refine wp_seq ?_
  refine wp_reg (nx' := 144) rfl (ev_new (.ref 112 [] 1 0 0) (.ints .i64 []) rfl rfl (ev_v rfl rfl (ev_nil))) (seqQ_n (?_))
  replace h := Option.some.inj h
  subst h
  exact wp_ret (gcQ_r (seqQ_r (qf_r ((outs_ok (vs := [(.ref 112 _ _ _ _), (.vw _ _)]) rfl (absW_cons (retT_ref (abs_ref rfl sub_i)) rfl (absW_cons rfl rfl (absW_nil))) rfl rfl)))))
 ·refine wp_cf rfl hc7 ?_
  refine wp_skip (gcQ_n (gc_to [0] (e := [(1, .vw [] (.rows 3 (List.map e0 p1))), (2, .ptr 0 [] (some 0))]) (ts := [some (.ptr (.agg [.int .i64 p0.1, .bool p0.2]))]) (n := 1) rfl rfl rfl rfl) (seqQ_n (?_)))
  refine wp_seq ?_
  obtain ⟨v8, hv8, h⟩ := bs h
  refine wp_reg (nx' := 129) rfl (ev_den (.agg [(.vw _ _), (.vw _ _)]) rfl (d_ld_os rfl (rget_of rfl (get_nil)) rfl (cells_cons rfl (cells_cons rfl (cells_nil)))) (ev_v rfl rfl (ev_call0 [(.agg [(.vw _ _), (.vw _ _)]), (.vw _ _)] rfl (call_ok (rs := []) (rd := []) rfl rfl rfl rfl (argL_cons (argT_a (argL_cons rfl (argL_cons rfl (argL_nil)))) (argL_cons rfl (argL_nil))) rfl rfl (impl_slotted_ok hv8) rfl rfl rfl (bindR_t (bindL_cons rfl (bindL_cons rfl (bindL_nil)))) rfl) (ev_den (.tup [(.ref 33 _ _ _ _), (.ref 34 _ _ _ _)]) rfl rfl (ev_den (.ref 33 _ _ _ _) rfl rfl (ev_den (.ref 34 _ _ _ _) rfl rfl (ev_den (.ref 33 _ _ _ _) rfl rfl (ev_den (.ref 34 _ _ _ _) rfl rfl (ev_nil))))))))) (seqQ_n (?_))
  refine wp_seq ?_
  refine wp_reg (nx' := 177) rfl (ev_den (.ref 33 _ _ _ _) rfl rfl (ev_den (.ref 33 _ _ _ _) rfl rfl (ev_v rfl rfl (ev_nil)))) (seqQ_n (?_))
  replace h := Option.some.inj h
  subst h
  exact wp_ret (qf_r ((outs_ok (vs := [(.ref 33 _ _ _ _), (.vw _ _)]) rfl (absW_cons (retT_ref (abs_ref rfl sub_i)) rfl (absW_cons rfl rfl (absW_nil))) rfl rfl)))
/-- loop.example/g01176/spec.FilledAt -/
noncomputable def spec_FilledAt (p0 : Int × Bool) (p1 : List (Int × Int × Int)) : Option (((List Int) × Bool)) :=
(spec_slAll p0 p1).bind fun v6 =>
if (!v6) = true then
some ([], false)
else
(spec_slWhole p0 p1).bind fun v8 =>
some (v8.2.2.2.2.1, true)
theorem spec_FilledAt_ok {p0 : Int × Bool} {p1 : List (Int × Int × Int)} {o : ((List Int) × Bool)} (h : spec_FilledAt p0 p1 = some o) : RN 24 [.agg [.int .i64 p0.1, .bool p0.2], .rows 3 (List.map e0 p1)] [] = some (.tup [.ints .i64 o.1, .bool o.2], []) := by
 refine fn_run (o := o) (nr := 0) (F := k24) (st := ⟨entry 0 [.agg [.vw [] (.int .i64 p0.1), .vw [] (.bool p0.2)], .vw [] (.rows 3 (List.map e0 p1))], fun n => ([] : List T)[n]?, 0⟩) (fun (o : ((List Int) × Bool)) => (.tup [.ints .i64 o.1, .bool o.2], [])) rfl fns_24 rfl rfl rfl ?_
 refine wp_seq ?_
 refine wp_reg (nx' := 48) rfl (ev_wr rfl (w_box (sv := (.agg [(.vw _ _), (.vw _ _)])) rfl rfl (absW_cons rfl rfl (absW_cons rfl rfl (absW_nil)))) (ev_new (.ref 16 [] 1 0 0) (.ints .i64 []) rfl rfl (ev_v rfl rfl (ev_nil)))) (seqQ_n (?_))
 refine wp_seq ?_
 refine wp_gc ?_
 refine wp_seq ?_
 obtain ⟨v6, hv6, h⟩ := bs h
 refine wp_reg (nx' := 112) rfl (ev_den (.agg [(.vw _ _), (.vw _ _)]) rfl (d_ld_os rfl (rget_of rfl (get_nil)) rfl (cells_cons rfl (cells_cons rfl (cells_nil)))) (ev_v rfl rfl (ev_call0 [(.agg [(.vw _ _), (.vw _ _)]), (.vw _ _)] rfl (call_ok (rs := []) (rd := []) rfl rfl rfl rfl (argL_cons (argT_a (argL_cons rfl (argL_cons rfl (argL_nil)))) (argL_cons rfl (argL_nil))) rfl rfl (spec_slAll_ok hv6) rfl rfl rfl rfl rfl) (ev_v rfl rfl (ev_nil))))) (seqQ_n (?_))
 rcases its h with ⟨hc7, h⟩ | ⟨hc7, h⟩
 ·refine wp_ct rfl hc7 ?_
  refine wp_seq ?_
  refine wp_reg (nx' := 144) rfl (ev_new (.ref 112 [] 1 0 0) (.ints .i64 []) rfl rfl (ev_v rfl rfl (ev_nil))) (seqQ_n (?_))
  replace h := Option.some.inj h
  subst h
  exact wp_ret (gcQ_r (seqQ_r (qf_r ((outs_ok (vs := [(.ref 112 _ _ _ _), (.vw _ _)]) rfl (absW_cons (retT_ref (abs_ref rfl sub_i)) rfl (absW_cons rfl rfl (absW_nil))) rfl rfl)))))
 ·refine wp_cf rfl hc7 ?_
  refine wp_skip (gcQ_n (gc_to [0] (e := [(1, .vw [] (.rows 3 (List.map e0 p1))), (2, .ptr 0 [] (some 0))]) (ts := [some (.ptr (.agg [.int .i64 p0.1, .bool p0.2]))]) (n := 1) rfl rfl rfl rfl) (seqQ_n (?_)))
  refine wp_seq ?_
  obtain ⟨v8, hv8, h⟩ := bs h
  refine wp_reg (nx' := 129) rfl (ev_den (.agg [(.vw _ _), (.vw _ _)]) rfl (d_ld_os rfl (rget_of rfl (get_nil)) rfl (cells_cons rfl (cells_cons rfl (cells_nil)))) (ev_v rfl rfl (ev_call0 [(.agg [(.vw _ _), (.vw _ _)]), (.vw _ _)] rfl (call_ok (rs := []) (rd := []) rfl rfl rfl rfl (argL_cons (argT_a (argL_cons rfl (argL_cons rfl (argL_nil)))) (argL_cons rfl (argL_nil))) rfl rfl (spec_slWhole_ok hv8) rfl rfl rfl rfl rfl) (ev_den (.ptr 33 [] (some 0)) rfl rfl (ev_den (.ptr 33 [] (some 4)) rfl rfl (ev_den (.ref 33 [.f 4] _ _ _) rfl (d_ld_o rfl (rget_of rfl (get_nil)) rfl rfl) (ev_den (.ref 33 [.f 4] _ _ _) rfl rfl (ev_v rfl rfl (ev_nil))))))))) (seqQ_n (?_))
  replace h := Option.some.inj h
  subst h
  exact wp_ret (qf_r ((outs_ok (vs := [(.ref 33 [.f 4] _ _ _), (.vw _ _)]) rfl (absW_cons (retT_ref (abs_refp (r := .ptr (.agg [.int .i64 v8.1, .bool v8.2.1, .sh (.rows 3 (List.map e0 v8.2.2.1)), .ints .i64 v8.2.2.2.1, .ints .i64 v8.2.2.2.2.1, .ints .i64 v8.2.2.2.2.2])) rfl (get_f rfl (get_nil)) sub_i (rput_p (put_f rfl (put_nil))))) rfl (absW_cons rfl rfl (absW_nil))) rfl rfl)))
noncomputable def impl_greatest_s1 (p0 : List Int) : (Int × Int) → Option ((Int × Int) ⊕ Int) := fun (x30, x31) =>
if (decide (x31 < (List.length p0 : Int))) = true then
(at? p0 x31).bind fun v45 =>
some (.inl ((if v45 > x30 then v45 else x30), (w64 (x31 + (1 : Int)))))
else
some (.inr x30)
noncomputable def impl_greatest_l1 (p0 : List Int) : (Int × Int) → Option Int := iter (impl_greatest_s1 p0)
/-- loop.example/g01176/impl.greatest -/
noncomputable def impl_greatest (p0 : List Int) : Option Int :=
(impl_greatest_l1 p0 ((0 : Int), (0 : Int))).bind fun x36 =>
some x36
theorem impl_greatest_ok {p0 : List Int} {o : Int} (h : impl_greatest p0 = some o) : RN 58 [.ints .i64 p0] [] = some (.int .i64 o, []) := by
 refine fn_run (o := o) (nr := 0) (F := k58) (st := ⟨entry 0 [.vw [] (.ints .i64 p0)], fun n => ([] : List T)[n]?, 0⟩) (fun (o : Int) => (.int .i64 o, [])) rfl fns_58 rfl rfl rfl ?_
 refine wp_seq ?_
 refine wp_reg (nx' := 16) rfl (ev_v rfl rfl (ev_nil)) (seqQ_n (?_))
 refine wp_seq ?_
 refine wp_reg (nx' := 32) rfl (ev_v rfl rfl (ev_nil)) (seqQ_n (?_))
 refine wp_seq ?_
 refine wp_gc ?_
 refine wp_seq ?_
 refine wp_gc ?_
 refine wp_reg (nx' := 80) rfl (ev_v rfl rfl (ev_v rfl rfl (ev_v rfl rfl (ev_nil)))) (gcQ_n (gc_to [] (e := [(3, .vw [] (.int .i64 ((0 : Int)))), (6, .vw [] (.ints .i64 p0)), (7, .vw [] (.int .i64 ((List.length p0 : Int)))), (8, .vw [] (.int .i64 ((0 : Int))))]) (ts := []) (n := 0) rfl rfl rfl rfl) (seqQ_n (?_)))
 refine wp_gc ?_
 refine wp_blk ?_
 obtain ⟨x36, hw49, h⟩ := bs h
 refine wp_mono (wp_loop (fun ((x30, x31) : Int × Int) => (⟨al .dead [(3, .vw [] (.int .i64 x30)), (6, .vw [] (.ints .i64 p0)), (7, .vw [] (.int .i64 ((List.length p0 : Int)))), (8, .vw [] (.int .i64 x31))], hl [], 0⟩ : St)) (fun (x36 : Int) e st => e = .exit 0 ∧ gc 0 [3] st = ⟨al .dead [(3, .vw [] (.int .i64 x36))], hl [], 0⟩) hw49 ?_) ?_
 ·rintro ⟨x30, x31⟩ o h
  refine wp_gc ?_
  refine wp_seq ?_
  refine wp_reg (nx' := 16) rfl (ev_v rfl rfl (ev_nil)) (seqQ_n (?_))
  refine wp_seq ?_
  refine wp_gc ?_
  rcases its h with ⟨hc42, h⟩ | ⟨hc42, h⟩
  ·refine wp_ct rfl hc42 ?_
   refine wp_skip (gcQ_n (gc_to [] (e := [(3, .vw [] (.int .i64 x30)), (6, .vw [] (.ints .i64 p0)), (7, .vw [] (.int .i64 ((List.length p0 : Int)))), (8, .vw [] (.int .i64 x31))]) (ts := []) (n := 0) rfl rfl rfl rfl) (seqQ_n (?_)))
   refine wp_seq ?_
   refine wp_gc ?_
   refine wp_gc ?_
   refine wp_blk ?_
   refine wp_seq ?_
   obtain ⟨v45, hv45, h⟩ := bs h
   refine wp_reg (nx' := 48) rfl (ev_den (.pv _ _) rfl (d_idx_vi rfl rfl hv45) (ev_v rfl rfl (ev_v rfl rfl (ev_nil)))) (seqQ_n (?_))
   refine wp_reg (nx' := 112) rfl (ev_v rfl rfl (ev_v rfl rfl (ev_v rfl rfl (ev_v rfl rfl (ev_nil))))) (blkQ_n (gcQ_n (gc_to [] (e := [(3, .vw [] (.int .i64 ((if v45 > x30 then v45 else x30)))), (6, .vw [] (.ints .i64 p0)), (7, .vw [] (.int .i64 ((List.length p0 : Int)))), (8, .vw [] (.int .i64 x31))]) (ts := []) (n := 0) rfl rfl rfl rfl) (gcQ_n (gc_to [] (e := [(3, .vw [] (.int .i64 ((if v45 > x30 then v45 else x30)))), (6, .vw [] (.ints .i64 p0)), (7, .vw [] (.int .i64 ((List.length p0 : Int)))), (8, .vw [] (.int .i64 x31))]) (ts := []) (n := 0) rfl rfl rfl rfl) (seqQ_n (?_)))))
   replace h := Option.some.inj h
   subst h
   exact wp_reg (nx' := 32) rfl (ev_v rfl rfl (ev_v rfl rfl (ev_nil))) (gcQ_n (gc_to [] (e := [(3, .vw [] (.int .i64 ((if v45 > x30 then v45 else x30)))), (6, .vw [] (.ints .i64 p0)), (7, .vw [] (.int .i64 ((List.length p0 : Int)))), (8, .vw [] (.int .i64 ((w64 (x31 + (1 : Int))))))]) (ts := []) (n := 0) rfl rfl rfl rfl) (loopQ_n rfl))
  ·refine wp_cf rfl hc42 ?_
   replace h := Option.some.inj h
   subst h
   exact wp_exit (gcQ_e (seqQ_e (gcQ_e (loopQ_e (And.intro rfl (gc_to [] (e := [(3, .vw [] (.int .i64 x30))]) (ts := []) (n := 0) rfl rfl rfl rfl))))))
 ·intro e st49 hg49
  obtain ⟨rfl, hg49⟩ := hg49
  refine blkQ_h (gcQ_n hg49 (gcQ_n (gc_to [] (e := [(3, .vw [] (.int .i64 x36))]) (ts := []) (n := 0) rfl rfl rfl rfl) (seqQ_n (?_))))
  refine wp_seq ?_
  refine wp_reg (nx' := 32) rfl (ev_v rfl rfl (ev_v rfl rfl (ev_nil))) (seqQ_n (?_))
  replace h := Option.some.inj h
  subst h
  exact wp_ret (qf_r ((outs_ok (vs := [(.vw _ _)]) rfl (absW_cons rfl rfl (absW_nil)) rfl rfl)))
/-- loop.example/g01176/impl.LastRead -/
noncomputable def impl_LastRead (p0 : Int × Bool) (p1 : List (Int × Int × Int)) : Option ((Int × Bool)) :=
(impl_ReadAt p0 p1).bind fun v3 =>
(impl_greatest v3.1).bind fun v4 =>
some (v4, v3.2)
theorem impl_LastRead_ok {p0 : Int × Bool} {p1 : List (Int × Int × Int)} {o : (Int × Bool)} (h : impl_LastRead p0 p1 = some o) : RN 25 [.agg [.int .i64 p0.1, .bool p0.2], .rows 3 (List.map e0 p1)] [] = some (.tup [.int .i64 o.1, .bool o.2], []) := by
 refine fn_run (o := o) (nr := 0) (F := k25) (st := ⟨entry 0 [.agg [.vw [] (.int .i64 p0.1), .vw [] (.bool p0.2)], .vw [] (.rows 3 (List.map e0 p1))], fun n => ([] : List T)[n]?, 0⟩) (fun (o : (Int × Bool)) => (.tup [.int .i64 o.1, .bool o.2], [])) rfl fns_25 rfl rfl rfl ?_
 refine wp_seq ?_
 refine wp_reg (nx' := 48) rfl (ev_wr rfl (w_box (sv := (.agg [(.vw _ _), (.vw _ _)])) rfl rfl (absW_cons rfl rfl (absW_cons rfl rfl (absW_nil)))) (ev_v rfl rfl (ev_v rfl rfl (ev_nil)))) (seqQ_n (?_))
 refine wp_seq ?_
 obtain ⟨v3, hv3, h⟩ := bs h
 refine wp_reg (nx' := 176) rfl (ev_den (.agg [(.vw _ _), (.vw _ _)]) rfl (d_ld_os rfl (rget_of rfl (get_nil)) rfl (cells_cons rfl (cells_cons rfl (cells_nil)))) (ev_v rfl rfl (ev_call0 [(.agg [(.vw _ _), (.vw _ _)]), (.vw _ _)] rfl (call_ok (rs := []) (rd := []) rfl rfl rfl rfl (argL_cons (argT_a (argL_cons rfl (argL_cons rfl (argL_nil)))) (argL_cons rfl (argL_nil))) rfl rfl (impl_ReadAt_ok hv3) rfl rfl rfl (bindR_t (bindL_cons rfl (bindL_cons rfl (bindL_nil)))) rfl) (ev_den (.tup [(.ref 80 _ _ _ _), (.vw _ _)]) rfl rfl (ev_den (.ref 80 _ _ _ _) rfl rfl (ev_v rfl rfl (ev_den (.ref 80 _ _ _ _) rfl rfl (ev_v rfl rfl (ev_nil))))))))) (seqQ_n (?_))
 refine wp_seq ?_
 obtain ⟨v4, hv4, h⟩ := bs h
 refine wp_reg (nx' := 256) rfl (ev_den (.ref 80 _ _ _ _) rfl rfl (ev_call0 [(.ref 80 _ _ _ _)] rfl (call_ok (rs := []) (rd := [80]) rfl rfl rfl rfl (argL_cons (argT_r (rget_of rfl (get_nil)) sub_i) (argL_nil)) rfl rfl (impl_greatest_ok hv4) rfl rfl rfl rfl rfl) (ev_v rfl rfl (ev_v rfl rfl (ev_v rfl rfl (ev_nil)))))) (seqQ_n (?_))
 replace h := Option.some.inj h
 subst h
 exact wp_ret (qf_r ((outs_ok (vs := [(.vw _ _), (.vw _ _)]) rfl (absW_cons rfl rfl (absW_cons rfl rfl (absW_nil))) rfl rfl)))
end Go.Proofs.Yteeejellpcikkaa.Ev.G5
