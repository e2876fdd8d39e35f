/- What functions of the program come to, as plain functions; no condition. -/
import Derived.Test.YteeejellpcikkaaH55
set_option linter.unusedVariables false
set_option linter.unusedSimpArgs false
set_option maxRecDepth 100000
set_option maxHeartbeats 4000000
set_option linter.unusedVariables false
namespace Go.Proofs.Yteeejellpcikkaa.Ev.H5
open Go
/-- loop.example/g01176/spec.DrawFullTicks -/
noncomputable def spec_DrawFullTicks (p0 : List Int) : Option (((Int × Bool) × (List (Int × Int × Int)) × Int)) :=
(spec_DrawSlotsAt p0).bind fun v2 =>
some v2
theorem spec_DrawFullTicks_ok {p0 : List Int} {o : ((Int × Bool) × (List (Int × Int × Int)) × Int)} (h : spec_DrawFullTicks p0 = some o) : RN 15 [.ints .u8 p0] [] = some (.tup [.agg [.int .i64 o.1.1, .bool o.1.2], .rows 3 (List.map e0 o.2.1), .int .i64 o.2.2], []) := by
 refine fn_run (o := o) (nr := 0) (F := k15) (st := ⟨entry 0 [.vw [] (.ints .u8 p0)], fun n => ([] : List T)[n]?, 0⟩) (fun (o : ((Int × Bool) × (List (Int × Int × Int)) × Int)) => (.tup [.agg [.int .i64 o.1.1, .bool o.1.2], .rows 3 (List.map e0 o.2.1), .int .i64 o.2.2], [])) rfl fns_15 rfl rfl rfl ?_
 refine wp_seq ?_
 refine wp_reg (nx' := 48) rfl (ev_new (.ptr 0 [] (some 0)) (.ptr (.agg [.int .i64 ((0 : Int)), .bool false])) rfl rfl (ev_new (.ref 16 [] 3 0 0) (.rows 3 []) rfl rfl (ev_v rfl rfl (ev_nil)))) (seqQ_n (?_))
 refine wp_seq ?_
 obtain ⟨v2, hv2, h⟩ := bs h
 refine wp_reg (nx' := 176) rfl (ev_v rfl rfl (ev_call0 [(.vw _ _)] rfl (call_ok (rs := []) (rd := []) rfl rfl rfl rfl (argL_cons rfl (argL_nil)) rfl rfl (spec_DrawSlotsAt_ok hv2) rfl rfl rfl (bindR_t (bindL_cons (bindR_a (bindL_cons rfl (bindL_cons rfl (bindL_nil)))) (bindL_cons bindR_r (bindL_cons rfl (bindL_nil))))) rfl) (ev_den (.agg [(.vw _ _), (.vw _ _)]) rfl rfl (ev_den (.ref 64 _ _ _ _) rfl rfl (ev_v rfl rfl (ev_wr0 rfl (w_st_a rfl rfl rfl (stL_cons (st1_of rfl rfl rfl (get_f rfl (get_nil)) rfl (rput_p (put_f rfl (put_nil)))) rfl (stL_cons (st1_of rfl rfl rfl (get_f rfl (get_nil)) rfl (rput_p (put_f rfl (put_nil)))) rfl (stL_nil)))) (ev_den (.ref 64 _ _ _ _) rfl rfl (ev_v rfl rfl (ev_nil))))))))) (seqQ_n (?_))
 replace h := Option.some.inj h
 subst h
 exact wp_ret (qf_r ((outs_ok (vs := [(.agg [(.vw _ _), (.vw _ _)]), (.ref 64 _ _ _ _), (.vw _ _)]) rfl (absW_cons (retT_agg (absW_cons rfl rfl (absW_cons rfl rfl (absW_nil)))) rfl (absW_cons (retT_ref (abs_ref rfl sub_r)) rfl (absW_cons rfl rfl (absW_nil)))) rfl rfl)))
noncomputable def impl_FullTicks_j3 (x167 : Int) : (Int × Bool × (List (Int × Int × Int)) × Int × (List Int) × (List Int) × (List Int) × Int) → Option ((Int × Bool × (List (Int × Int × Int)) × Int × (List Int) × (List Int) × (List Int) × Int × Int) ⊕ Int) := fun (x216, x217, x218, x219, x220, x221, x222, x223) =>
some (.inl (x216, x217, x218, x219, x220, x221, x222, x223, (w64 (x167 + (1 : Int)))))
noncomputable def impl_FullTicks_s2 (p2 : Int) : (Int × Bool × (List (Int × Int × Int)) × Int × (List Int) × (List Int) × (List Int) × Int × Int) → Option ((Int × Bool × (List (Int × Int × Int)) × Int × (List Int) × (List Int) × (List Int) × Int × Int) ⊕ Int) := fun (x159, x160, x161, x162, x163, x164, x165, x166, x167) =>
if (decide (x167 < p2)) = true then
(impl_slotter_step ((x159, x160, x161, x162, x163, x164, x165))).bind fun v236 =>
(slices_Contains v236.2.2.2.2.1 ((0 : Int))).bind fun v237 =>
if (!v237) = true then
impl_FullTicks_j3 x167 (v236.1, v236.2.1, v236.2.2.1, v236.2.2.2.1, v236.2.2.2.2.1, v236.2.2.2.2.2.1, v236.2.2.2.2.2.2, (w64 (x166 + (1 : Int))))
else
impl_FullTicks_j3 x167 (v236.1, v236.2.1, v236.2.2.1, v236.2.2.2.1, v236.2.2.2.2.1, v236.2.2.2.2.2.1, v236.2.2.2.2.2.2, x166)
else
some (.inr x166)
noncomputable def impl_FullTicks_l2 (p2 : Int) : (Int × Bool × (List (Int × Int × Int)) × Int × (List Int) × (List Int) × (List Int) × Int × Int) → Option Int := iter (impl_FullTicks_s2 p2)
noncomputable def impl_FullTicks_j1 (p0 : Int × Bool) (p1 : List (Int × Int × Int)) (p2 : Int) : Bool → Option ((Int × Bool)) := fun x58 =>
if x58 = true then
some ((0 : Int), false)
else
(impl_newSlotter p0 p1).bind fun v60 =>
(impl_FullTicks_l2 p2 (v60.1, v60.2.1, v60.2.2.1, v60.2.2.2.1, v60.2.2.2.2.1, v60.2.2.2.2.2.1, v60.2.2.2.2.2.2, (0 : Int), (0 : Int))).bind fun x189 =>
some (x189, true)
/-- loop.example/g01176/impl.FullTicks -/
noncomputable def impl_FullTicks (p0 : Int × Bool) (p1 : List (Int × Int × Int)) (p2 : Int) : Option ((Int × Bool)) :=
(impl_isSlotted p0 p1).bind fun v257 =>
if (!v257) = true then
impl_FullTicks_j1 p0 p1 p2 true
else
(impl_isSlotTick p2).bind fun v260 =>
impl_FullTicks_j1 p0 p1 p2 (!v260)
theorem impl_FullTicks_ok {p0 : Int × Bool} {p1 : List (Int × Int × Int)} {p2 : Int} {o : (Int × Bool)} (h : impl_FullTicks p0 p1 p2 = some o) : RN 16 [.agg [.int .i64 p0.1, .bool p0.2], .rows 3 (List.map e0 p1), .int .i64 p2] [] = some (.tup [.int .i64 o.1, .bool o.2], []) := by
 refine fn_run (o := o) (nr := 0) (F := k16) (st := ⟨entry 0 [.agg [.vw [] (.int .i64 p0.1), .vw [] (.bool p0.2)], .vw [] (.rows 3 (List.map e0 p1)), .vw [] (.int .i64 p2)], fun n => ([] : List T)[n]?, 0⟩) (fun (o : (Int × Bool)) => (.tup [.int .i64 o.1, .bool o.2], [])) rfl fns_16 rfl rfl rfl ?_
 refine wp_seq ?_
 refine wp_reg (nx' := 48) rfl (ev_wr rfl (w_box (sv := (.agg [(.vw _ _), (.vw _ _)])) rfl rfl (absW_cons rfl rfl (absW_cons rfl rfl (absW_nil)))) (ev_v rfl rfl (ev_v rfl rfl (ev_nil)))) (seqQ_n (?_))
 refine wp_seq ?_
 refine wp_gc ?_
 refine wp_seq ?_
 refine wp_join (impl_FullTicks_j1 p0 p1 p2) (fun (x58 : Bool) => (⟨al .dead [(1, .vw [] (.rows 3 (List.map e0 p1))), (2, .vw [] (.int .i64 p2)), (3, .ptr 0 [] (some 0)), (18, .vw [] (.bool x58))], hl [some (.ptr (.agg [.int .i64 p0.1, .bool p0.2]))], 1⟩ : St)) ?_ ?_
 ·rintro x58 o h
  unfold impl_FullTicks_j1 at h
  refine seqQ_n (?_)
  rcases its h with ⟨hc59, h⟩ | ⟨hc59, h⟩
  ·refine wp_ct rfl hc59 ?_
   refine wp_seq ?_
   refine wp_reg (nx' := 33) rfl (ev_v rfl rfl (ev_v rfl rfl (ev_nil))) (seqQ_n (?_))
   replace h := Option.some.inj h
   subst h
   exact wp_ret (gcQ_r (seqQ_r (qf_r ((outs_ok (vs := [(.vw _ _), (.vw _ _)]) rfl (absW_cons rfl rfl (absW_cons rfl rfl (absW_nil))) rfl rfl)))))
  ·refine wp_cf rfl hc59 ?_
   refine wp_skip (gcQ_n (gc_to [0] (e := [(1, .vw [] (.rows 3 (List.map e0 p1))), (2, .vw [] (.int .i64 p2)), (3, .ptr 0 [] (some 0))]) (ts := [some (.ptr (.agg [.int .i64 p0.1, .bool p0.2]))]) (n := 1) rfl rfl rfl rfl) (seqQ_n (?_)))
   refine wp_seq ?_
   obtain ⟨v60, hv60, h⟩ := bs h
   refine wp_reg (nx' := 81) rfl (ev_den (.agg [(.vw _ _), (.vw _ _)]) rfl (d_ld_os rfl (rget_of rfl (get_nil)) rfl (cells_cons rfl (cells_cons rfl (cells_nil)))) (ev_v rfl rfl (ev_call0 [(.agg [(.vw _ _), (.vw _ _)]), (.vw _ _)] rfl (call_ok (rs := []) (rd := []) rfl rfl rfl rfl (argL_cons (argT_a (argL_cons rfl (argL_cons rfl (argL_nil)))) (argL_cons rfl (argL_nil))) rfl rfl (impl_newSlotter_ok hv60) rfl rfl rfl rfl rfl) (ev_den (.ptr 33 [] (some 0)) rfl rfl (ev_v rfl rfl (ev_nil)))))) (seqQ_n (?_))
   refine wp_seq ?_
   refine wp_gc ?_
   refine wp_seq ?_
   refine wp_gc ?_
   refine wp_reg (nx' := 113) rfl (ev_v rfl rfl (ev_v rfl rfl (ev_nil))) (gcQ_n (gc_to [33] (e := [(8, .ptr 0 [] (some 0)), (9, .vw [] (.int .i64 ((0 : Int)))), (22, .vw [] (.int .i64 p2)), (23, .vw [] (.int .i64 ((0 : Int))))]) (ts := [some (.ptr (.agg [.int .i64 v60.1, .bool v60.2.1, .sh (.rows 3 (List.map e0 v60.2.2.1)), .int .i64 v60.2.2.2.1, .ints .i64 v60.2.2.2.2.1, .ints .i64 v60.2.2.2.2.2.1, .ints .i64 v60.2.2.2.2.2.2]))]) (n := 1) rfl rfl rfl rfl) (seqQ_n (?_)))
   refine wp_gc ?_
   refine wp_blk ?_
   obtain ⟨x189, hw256, h⟩ := bs h
   refine wp_mono (wp_loop (fun ((x159, x160, x161, x162, x163, x164, x165, x166, x167) : Int × Bool × (List (Int × Int × Int)) × Int × (List Int) × (List Int) × (List Int) × Int × Int) => (⟨al .dead [(8, .ptr 0 [] (some 0)), (9, .vw [] (.int .i64 x166)), (22, .vw [] (.int .i64 p2)), (23, .vw [] (.int .i64 x167))], hl [some (.ptr (.agg [.int .i64 x159, .bool x160, .sh (.rows 3 (List.map e0 x161)), .int .i64 x162, .ints .i64 x163, .ints .i64 x164, .ints .i64 x165]))], 1⟩ : St)) (fun (x189 : Int) e st => e = .exit 0 ∧ gc 0 [9] st = ⟨al .dead [(9, .vw [] (.int .i64 x189))], hl [], 0⟩) hw256 ?_) ?_
   ·rintro ⟨x159, x160, x161, x162, x163, x164, x165, x166, x167⟩ o h
    refine wp_gc ?_
    refine wp_seq ?_
    refine wp_reg (nx' := 17) rfl (ev_v rfl rfl (ev_nil)) (seqQ_n (?_))
    refine wp_seq ?_
    refine wp_gc ?_
    rcases its h with ⟨hc212, h⟩ | ⟨hc212, h⟩
    ·refine wp_ct rfl hc212 ?_
     refine wp_skip (gcQ_n (gc_to [0] (e := [(8, .ptr 0 [] (some 0)), (9, .vw [] (.int .i64 x166)), (22, .vw [] (.int .i64 p2)), (23, .vw [] (.int .i64 x167))]) (ts := [some (.ptr (.agg [.int .i64 x159, .bool x160, .sh (.rows 3 (List.map e0 x161)), .int .i64 x162, .ints .i64 x163, .ints .i64 x164, .ints .i64 x165]))]) (n := 1) rfl rfl rfl rfl) (seqQ_n (?_)))
     refine wp_seq ?_
     refine wp_join (impl_FullTicks_j3 x167) (fun ((x216, x217, x218, x219, x220, x221, x222, x223) : Int × Bool × (List (Int × Int × Int)) × Int × (List Int) × (List Int) × (List Int) × Int) => (⟨al .dead [(8, .ptr 0 [] (some 0)), (9, .vw [] (.int .i64 x223)), (22, .vw [] (.int .i64 p2)), (23, .vw [] (.int .i64 x167))], hl [some (.ptr (.agg [.int .i64 x216, .bool x217, .sh (.rows 3 (List.map e0 x218)), .int .i64 x219, .ints .i64 x220, .ints .i64 x221, .ints .i64 x222]))], 1⟩ : St)) ?_ ?_
     ·rintro ⟨x216, x217, x218, x219, x220, x221, x222, x223⟩ o h
      unfold impl_FullTicks_j3 at h
      refine seqQ_n (?_)
      replace h := Option.some.inj h
      subst h
      exact wp_reg (nx' := 33) rfl (ev_v rfl rfl (ev_v rfl rfl (ev_nil))) (gcQ_n (gc_to [0] (e := [(8, .ptr 0 [] (some 0)), (9, .vw [] (.int .i64 x223)), (22, .vw [] (.int .i64 p2)), (23, .vw [] (.int .i64 ((w64 (x167 + (1 : Int))))))]) (ts := [some (.ptr (.agg [.int .i64 x216, .bool x217, .sh (.rows 3 (List.map e0 x218)), .int .i64 x219, .ints .i64 x220, .ints .i64 x221, .ints .i64 x222]))]) (n := 1) rfl rfl rfl rfl) (loopQ_n rfl))
     ·refine wp_gc ?_
      refine wp_blk ?_
      refine wp_seq ?_
      obtain ⟨v236, hv236, h⟩ := bs h
      refine wp_reg (nx' := 33) rfl (ev_den (.ptr 0 [] (some 0)) rfl rfl (ev_call1 [(.ptr 0 [] (some 0))] rfl (call_ok (rs := [0]) (rd := []) rfl rfl rfl rfl (argL_cons rfl (argL_nil)) rfl rfl (impl_slotter_step_ok hv236) rfl rfl rfl (bindR_t (bindL_nil)) rfl) (ev_nil))) (seqQ_n (?_))
      refine wp_seq ?_
      obtain ⟨v237, hv237, h⟩ := bs h
      refine wp_reg (nx' := 129) rfl (ev_den (.ptr 0 [] (some 0)) rfl rfl (ev_den (.ptr 0 [] (some 0)) rfl rfl (ev_den (.ptr 0 [] (some 4)) rfl rfl (ev_den (.ref 0 [.f 4] _ _ _) rfl (d_ld_o rfl (rget_of rfl (get_nil)) rfl rfl) (ev_call0 [(.ref 0 [.f 4] _ _ _), (.vw _ _)] rfl (call_ok (rs := []) (rd := [0]) rfl rfl rfl rfl (argL_cons (argT_r (rget_of rfl (get_f rfl (get_nil))) sub_i) (argL_cons rfl (argL_nil))) rfl rfl (slices_Contains_ok hv237) rfl rfl rfl rfl rfl) (ev_v rfl rfl (ev_nil))))))) (seqQ_n (?_))
      rcases its h with ⟨hc238, h⟩ | ⟨hc238, h⟩
      ·refine wp_ct rfl hc238 ?_
       exact wp_reg (nx' := 177) rfl (ev_v rfl rfl (ev_v rfl rfl (ev_v rfl rfl (ev_nil)))) (blkQ_n (gcQ_n (gc_to [0] (e := [(8, .ptr 0 [] (some 0)), (9, .vw [] (.int .i64 ((w64 (x166 + (1 : Int)))))), (22, .vw [] (.int .i64 p2)), (23, .vw [] (.int .i64 x167))]) (ts := [some (.ptr (.agg [.int .i64 v236.1, .bool v236.2.1, .sh (.rows 3 (List.map e0 v236.2.2.1)), .int .i64 v236.2.2.2.1, .ints .i64 v236.2.2.2.2.1, .ints .i64 v236.2.2.2.2.2.1, .ints .i64 v236.2.2.2.2.2.2]))]) (n := 1) rfl rfl rfl rfl) (joinQ_n (v236.1, v236.2.1, v236.2.2.1, v236.2.2.2.1, v236.2.2.2.2.1, v236.2.2.2.2.2.1, v236.2.2.2.2.2.2, (w64 (x166 + (1 : Int)))) h (gc_to [0] rfl rfl rfl rfl))))
      ·refine wp_cf rfl hc238 ?_
       exact wp_skip (blkQ_n (gcQ_n (gc_to [0] (e := [(8, .ptr 0 [] (some 0)), (9, .vw [] (.int .i64 x166)), (22, .vw [] (.int .i64 p2)), (23, .vw [] (.int .i64 x167))]) (ts := [some (.ptr (.agg [.int .i64 v236.1, .bool v236.2.1, .sh (.rows 3 (List.map e0 v236.2.2.1)), .int .i64 v236.2.2.2.1, .ints .i64 v236.2.2.2.2.1, .ints .i64 v236.2.2.2.2.2.1, .ints .i64 v236.2.2.2.2.2.2]))]) (n := 1) rfl rfl rfl rfl) (joinQ_n (v236.1, v236.2.1, v236.2.2.1, v236.2.2.2.1, v236.2.2.2.2.1, v236.2.2.2.2.2.1, v236.2.2.2.2.2.2, x166) h (gc_to [0] rfl rfl rfl rfl))))
    ·refine wp_cf rfl hc212 ?_
     replace h := Option.some.inj h
     subst h
     exact wp_exit (gcQ_e (seqQ_e (gcQ_e (loopQ_e (And.intro rfl (gc_to [] (e := [(9, .vw [] (.int .i64 x166))]) (ts := []) (n := 0) rfl rfl rfl rfl))))))
   ·intro e st256 hg256
    obtain ⟨rfl, hg256⟩ := hg256
    refine blkQ_h (gcQ_n hg256 (gcQ_n (gc_to [] (e := [(9, .vw [] (.int .i64 x189))]) (ts := []) (n := 0) rfl rfl rfl rfl) (seqQ_n (?_))))
    refine wp_seq ?_
    refine wp_reg (nx' := 48) rfl (ev_v rfl rfl (ev_v rfl rfl (ev_v rfl rfl (ev_nil)))) (seqQ_n (?_))
    replace h := Option.some.inj h
    subst h
    exact wp_ret (qf_r ((outs_ok (vs := [(.vw _ _), (.vw _ _)]) rfl (absW_cons rfl rfl (absW_cons rfl rfl (absW_nil))) rfl rfl)))
 ·obtain ⟨v257, hv257, h⟩ := bs h
  rcases its h with ⟨hc258, h⟩ | ⟨hc258, h⟩
  ·exact wp_reg (nx' := 192) rfl (ev_den (.agg [(.vw _ _), (.vw _ _)]) rfl (d_ld_os rfl (rget_of rfl (get_nil)) rfl (cells_cons rfl (cells_cons rfl (cells_nil)))) (ev_v rfl rfl (ev_call0 [(.agg [(.vw _ _), (.vw _ _)]), (.vw _ _)] rfl (call_ok (rs := []) (rd := []) rfl rfl rfl rfl (argL_cons (argT_a (argL_cons rfl (argL_cons rfl (argL_nil)))) (argL_cons rfl (argL_nil))) rfl rfl (impl_isSlotted_ok hv257) rfl rfl rfl rfl rfl) (ev_v rfl rfl (ev_v rfl rfl (ev_off rfl hc258 (ev_off rfl hc258 (ev_off rfl hc258 (ev_v rfl (d_pick_t rfl hc258 rfl) (ev_nil)))))))))) (joinQ_n true h (gc_to [0] rfl rfl rfl rfl))
  ·obtain ⟨v260, hv260, h⟩ := bs h
   exact wp_reg (nx' := 192) rfl (ev_den (.agg [(.vw _ _), (.vw _ _)]) rfl (d_ld_os rfl (rget_of rfl (get_nil)) rfl (cells_cons rfl (cells_cons rfl (cells_nil)))) (ev_v rfl rfl (ev_call0 [(.agg [(.vw _ _), (.vw _ _)]), (.vw _ _)] rfl (call_ok (rs := []) (rd := []) rfl rfl rfl rfl (argL_cons (argT_a (argL_cons rfl (argL_cons rfl (argL_nil)))) (argL_cons rfl (argL_nil))) rfl rfl (impl_isSlotted_ok hv257) rfl rfl rfl rfl rfl) (ev_v rfl rfl (ev_v rfl rfl (ev_on rfl hc258 (ev_v rfl rfl (ev_on rfl hc258 (ev_call0 [(.vw _ _)] rfl (call_ok (rs := []) (rd := []) rfl rfl rfl rfl (argL_cons rfl (argL_nil)) rfl rfl (impl_isSlotTick_ok hv260) rfl rfl rfl rfl rfl) (ev_on rfl hc258 (ev_v rfl rfl (ev_v rfl (d_pick_f rfl hc258 rfl) (ev_nil))))))))))))) (joinQ_n (!v260) h (gc_to [0] rfl rfl rfl rfl))
noncomputable def spec_l1Has_s1 (p0 : List Int) (p1 : Int) : Int → Option (Int ⊕ (Unit ⊕ Bool)) := fun x28 =>
if (decide (x28 < (List.length p0 : Int))) = true then
(at? p0 x28).bind fun v43 =>
if (v43 == p1) = true then
some (.inr (.inr true))
else
some (.inl ((w64 (x28 + (1 : Int)))))
else
some (.inr (.inl ()))
noncomputable def spec_l1Has_l1 (p0 : List Int) (p1 : Int) : Int → Option (Unit ⊕ Bool) := iter (spec_l1Has_s1 p0 p1)
/-- loop.example/g01176/spec.l1Has -/
noncomputable def spec_l1Has (p0 : List Int) (p1 : Int) : Option Bool :=
(spec_l1Has_l1 p0 p1 (0 : Int)).bind fun w => match w with
| .inl _ =>
some false
| .inr r47 =>
some r47
theorem spec_l1Has_ok {p0 : List Int} {p1 : Int} {o : Bool} (h : spec_l1Has p0 p1 = some o) : RN 54 [.ints .i64 p0, .int .i64 p1] [] = some (.bool o, []) := by
 refine fn_run (o := o) (nr := 0) (F := k54) (st := ⟨entry 0 [.vw [] (.ints .i64 p0), .vw [] (.int .i64 p1)], fun n => ([] : List T)[n]?, 0⟩) (fun (o : Bool) => (.bool o, [])) rfl fns_54 rfl rfl rfl ?_
 refine wp_seq ?_
 refine wp_reg (nx' := 16) rfl (ev_v rfl rfl (ev_nil)) (seqQ_n (?_))
 refine wp_seq ?_
 refine wp_gc ?_
 refine wp_seq ?_
 refine wp_gc ?_
 refine wp_reg (nx' := 64) rfl (ev_v rfl rfl (ev_v rfl rfl (ev_v rfl rfl (ev_nil)))) (gcQ_n (gc_to [] (e := [(1, .vw [] (.int .i64 p1)), (7, .vw [] (.ints .i64 p0)), (8, .vw [] (.int .i64 ((List.length p0 : Int)))), (9, .vw [] (.int .i64 ((0 : Int))))]) (ts := []) (n := 0) rfl rfl rfl rfl) (seqQ_n (?_)))
 refine wp_gc ?_
 refine wp_blk ?_
 obtain ⟨w46, hw46, h⟩ := bs h
 refine wp_mono (wp_loop (fun (x28 : Int) => (⟨al .dead [(1, .vw [] (.int .i64 p1)), (7, .vw [] (.ints .i64 p0)), (8, .vw [] (.int .i64 ((List.length p0 : Int)))), (9, .vw [] (.int .i64 x28))], hl [], 0⟩ : St)) (fun (v : Unit ⊕ Bool) e st => match v with | .inl _ => e = .exit 0 ∧ gc 0 [] st = ⟨al .dead [], hl [], 0⟩ | .inr rr => e = .ret ∧ outs 0 k54 st = some (.bool rr, [])) hw46 ?_) ?_
 ·rintro x28 o h
  refine wp_gc ?_
  refine wp_seq ?_
  refine wp_reg (nx' := 16) rfl (ev_v rfl rfl (ev_nil)) (seqQ_n (?_))
  refine wp_seq ?_
  refine wp_gc ?_
  rcases its h with ⟨hc38, h⟩ | ⟨hc38, h⟩
  ·refine wp_ct rfl hc38 ?_
   refine wp_skip (gcQ_n (gc_to [] (e := [(1, .vw [] (.int .i64 p1)), (7, .vw [] (.ints .i64 p0)), (8, .vw [] (.int .i64 ((List.length p0 : Int)))), (9, .vw [] (.int .i64 x28))]) (ts := []) (n := 0) rfl rfl rfl rfl) (seqQ_n (?_)))
   refine wp_seq ?_
   refine wp_gc ?_
   refine wp_gc ?_
   refine wp_blk ?_
   refine wp_seq ?_
   obtain ⟨v43, hv43, h⟩ := bs h
   refine wp_reg (nx' := 48) rfl (ev_den (.pv _ _) rfl (d_idx_vi rfl rfl hv43) (ev_v rfl rfl (ev_v rfl rfl (ev_nil)))) (seqQ_n (?_))
   refine wp_seq ?_
   refine wp_reg (nx' := 96) rfl (ev_v rfl rfl (ev_v rfl rfl (ev_v rfl rfl (ev_nil)))) (seqQ_n (?_))
   rcases its h with ⟨hc44, h⟩ | ⟨hc44, h⟩
   ·refine wp_ct rfl hc44 ?_
    refine wp_seq ?_
    refine wp_reg (nx' := 112) rfl (ev_v rfl rfl (ev_nil)) (seqQ_n (?_))
    replace h := Option.some.inj h
    subst h
    exact wp_ret (blkQ_r (gcQ_r (gcQ_r (seqQ_r (gcQ_r (loopQ_r (And.intro rfl (outs_ok (vs := [(.vw _ _)]) rfl (absW_cons rfl rfl (absW_nil)) rfl rfl))))))))
   ·refine wp_cf rfl hc44 ?_
    refine wp_skip (blkQ_n (gcQ_n (gc_to [] (e := [(1, .vw [] (.int .i64 p1)), (7, .vw [] (.ints .i64 p0)), (8, .vw [] (.int .i64 ((List.length p0 : Int)))), (9, .vw [] (.int .i64 x28))]) (ts := []) (n := 0) rfl rfl rfl rfl) (gcQ_n (gc_to [] (e := [(1, .vw [] (.int .i64 p1)), (7, .vw [] (.ints .i64 p0)), (8, .vw [] (.int .i64 ((List.length p0 : Int)))), (9, .vw [] (.int .i64 x28))]) (ts := []) (n := 0) rfl rfl rfl rfl) (seqQ_n (?_)))))
    replace h := Option.some.inj h
    subst h
    exact wp_reg (nx' := 32) rfl (ev_v rfl rfl (ev_v rfl rfl (ev_nil))) (gcQ_n (gc_to [] (e := [(1, .vw [] (.int .i64 p1)), (7, .vw [] (.ints .i64 p0)), (8, .vw [] (.int .i64 ((List.length p0 : Int)))), (9, .vw [] (.int .i64 ((w64 (x28 + (1 : Int))))))]) (ts := []) (n := 0) rfl rfl rfl rfl) (loopQ_n rfl))
  ·refine wp_cf rfl hc38 ?_
   replace h := Option.some.inj h
   subst h
   exact wp_exit (gcQ_e (seqQ_e (gcQ_e (loopQ_e (And.intro rfl (gc_to [] (e := []) (ts := []) (n := 0) rfl rfl rfl rfl))))))
 ·intro e st46 hg46
  rcases w46 with _ | r47
  ·obtain ⟨rfl, hg46⟩ := hg46
   refine blkQ_h (gcQ_n hg46 (gcQ_n (gc_to [] (e := []) (ts := []) (n := 0) rfl rfl rfl rfl) (seqQ_n (?_))))
   refine wp_seq ?_
   refine wp_reg (nx' := 16) rfl (ev_v rfl rfl (ev_nil)) (seqQ_n (?_))
   replace h := Option.some.inj h
   subst h
   exact wp_ret (qf_r ((outs_ok (vs := [(.vw _ _)]) rfl (absW_cons rfl rfl (absW_nil)) rfl rfl)))
  ·obtain ⟨rfl, hg46⟩ := hg46
   replace h := Option.some.inj h
   subst h
   exact blkQ_r (gcQ_r (gcQ_r (seqQ_r (qf_r (hg46)))))
noncomputable def spec_FullTicks_j3 (x153 : Int) : (Int × Bool × (List (Int × Int × Int)) × (List Int) × (List Int) × (List Int) × Int) → Option ((Int × Bool × (List (Int × Int × Int)) × (List Int) × (List Int) × (List Int) × Int × Int) ⊕ Int) := fun (x198, x199, x200, x201, x202, x203, x204) =>
some (.inl (x198, x199, x200, x201, x202, x203, x204, (w64 (x153 + (1 : Int)))))
noncomputable def spec_FullTicks_s2 (p2 : Int) : (Int × Bool × (List (Int × Int × Int)) × (List Int) × (List Int) × (List Int) × Int × Int) → Option ((Int × Bool × (List (Int × Int × Int)) × (List Int) × (List Int) × (List Int) × Int × Int) ⊕ Int) := fun (x146, x147, x148, x149, x150, x151, x152, x153) =>
if (decide (x153 < p2)) = true then
(spec_slRun_tick x153 ((x146, x147, x148, x149, x150, x151))).bind fun v216 =>
(spec_l1Has v216.2.2.2.1 ((0 : Int))).bind fun v217 =>
if (!v217) = true then
spec_FullTicks_j3 x153 (v216.1, v216.2.1, v216.2.2.1, v216.2.2.2.1, v216.2.2.2.2.1, v216.2.2.2.2.2, (w64 (x152 + (1 : Int))))
else
spec_FullTicks_j3 x153 (v216.1, v216.2.1, v216.2.2.1, v216.2.2.2.1, v216.2.2.2.2.1, v216.2.2.2.2.2, x152)
else
some (.inr x152)
noncomputable def spec_FullTicks_l2 (p2 : Int) : (Int × Bool × (List (Int × Int × Int)) × (List Int) × (List Int) × (List Int) × Int × Int) → Option Int := iter (spec_FullTicks_s2 p2)
noncomputable def spec_FullTicks_j1 (p0 : Int × Bool) (p1 : List (Int × Int × Int)) (p2 : Int) : Bool → Option ((Int × Bool)) := fun x54 =>
if x54 = true then
some ((0 : Int), false)
else
(spec_slNew p0 p1).bind fun v56 =>
(spec_FullTicks_l2 p2 (v56.1, v56.2.1, v56.2.2.1, v56.2.2.2.1, v56.2.2.2.2.1, v56.2.2.2.2.2, (0 : Int), (0 : Int))).bind fun x173 =>
some (x173, true)
/-- loop.example/g01176/spec.FullTicks -/
noncomputable def spec_FullTicks (p0 : Int × Bool) (p1 : List (Int × Int × Int)) (p2 : Int) : Option ((Int × Bool)) :=
(spec_slAll p0 p1).bind fun v235 =>
if (!v235) = true then
spec_FullTicks_j1 p0 p1 p2 true
else
(spec_l1In p2 ((0 : Int)) ((400 : Int))).bind fun v238 =>
spec_FullTicks_j1 p0 p1 p2 (!v238)
theorem spec_FullTicks_ok {p0 : Int × Bool} {p1 : List (Int × Int × Int)} {p2 : Int} {o : (Int × Bool)} (h : spec_FullTicks p0 p1 p2 = some o) : RN 17 [.agg [.int .i64 p0.1, .bool p0.2], .rows 3 (List.map e0 p1), .int .i64 p2] [] = some (.tup [.int .i64 o.1, .bool o.2], []) := by
 refine fn_run (o := o) (nr := 0) (F := k17) (st := ⟨entry 0 [.agg [.vw [] (.int .i64 p0.1), .vw [] (.bool p0.2)], .vw [] (.rows 3 (List.map e0 p1)), .vw [] (.int .i64 p2)], fun n => ([] : List T)[n]?, 0⟩) (fun (o : (Int × Bool)) => (.tup [.int .i64 o.1, .bool o.2], [])) rfl fns_17 rfl rfl rfl ?_
 refine wp_seq ?_
 refine wp_reg (nx' := 48) rfl (ev_wr rfl (w_box (sv := (.agg [(.vw _ _), (.vw _ _)])) rfl rfl (absW_cons rfl rfl (absW_cons rfl rfl (absW_nil)))) (ev_v rfl rfl (ev_v rfl rfl (ev_nil)))) (seqQ_n (?_))
 refine wp_seq ?_
 refine wp_gc ?_
 refine wp_seq ?_
 refine wp_join (spec_FullTicks_j1 p0 p1 p2) (fun (x54 : Bool) => (⟨al .dead [(1, .vw [] (.rows 3 (List.map e0 p1))), (2, .vw [] (.int .i64 p2)), (3, .ptr 0 [] (some 0)), (19, .vw [] (.bool x54))], hl [some (.ptr (.agg [.int .i64 p0.1, .bool p0.2]))], 1⟩ : St)) ?_ ?_
 ·rintro x54 o h
  unfold spec_FullTicks_j1 at h
  refine seqQ_n (?_)
  rcases its h with ⟨hc55, h⟩ | ⟨hc55, h⟩
  ·refine wp_ct rfl hc55 ?_
   refine wp_seq ?_
   refine wp_reg (nx' := 33) rfl (ev_v rfl rfl (ev_v rfl rfl (ev_nil))) (seqQ_n (?_))
   replace h := Option.some.inj h
   subst h
   exact wp_ret (gcQ_r (seqQ_r (qf_r ((outs_ok (vs := [(.vw _ _), (.vw _ _)]) rfl (absW_cons rfl rfl (absW_cons rfl rfl (absW_nil))) rfl rfl)))))
  ·refine wp_cf rfl hc55 ?_
   refine wp_skip (gcQ_n (gc_to [0] (e := [(1, .vw [] (.rows 3 (List.map e0 p1))), (2, .vw [] (.int .i64 p2)), (3, .ptr 0 [] (some 0))]) (ts := [some (.ptr (.agg [.int .i64 p0.1, .bool p0.2]))]) (n := 1) rfl rfl rfl rfl) (seqQ_n (?_)))
   refine wp_seq ?_
   obtain ⟨v56, hv56, h⟩ := bs h
   refine wp_reg (nx' := 65) rfl (ev_den (.agg [(.vw _ _), (.vw _ _)]) rfl (d_ld_os rfl (rget_of rfl (get_nil)) rfl (cells_cons rfl (cells_cons rfl (cells_nil)))) (ev_v rfl rfl (ev_call0 [(.agg [(.vw _ _), (.vw _ _)]), (.vw _ _)] rfl (call_ok (rs := []) (rd := []) rfl rfl rfl rfl (argL_cons (argT_a (argL_cons rfl (argL_cons rfl (argL_nil)))) (argL_cons rfl (argL_nil))) rfl rfl (spec_slNew_ok hv56) rfl rfl rfl rfl rfl) (ev_den (.ptr 33 [] (some 0)) rfl rfl (ev_nil))))) (seqQ_n (?_))
   refine wp_seq ?_
   refine wp_reg (nx' := 81) rfl (ev_v rfl rfl (ev_nil)) (seqQ_n (?_))
   refine wp_seq ?_
   refine wp_gc ?_
   refine wp_seq ?_
   refine wp_gc ?_
   refine wp_reg (nx' := 97) rfl (ev_v rfl rfl (ev_nil)) (gcQ_n (gc_to [33] (e := [(2, .vw [] (.int .i64 p2)), (8, .ptr 0 [] (some 0)), (9, .vw [] (.int .i64 ((0 : Int)))), (10, .vw [] (.int .i64 ((0 : Int))))]) (ts := [some (.ptr (.agg [.int .i64 v56.1, .bool v56.2.1, .sh (.rows 3 (List.map e0 v56.2.2.1)), .ints .i64 v56.2.2.2.1, .ints .i64 v56.2.2.2.2.1, .ints .i64 v56.2.2.2.2.2]))]) (n := 1) rfl rfl rfl rfl) (seqQ_n (?_)))
   refine wp_gc ?_
   refine wp_blk ?_
   obtain ⟨x173, hw234, h⟩ := bs h
   refine wp_mono (wp_loop (fun ((x146, x147, x148, x149, x150, x151, x152, x153) : Int × Bool × (List (Int × Int × Int)) × (List Int) × (List Int) × (List Int) × Int × Int) => (⟨al .dead [(2, .vw [] (.int .i64 p2)), (8, .ptr 0 [] (some 0)), (9, .vw [] (.int .i64 x152)), (10, .vw [] (.int .i64 x153))], hl [some (.ptr (.agg [.int .i64 x146, .bool x147, .sh (.rows 3 (List.map e0 x148)), .ints .i64 x149, .ints .i64 x150, .ints .i64 x151]))], 1⟩ : St)) (fun (x173 : Int) e st => e = .exit 0 ∧ gc 0 [9] st = ⟨al .dead [(9, .vw [] (.int .i64 x173))], hl [], 0⟩) hw234 ?_) ?_
   ·rintro ⟨x146, x147, x148, x149, x150, x151, x152, x153⟩ o h
    refine wp_gc ?_
    refine wp_seq ?_
    refine wp_gc ?_
    refine wp_seq ?_
    refine wp_reg (nx' := 49) rfl (ev_v rfl rfl (ev_v rfl rfl (ev_v rfl rfl (ev_nil)))) (seqQ_n (?_))
    rcases its h with ⟨hc194, h⟩ | ⟨hc194, h⟩
    ·refine wp_ct rfl hc194 ?_
     refine wp_skip (gcQ_n (gc_to [0] (e := [(2, .vw [] (.int .i64 p2)), (8, .ptr 0 [] (some 0)), (9, .vw [] (.int .i64 x152)), (10, .vw [] (.int .i64 x153))]) (ts := [some (.ptr (.agg [.int .i64 x146, .bool x147, .sh (.rows 3 (List.map e0 x148)), .ints .i64 x149, .ints .i64 x150, .ints .i64 x151]))]) (n := 1) rfl rfl rfl rfl) (seqQ_n (?_)))
     refine wp_seq ?_
     refine wp_join (spec_FullTicks_j3 x153) (fun ((x198, x199, x200, x201, x202, x203, x204) : Int × Bool × (List (Int × Int × Int)) × (List Int) × (List Int) × (List Int) × Int) => (⟨al .dead [(2, .vw [] (.int .i64 p2)), (8, .ptr 0 [] (some 0)), (9, .vw [] (.int .i64 x204)), (10, .vw [] (.int .i64 x153))], hl [some (.ptr (.agg [.int .i64 x198, .bool x199, .sh (.rows 3 (List.map e0 x200)), .ints .i64 x201, .ints .i64 x202, .ints .i64 x203]))], 1⟩ : St)) ?_ ?_
     ·rintro ⟨x198, x199, x200, x201, x202, x203, x204⟩ o h
      unfold spec_FullTicks_j3 at h
      refine seqQ_n (?_)
      replace h := Option.some.inj h
      subst h
      exact wp_reg (nx' := 49) rfl (ev_v rfl rfl (ev_v rfl rfl (ev_v rfl rfl (ev_nil)))) (gcQ_n (gc_to [0] (e := [(2, .vw [] (.int .i64 p2)), (8, .ptr 0 [] (some 0)), (9, .vw [] (.int .i64 x204)), (10, .vw [] (.int .i64 ((w64 (x153 + (1 : Int))))))]) (ts := [some (.ptr (.agg [.int .i64 x198, .bool x199, .sh (.rows 3 (List.map e0 x200)), .ints .i64 x201, .ints .i64 x202, .ints .i64 x203]))]) (n := 1) rfl rfl rfl rfl) (loopQ_n rfl))
     ·refine wp_gc ?_
      refine wp_blk ?_
      refine wp_seq ?_
      obtain ⟨v216, hv216, h⟩ := bs h
      refine wp_reg (nx' := 49) rfl (ev_den (.ptr 0 [] (some 0)) rfl rfl (ev_v rfl rfl (ev_call1 [(.ptr 0 [] (some 0)), (.vw _ _)] rfl (call_ok (rs := [0]) (rd := []) rfl rfl rfl rfl (argL_cons rfl (argL_cons rfl (argL_nil))) rfl rfl (spec_slRun_tick_ok hv216) rfl rfl rfl (bindR_t (bindL_nil)) rfl) (ev_nil)))) (seqQ_n (?_))
      refine wp_seq ?_
      obtain ⟨v217, hv217, h⟩ := bs h
      refine wp_reg (nx' := 145) rfl (ev_den (.ptr 0 [] (some 0)) rfl rfl (ev_den (.ptr 0 [] (some 0)) rfl rfl (ev_den (.ptr 0 [] (some 3)) rfl rfl (ev_den (.ref 0 [.f 3] _ _ _) rfl (d_ld_o rfl (rget_of rfl (get_nil)) rfl rfl) (ev_call0 [(.ref 0 [.f 3] _ _ _), (.vw _ _)] rfl (call_ok (rs := []) (rd := [0]) rfl rfl rfl rfl (argL_cons (argT_r (rget_of rfl (get_f rfl (get_nil))) sub_i) (argL_cons rfl (argL_nil))) rfl rfl (spec_l1Has_ok hv217) rfl rfl rfl rfl rfl) (ev_v rfl rfl (ev_nil))))))) (seqQ_n (?_))
      rcases its h with ⟨hc218, h⟩ | ⟨hc218, h⟩
      ·refine wp_ct rfl hc218 ?_
       exact wp_reg (nx' := 193) rfl (ev_v rfl rfl (ev_v rfl rfl (ev_v rfl rfl (ev_nil)))) (blkQ_n (gcQ_n (gc_to [0] (e := [(2, .vw [] (.int .i64 p2)), (8, .ptr 0 [] (some 0)), (9, .vw [] (.int .i64 ((w64 (x152 + (1 : Int)))))), (10, .vw [] (.int .i64 x153))]) (ts := [some (.ptr (.agg [.int .i64 v216.1, .bool v216.2.1, .sh (.rows 3 (List.map e0 v216.2.2.1)), .ints .i64 v216.2.2.2.1, .ints .i64 v216.2.2.2.2.1, .ints .i64 v216.2.2.2.2.2]))]) (n := 1) rfl rfl rfl rfl) (joinQ_n (v216.1, v216.2.1, v216.2.2.1, v216.2.2.2.1, v216.2.2.2.2.1, v216.2.2.2.2.2, (w64 (x152 + (1 : Int)))) h (gc_to [0] rfl rfl rfl rfl))))
      ·refine wp_cf rfl hc218 ?_
       exact wp_skip (blkQ_n (gcQ_n (gc_to [0] (e := [(2, .vw [] (.int .i64 p2)), (8, .ptr 0 [] (some 0)), (9, .vw [] (.int .i64 x152)), (10, .vw [] (.int .i64 x153))]) (ts := [some (.ptr (.agg [.int .i64 v216.1, .bool v216.2.1, .sh (.rows 3 (List.map e0 v216.2.2.1)), .ints .i64 v216.2.2.2.1, .ints .i64 v216.2.2.2.2.1, .ints .i64 v216.2.2.2.2.2]))]) (n := 1) rfl rfl rfl rfl) (joinQ_n (v216.1, v216.2.1, v216.2.2.1, v216.2.2.2.1, v216.2.2.2.2.1, v216.2.2.2.2.2, x152) h (gc_to [0] rfl rfl rfl rfl))))
    ·refine wp_cf rfl hc194 ?_
     replace h := Option.some.inj h
     subst h
     exact wp_exit (gcQ_e (seqQ_e (gcQ_e (loopQ_e (And.intro rfl (gc_to [] (e := [(9, .vw [] (.int .i64 x152))]) (ts := []) (n := 0) rfl rfl rfl rfl))))))
   ·intro e st234 hg234
    obtain ⟨rfl, hg234⟩ := hg234
    refine blkQ_h (gcQ_n hg234 (gcQ_n (gc_to [] (e := [(9, .vw [] (.int .i64 x173))]) (ts := []) (n := 0) rfl rfl rfl rfl) (seqQ_n (?_))))
    refine wp_seq ?_
    refine wp_reg (nx' := 48) rfl (ev_v rfl rfl (ev_v rfl rfl (ev_v rfl rfl (ev_nil)))) (seqQ_n (?_))
    replace h := Option.some.inj h
    subst h
    exact wp_ret (qf_r ((outs_ok (vs := [(.vw _ _), (.vw _ _)]) rfl (absW_cons rfl rfl (absW_cons rfl rfl (absW_nil))) rfl rfl)))
 ·obtain ⟨v235, hv235, h⟩ := bs h
  rcases its h with ⟨hc236, h⟩ | ⟨hc236, h⟩
  ·exact wp_reg (nx' := 192) rfl (ev_den (.agg [(.vw _ _), (.vw _ _)]) rfl (d_ld_os rfl (rget_of rfl (get_nil)) rfl (cells_cons rfl (cells_cons rfl (cells_nil)))) (ev_v rfl rfl (ev_call0 [(.agg [(.vw _ _), (.vw _ _)]), (.vw _ _)] rfl (call_ok (rs := []) (rd := []) rfl rfl rfl rfl (argL_cons (argT_a (argL_cons rfl (argL_cons rfl (argL_nil)))) (argL_cons rfl (argL_nil))) rfl rfl (spec_slAll_ok hv235) rfl rfl rfl rfl rfl) (ev_v rfl rfl (ev_v rfl rfl (ev_off rfl hc236 (ev_off rfl hc236 (ev_off rfl hc236 (ev_v rfl (d_pick_t rfl hc236 rfl) (ev_nil)))))))))) (joinQ_n true h (gc_to [0] rfl rfl rfl rfl))
  ·obtain ⟨v238, hv238, h⟩ := bs h
   exact wp_reg (nx' := 192) rfl (ev_den (.agg [(.vw _ _), (.vw _ _)]) rfl (d_ld_os rfl (rget_of rfl (get_nil)) rfl (cells_cons rfl (cells_cons rfl (cells_nil)))) (ev_v rfl rfl (ev_call0 [(.agg [(.vw _ _), (.vw _ _)]), (.vw _ _)] rfl (call_ok (rs := []) (rd := []) rfl rfl rfl rfl (argL_cons (argT_a (argL_cons rfl (argL_cons rfl (argL_nil)))) (argL_cons rfl (argL_nil))) rfl rfl (spec_slAll_ok hv235) rfl rfl rfl rfl rfl) (ev_v rfl rfl (ev_v rfl rfl (ev_on rfl hc236 (ev_v rfl rfl (ev_on rfl hc236 (ev_call0 [(.vw _ _), (.vw _ _), (.vw _ _)] rfl (call_ok (rs := []) (rd := []) rfl rfl rfl rfl (argL_cons rfl (argL_cons rfl (argL_cons rfl (argL_nil)))) rfl rfl (spec_l1In_ok hv238) rfl rfl rfl rfl rfl) (ev_on rfl hc236 (ev_v rfl rfl (ev_v rfl (d_pick_f rfl hc236 rfl) (ev_nil))))))))))))) (joinQ_n (!v238) h (gc_to [0] rfl rfl rfl rfl))
/-- loop.example/g01176/spec.DrawTurnMessages -/
noncomputable def spec_DrawTurnMessages (p0 : List Int) : Option (((Int × Bool) × (List (Int × Int × Int)) × Int)) :=
(spec_l1Cur_slotted ((p0, (0 : Int), (0 : Int)))).bind fun v4 =>
(spec_l1Cur_pick ((6 : Int)) v4.2).bind fun v5 =>
(spec_l1Cur_pick ((9 : Int)) v5.2).bind fun v6 =>
some (v4.1.1, v4.1.2, (w64 (v5.1 - (w64 (Int.tdiv v6.1 (8 : Int))))))
theorem spec_DrawTurnMessages_ok {p0 : List Int} {o : ((Int × Bool) × (List (Int × Int × Int)) × Int)} (h : spec_DrawTurnMessages p0 = some o) : RN 18 [.ints .u8 p0] [] = some (.tup [.agg [.int .i64 o.1.1, .bool o.1.2], .rows 3 (List.map e0 o.2.1), .int .i64 o.2.2], []) := by
 refine fn_run (o := o) (nr := 0) (F := k18) (st := ⟨entry 0 [.vw [] (.ints .u8 p0)], fun n => ([] : List T)[n]?, 0⟩) (fun (o : ((Int × Bool) × (List (Int × Int × Int)) × Int)) => (.tup [.agg [.int .i64 o.1.1, .bool o.1.2], .rows 3 (List.map e0 o.2.1), .int .i64 o.2.2], [])) rfl fns_18 rfl rfl rfl ?_
 refine wp_seq ?_
 refine wp_reg (nx' := 48) rfl (ev_new (.ptr 0 [] (some 0)) (.ptr (.agg [.int .i64 ((0 : Int)), .bool false])) rfl rfl (ev_new (.ref 16 [] 3 0 0) (.rows 3 []) rfl rfl (ev_v rfl rfl (ev_nil)))) (seqQ_n (?_))
 refine wp_seq ?_
 refine wp_reg (nx' := 112) rfl (ev_v rfl rfl (ev_den (.agg [(.vw _ _), (.vw _ _), (.vw _ _)]) rfl rfl (ev_wr rfl (w_box (sv := (.agg [(.vw _ _), (.vw _ _), (.vw _ _)])) rfl rfl (absW_cons rfl rfl (absW_cons rfl rfl (absW_cons rfl rfl (absW_nil))))) (ev_den (.ptr 80 [] (some 0)) rfl rfl (ev_nil))))) (seqQ_n (?_))
 refine wp_seq ?_
 obtain ⟨v4, hv4, h⟩ := bs h
 refine wp_reg (nx' := 240) rfl (ev_den (.ptr 80 [] (some 0)) rfl rfl (ev_call1 [(.ptr 80 [] (some 0))] rfl (call_ok (rs := [80]) (rd := []) rfl rfl rfl rfl (argL_cons rfl (argL_nil)) rfl rfl (spec_l1Cur_slotted_ok hv4) rfl rfl rfl (bindR_t (bindL_cons (bindR_a (bindL_cons rfl (bindL_cons rfl (bindL_nil)))) (bindL_cons bindR_r (bindL_nil)))) rfl) (ev_den (.tup [(.agg [(.vw _ _), (.vw _ _)]), (.ref 128 _ _ _ _)]) rfl rfl (ev_den (.agg [(.vw _ _), (.vw _ _)]) rfl rfl (ev_den (.ref 128 _ _ _ _) rfl rfl (ev_new (.ptr 192 [] (some 0)) (.ptr (.agg [.int .i64 ((0 : Int)), .bool false])) rfl rfl (ev_wr0 rfl (w_st_a rfl rfl rfl (stL_cons (st1_of rfl rfl rfl (get_f rfl (get_nil)) rfl (rput_p (put_f rfl (put_nil)))) rfl (stL_cons (st1_of rfl rfl rfl (get_f rfl (get_nil)) rfl (rput_p (put_f rfl (put_nil)))) rfl (stL_nil)))) (ev_den (.ref 128 _ _ _ _) rfl rfl (ev_nil))))))))) (seqQ_n (?_))
 refine wp_seq ?_
 obtain ⟨v5, hv5, h⟩ := bs h
 obtain ⟨v6, hv6, h⟩ := bs h
 refine wp_regA rfl (ar_cons (nx' := 416) rfl (rl_cons rfl (ev_den (.agg [(.vw _ _), (.vw _ _)]) rfl (d_ld_os rfl (rget_of rfl (get_nil)) rfl (cells_cons rfl (cells_cons rfl (cells_nil)))) (ev_nil)) (rl_cons rfl (ev_den (.ref 128 _ _ _ _) rfl rfl (ev_nil)) (rl_cons rfl (ev_den (.ptr 80 [] (some 0)) rfl rfl (ev_nil)) (rl_cons rfl (ev_call1 [(.ptr 80 [] (some 0)), (.vw _ _)] rfl (call_ok (rs := [80]) (rd := []) rfl rfl rfl rfl (argL_cons rfl (argL_cons rfl (argL_nil))) rfl rfl (spec_l1Cur_pick_ok hv5) rfl rfl rfl rfl rfl) (ev_nil)) (rl_cons rfl (ev_den (.ptr 80 [] (some 0)) rfl rfl (ev_nil)) (rl_cons rfl (ev_call1 [(.ptr 80 [] (some 0)), (.vw _ _)] rfl (call_ok (rs := [80]) (rd := []) rfl rfl rfl rfl (argL_cons rfl (argL_cons rfl (argL_nil))) rfl rfl (spec_l1Cur_pick_ok hv6) rfl rfl rfl rfl rfl) (ev_nil)) (rl_cons rfl (ev_v rfl (d_quo (u := ()) rfl rfl rfl) (ev_nil)) (rl_cons rfl (ev_v rfl rfl (ev_nil)) (rl_cons rfl (ev_wr0 rfl (w_st_a rfl rfl rfl (stL_cons (st1_of rfl rfl rfl (get_f rfl (get_nil)) rfl (rput_p (put_f rfl (put_nil)))) rfl (stL_cons (st1_of rfl rfl rfl (get_f rfl (get_nil)) rfl (rput_p (put_f rfl (put_nil)))) rfl (stL_nil)))) (ev_nil)) (rl_cons rfl (ev_den (.ref 128 _ _ _ _) rfl rfl (ev_nil)) (rl_cons rfl (ev_v rfl rfl (ev_nil)) (rl_nil)))))))))))) (gc_to [0, 128] (e := [(2, .ptr 0 [] (some 0)), (3, .ref 1 [] 3 0 (List.length v4.1.2)), (4, .vw [] (.int .i64 ((w64 (v5.1 - (w64 (Int.tdiv v6.1 (8 : Int))))))))]) (ts := [some (.ptr (.agg [.int .i64 v4.1.1.1, .bool v4.1.1.2])), some (.rows 3 (List.map e0 v4.1.2))]) (n := 2) rfl rfl rfl rfl) (ar_cons (nx' := 416) rfl (rl_cons rfl (ev_den (.ref 128 _ _ _ _) rfl rfl (ev_nil)) (rl_cons rfl (ev_den (.ptr 80 [] (some 0)) rfl rfl (ev_nil)) (rl_cons rfl (ev_call1 [(.ptr 80 [] (some 0)), (.vw _ _)] rfl (call_ok (rs := [80]) (rd := []) rfl rfl rfl rfl (argL_cons rfl (argL_cons rfl (argL_nil))) rfl rfl (spec_l1Cur_pick_ok hv5) rfl rfl rfl rfl rfl) (ev_nil)) (rl_cons rfl (ev_den (.agg [(.vw _ _), (.vw _ _)]) rfl (d_ld_os rfl (rget_of rfl (get_nil)) rfl (cells_cons rfl (cells_cons rfl (cells_nil)))) (ev_nil)) (rl_cons rfl (ev_den (.ptr 80 [] (some 0)) rfl rfl (ev_nil)) (rl_cons rfl (ev_call1 [(.ptr 80 [] (some 0)), (.vw _ _)] rfl (call_ok (rs := [80]) (rd := []) rfl rfl rfl rfl (argL_cons rfl (argL_cons rfl (argL_nil))) rfl rfl (spec_l1Cur_pick_ok hv6) rfl rfl rfl rfl rfl) (ev_nil)) (rl_cons rfl (ev_v rfl (d_quo (u := ()) rfl rfl rfl) (ev_nil)) (rl_cons rfl (ev_v rfl rfl (ev_nil)) (rl_cons rfl (ev_wr0 rfl (w_st_a rfl rfl rfl (stL_cons (st1_of rfl rfl rfl (get_f rfl (get_nil)) rfl (rput_p (put_f rfl (put_nil)))) rfl (stL_cons (st1_of rfl rfl rfl (get_f rfl (get_nil)) rfl (rput_p (put_f rfl (put_nil)))) rfl (stL_nil)))) (ev_nil)) (rl_cons rfl (ev_den (.ref 128 _ _ _ _) rfl rfl (ev_nil)) (rl_cons rfl (ev_v rfl rfl (ev_nil)) (rl_nil)))))))))))) (gc_to [0, 128] (e := [(2, .ptr 0 [] (some 0)), (3, .ref 1 [] 3 0 (List.length v4.1.2)), (4, .vw [] (.int .i64 ((w64 (v5.1 - (w64 (Int.tdiv v6.1 (8 : Int))))))))]) (ts := [some (.ptr (.agg [.int .i64 v4.1.1.1, .bool v4.1.1.2])), some (.rows 3 (List.map e0 v4.1.2))]) (n := 2) rfl rfl rfl rfl) (ar_cons (nx' := 416) rfl (rl_cons rfl (ev_den (.ref 128 _ _ _ _) rfl rfl (ev_nil)) (rl_cons rfl (ev_den (.ptr 80 [] (some 0)) rfl rfl (ev_nil)) (rl_cons rfl (ev_call1 [(.ptr 80 [] (some 0)), (.vw _ _)] rfl (call_ok (rs := [80]) (rd := []) rfl rfl rfl rfl (argL_cons rfl (argL_cons rfl (argL_nil))) rfl rfl (spec_l1Cur_pick_ok hv5) rfl rfl rfl rfl rfl) (ev_nil)) (rl_cons rfl (ev_den (.ptr 80 [] (some 0)) rfl rfl (ev_nil)) (rl_cons rfl (ev_call1 [(.ptr 80 [] (some 0)), (.vw _ _)] rfl (call_ok (rs := [80]) (rd := []) rfl rfl rfl rfl (argL_cons rfl (argL_cons rfl (argL_nil))) rfl rfl (spec_l1Cur_pick_ok hv6) rfl rfl rfl rfl rfl) (ev_nil)) (rl_cons rfl (ev_den (.agg [(.vw _ _), (.vw _ _)]) rfl (d_ld_os rfl (rget_of rfl (get_nil)) rfl (cells_cons rfl (cells_cons rfl (cells_nil)))) (ev_nil)) (rl_cons rfl (ev_v rfl (d_quo (u := ()) rfl rfl rfl) (ev_nil)) (rl_cons rfl (ev_v rfl rfl (ev_nil)) (rl_cons rfl (ev_wr0 rfl (w_st_a rfl rfl rfl (stL_cons (st1_of rfl rfl rfl (get_f rfl (get_nil)) rfl (rput_p (put_f rfl (put_nil)))) rfl (stL_cons (st1_of rfl rfl rfl (get_f rfl (get_nil)) rfl (rput_p (put_f rfl (put_nil)))) rfl (stL_nil)))) (ev_nil)) (rl_cons rfl (ev_den (.ref 128 _ _ _ _) rfl rfl (ev_nil)) (rl_cons rfl (ev_v rfl rfl (ev_nil)) (rl_nil)))))))))))) (gc_to [0, 128] (e := [(2, .ptr 0 [] (some 0)), (3, .ref 1 [] 3 0 (List.length v4.1.2)), (4, .vw [] (.int .i64 ((w64 (v5.1 - (w64 (Int.tdiv v6.1 (8 : Int))))))))]) (ts := [some (.ptr (.agg [.int .i64 v4.1.1.1, .bool v4.1.1.2])), some (.rows 3 (List.map e0 v4.1.2))]) (n := 2) rfl rfl rfl rfl) (ar_nil)))) (seqQ_n (?_))
 replace h := Option.some.inj h
 subst h
 exact wp_ret (qf_r ((outs_ok (vs := [(.agg [(.vw _ _), (.vw _ _)]), (.ref 1 _ _ _ _), (.vw _ _)]) rfl (absW_cons (retT_agg (absW_cons rfl rfl (absW_cons rfl rfl (absW_nil)))) rfl (absW_cons (retT_ref (abs_ref rfl sub_r)) rfl (absW_cons rfl rfl (absW_nil)))) rfl rfl)))
noncomputable def impl_turnedMessages_s1 (p0 : Int) (p1 : List (Int × Int × Int)) (p2 : Int) : ((List (Int × Int × Int)) × Int) → Option (((List (Int × Int × Int)) × Int) ⊕ ((List (Int × Int × Int)))) := fun (x44, x45) =>
if (decide (x45 < (List.length p1 : Int))) = true then
(at? p1 x45).bind fun v67 =>
(nz? p0).bind fun u68 =>
(app? x44 (([(v67.1, (Int.tmod (w64 (v67.2.1 + p2)) p0), (Int.tmod (w64 (v67.2.2 + p2)) p0))] : List (Int × Int × Int)))).bind fun v69 =>
some (.inl (v69, (w64 (x45 + (1 : Int)))))
else
some (.inr x44)
noncomputable def impl_turnedMessages_l1 (p0 : Int) (p1 : List (Int × Int × Int)) (p2 : Int) : ((List (Int × Int × Int)) × Int) → Option ((List (Int × Int × Int))) := iter (impl_turnedMessages_s1 p0 p1 p2)
/-- loop.example/g01176/impl.turnedMessages -/
noncomputable def impl_turnedMessages (p0 : Int) (p1 : List (Int × Int × Int)) (p2 : Int) : Option ((List (Int × Int × Int))) :=
(impl_turnedMessages_l1 p0 p1 p2 (([] : List (Int × Int × Int)), (0 : Int))).bind fun x52 =>
some x52
theorem impl_turnedMessages_ok {p0 : Int} {p1 : List (Int × Int × Int)} {p2 : Int} {o : (List (Int × Int × Int))} (h : impl_turnedMessages p0 p1 p2 = some o) : RN 55 [.int .i64 p0, .rows 3 (List.map e0 p1), .int .i64 p2] [] = some (.rows 3 (List.map e0 o), []) := by
 refine fn_run (o := o) (nr := 0) (F := k55) (st := ⟨entry 0 [.vw [] (.int .i64 p0), .vw [] (.rows 3 (List.map e0 p1)), .vw [] (.int .i64 p2)], fun n => ([] : List T)[n]?, 0⟩) (fun (o : (List (Int × Int × Int))) => (.rows 3 (List.map e0 o), [])) rfl fns_55 rfl rfl rfl ?_
 refine wp_seq ?_
 refine wp_reg (nx' := 16) rfl (ev_new (.ref 0 [] 3 0 0) (.rows 3 []) rfl rfl (ev_nil)) (seqQ_n (?_))
 refine wp_seq ?_
 refine wp_reg (nx' := 48) rfl (ev_new (.ref 16 [] 3 0 0) (.rows 3 (List.map e0 (([] : List (Int × Int × Int))))) rfl rfl (ev_den (.ref 16 _ _ _ _) rfl rfl (ev_nil))) (seqQ_n (?_))
 refine wp_seq ?_
 refine wp_gc ?_
 refine wp_seq ?_
 refine wp_gc ?_
 refine wp_reg (nx' := 96) rfl (ev_v rfl rfl (ev_v rfl (d_len_vr (e := e0) rfl) (ev_v rfl rfl (ev_nil)))) (gcQ_n (gc_to [16] (e := [(0, .vw [] (.int .i64 p0)), (2, .vw [] (.int .i64 p2)), (7, .ref 0 [] 3 0 (List.length (([] : List (Int × Int × Int))))), (11, .vw [] (.rows 3 (List.map e0 p1))), (12, .vw [] (.int .i64 ((List.length p1 : Int)))), (13, .vw [] (.int .i64 ((0 : Int))))]) (ts := [some (.rows 3 (List.map e0 (([] : List (Int × Int × Int)))))]) (n := 1) rfl rfl rfl rfl) (seqQ_n (?_)))
 refine wp_gc ?_
 refine wp_blk ?_
 obtain ⟨x52, hw73, h⟩ := bs h
 refine wp_mono (wp_loop (fun ((x44, x45) : (List (Int × Int × Int)) × Int) => (⟨al .dead [(0, .vw [] (.int .i64 p0)), (2, .vw [] (.int .i64 p2)), (7, .ref 0 [] 3 0 (List.length x44)), (11, .vw [] (.rows 3 (List.map e0 p1))), (12, .vw [] (.int .i64 ((List.length p1 : Int)))), (13, .vw [] (.int .i64 x45))], hl [some (.rows 3 (List.map e0 x44))], 1⟩ : St)) (fun (x52 : (List (Int × Int × Int))) e st => e = .exit 0 ∧ gc 0 [7] st = ⟨al .dead [(7, .ref 0 [] 3 0 (List.length x52))], hl [some (.rows 3 (List.map e0 x52))], 1⟩) hw73 ?_) ?_
 ·rintro ⟨x44, x45⟩ o h
  refine wp_gc ?_
  refine wp_seq ?_
  refine wp_reg (nx' := 17) rfl (ev_v rfl rfl (ev_nil)) (seqQ_n (?_))
  refine wp_seq ?_
  refine wp_gc ?_
  rcases its h with ⟨hc60, h⟩ | ⟨hc60, h⟩
  ·refine wp_ct rfl hc60 ?_
   refine wp_skip (gcQ_n (gc_to [0] (e := [(0, .vw [] (.int .i64 p0)), (2, .vw [] (.int .i64 p2)), (7, .ref 0 [] 3 0 (List.length x44)), (11, .vw [] (.rows 3 (List.map e0 p1))), (12, .vw [] (.int .i64 ((List.length p1 : Int)))), (13, .vw [] (.int .i64 x45))]) (ts := [some (.rows 3 (List.map e0 x44))]) (n := 1) rfl rfl rfl rfl) (seqQ_n (?_)))
   refine wp_seq ?_
   refine wp_gc ?_
   refine wp_gc ?_
   refine wp_blk ?_
   refine wp_seq ?_
   obtain ⟨v67, hv67, h⟩ := bs h
   refine wp_reg (nx' := 65) rfl (ev_den (.pv _ _) rfl (d_idx_vr e0 rfl rfl hv67) (ev_den (.agg [(.vw _ _), (.vw _ _), (.vw _ _)]) rfl rfl (ev_new (.ptr 33 [] (some 0)) (.ptr (.agg [.int .i64 ((0 : Int)), .int .i64 ((0 : Int)), .int .i64 ((0 : Int))])) rfl rfl (ev_wr0 rfl (w_st_a rfl rfl rfl (stL_cons (st1_of rfl rfl rfl (get_f rfl (get_nil)) rfl (rput_p (put_f rfl (put_nil)))) rfl (stL_cons (st1_of rfl rfl rfl (get_f rfl (get_nil)) rfl (rput_p (put_f rfl (put_nil)))) rfl (stL_cons (st1_of rfl rfl rfl (get_f rfl (get_nil)) rfl (rput_p (put_f rfl (put_nil)))) rfl (stL_nil))))) (ev_nil))))) (seqQ_n (?_))
   obtain ⟨u68, hu68, h⟩ := bs h
   obtain ⟨v69, hv69, h⟩ := bs h
   refine wp_reg (nx' := 369) rfl (ev_den (.ref 0 _ _ _ _) rfl rfl (ev_den (.ptr 33 [] (some 0)) rfl rfl (ev_v rfl (d_ld_o rfl (rget_of rfl (get_nil)) rfl rfl) (ev_den (.ptr 33 [] (some 1)) rfl rfl (ev_v rfl (d_ld_o rfl (rget_of rfl (get_nil)) rfl rfl) (ev_v rfl rfl (ev_v rfl rfl (ev_v rfl rfl (ev_v rfl (d_rem rfl rfl hu68) (ev_den (.ptr 33 [] (some 2)) rfl rfl (ev_v rfl (d_ld_o rfl (rget_of rfl (get_nil)) rfl rfl) (ev_v rfl rfl (ev_v rfl rfl (ev_v rfl rfl (ev_v rfl (d_rem rfl rfl hu68) (ev_den (.agg [(.vw _ _), (.vw _ _), (.vw _ _)]) rfl rfl (ev_new (.ref 321 [] 3 0 1) (.rows 3 (List.map e0 (([(v67.1, (Int.tmod (w64 (v67.2.1 + p2)) p0), (Int.tmod (w64 (v67.2.2 + p2)) p0))] : List (Int × Int × Int))))) rfl rfl (ev_wr rfl (w_app_r (xs := x44) (ys := (([(v67.1, (Int.tmod (w64 (v67.2.1 + p2)) p0), (Int.tmod (w64 (v67.2.2 + p2)) p0))] : List (Int × Int × Int)))) (e := e0) (xv := (.ref 0 _ _ _ _)) (yv := (.ref 321 _ _ _ _)) 0 rfl rfl rfl (abs_ref rfl (sub_r (xs := ([(v67.1, (Int.tmod (w64 (v67.2.1 + p2)) p0), (Int.tmod (w64 (v67.2.2 + p2)) p0))] : List (Int × Int × Int))))) rfl (abs_ref rfl sub_r) hv69 rfl) (ev_den (.ref 0 _ _ _ _) rfl rfl (ev_nil)))))))))))))))))))) (blkQ_n (gcQ_n (gc_to [0] (e := [(0, .vw [] (.int .i64 p0)), (2, .vw [] (.int .i64 p2)), (7, .ref 0 [] 3 0 (List.length v69)), (11, .vw [] (.rows 3 (List.map e0 p1))), (12, .vw [] (.int .i64 ((List.length p1 : Int)))), (13, .vw [] (.int .i64 x45))]) (ts := [some (.rows 3 (List.map e0 v69))]) (n := 1) rfl rfl rfl rfl) (gcQ_n (gc_to [0] (e := [(0, .vw [] (.int .i64 p0)), (2, .vw [] (.int .i64 p2)), (7, .ref 0 [] 3 0 (List.length v69)), (11, .vw [] (.rows 3 (List.map e0 p1))), (12, .vw [] (.int .i64 ((List.length p1 : Int)))), (13, .vw [] (.int .i64 x45))]) (ts := [some (.rows 3 (List.map e0 v69))]) (n := 1) rfl rfl rfl rfl) (seqQ_n (?_)))))
   replace h := Option.some.inj h
   subst h
   exact wp_reg (nx' := 33) rfl (ev_v rfl rfl (ev_v rfl rfl (ev_nil))) (gcQ_n (gc_to [0] (e := [(0, .vw [] (.int .i64 p0)), (2, .vw [] (.int .i64 p2)), (7, .ref 0 [] 3 0 (List.length v69)), (11, .vw [] (.rows 3 (List.map e0 p1))), (12, .vw [] (.int .i64 ((List.length p1 : Int)))), (13, .vw [] (.int .i64 ((w64 (x45 + (1 : Int))))))]) (ts := [some (.rows 3 (List.map e0 v69))]) (n := 1) rfl rfl rfl rfl) (loopQ_n rfl))
  ·refine wp_cf rfl hc60 ?_
   replace h := Option.some.inj h
   subst h
   exact wp_exit (gcQ_e (seqQ_e (gcQ_e (loopQ_e (And.intro rfl (gc_to [0] (e := [(7, .ref 0 [] 3 0 (List.length x44))]) (ts := [some (.rows 3 (List.map e0 x44))]) (n := 1) rfl rfl rfl rfl))))))
 ·intro e st73 hg73
  obtain ⟨rfl, hg73⟩ := hg73
  refine blkQ_h (gcQ_n hg73 (gcQ_n (gc_to [0] (e := [(7, .ref 0 [] 3 0 (List.length x52))]) (ts := [some (.rows 3 (List.map e0 x52))]) (n := 1) rfl rfl rfl rfl) (seqQ_n (?_))))
  refine wp_seq ?_
  refine wp_reg (nx' := 33) rfl (ev_den (.ref 0 _ _ _ _) rfl rfl (ev_den (.ref 0 _ _ _ _) rfl rfl (ev_nil))) (seqQ_n (?_))
  replace h := Option.some.inj h
  subst h
  exact wp_ret (qf_r ((outs_ok (vs := [(.ref 0 _ _ _ _)]) rfl (absW_cons (retT_ref (abs_ref rfl sub_r)) rfl (absW_nil)) rfl rfl)))
noncomputable def impl_TurnMessages_j1 (p0 : Int × Bool) (p1 : List (Int × Int × Int)) (p2 : Int) : Bool → Option (((List (Int × Int × Int)) × Bool)) := fun x15 =>
if x15 = true then
some ([], false)
else
(impl_turnedMessages p0.1 p1 p2).bind fun v17 =>
some (v17, true)
/-- loop.example/g01176/impl.TurnMessages -/
noncomputable def impl_TurnMessages (p0 : Int × Bool) (p1 : List (Int × Int × Int)) (p2 : Int) : Option (((List (Int × Int × Int)) × Bool)) :=
(impl_isSlotted p0 p1).bind fun v18 =>
if (!v18) = true then
impl_TurnMessages_j1 p0 p1 p2 true
else
(impl_within p2 ((0 : Int)) ((w64 (p0.1 - (1 : Int))))).bind fun v21 =>
impl_TurnMessages_j1 p0 p1 p2 (!v21)
theorem impl_TurnMessages_ok {p0 : Int × Bool} {p1 : List (Int × Int × Int)} {p2 : Int} {o : ((List (Int × Int × Int)) × Bool)} (h : impl_TurnMessages p0 p1 p2 = some o) : RN 19 [.agg [.int .i64 p0.1, .bool p0.2], .rows 3 (List.map e0 p1), .int .i64 p2] [] = some (.tup [.rows 3 (List.map e0 o.1), .bool o.2], []) := by
 refine fn_run (o := o) (nr := 0) (F := k19) (st := ⟨entry 0 [.agg [.vw [] (.int .i64 p0.1), .vw [] (.bool p0.2)], .vw [] (.rows 3 (List.map e0 p1)), .vw [] (.int .i64 p2)], fun n => ([] : List T)[n]?, 0⟩) (fun (o : ((List (Int × Int × Int)) × Bool)) => (.tup [.rows 3 (List.map e0 o.1), .bool o.2], [])) rfl fns_19 rfl rfl rfl ?_
 refine wp_seq ?_
 refine wp_reg (nx' := 48) rfl (ev_wr rfl (w_box (sv := (.agg [(.vw _ _), (.vw _ _)])) rfl rfl (absW_cons rfl rfl (absW_cons rfl rfl (absW_nil)))) (ev_new (.ref 16 [] 3 0 0) (.rows 3 []) rfl rfl (ev_v rfl rfl (ev_nil)))) (seqQ_n (?_))
 refine wp_seq ?_
 refine wp_gc ?_
 refine wp_seq ?_
 refine wp_join (impl_TurnMessages_j1 p0 p1 p2) (fun (x15 : Bool) => (⟨al .dead [(1, .vw [] (.rows 3 (List.map e0 p1))), (2, .vw [] (.int .i64 p2)), (3, .ptr 0 [] (some 0)), (19, .vw [] (.bool x15))], hl [some (.ptr (.agg [.int .i64 p0.1, .bool p0.2]))], 1⟩ : St)) ?_ ?_
 ·rintro x15 o h
  unfold impl_TurnMessages_j1 at h
  refine seqQ_n (?_)
  rcases its h with ⟨hc16, h⟩ | ⟨hc16, h⟩
  ·refine wp_ct rfl hc16 ?_
   refine wp_seq ?_
   refine wp_reg (nx' := 33) rfl (ev_new (.ref 1 [] 3 0 0) (.rows 3 []) rfl rfl (ev_v rfl rfl (ev_nil))) (seqQ_n (?_))
   replace h := Option.some.inj h
   subst h
   exact wp_ret (gcQ_r (seqQ_r (qf_r ((outs_ok (vs := [(.ref 1 _ _ _ _), (.vw _ _)]) rfl (absW_cons (retT_ref (abs_ref rfl sub_r)) rfl (absW_cons rfl rfl (absW_nil))) rfl rfl)))))
  ·refine wp_cf rfl hc16 ?_
   refine wp_skip (gcQ_n (gc_to [0] (e := [(1, .vw [] (.rows 3 (List.map e0 p1))), (2, .vw [] (.int .i64 p2)), (3, .ptr 0 [] (some 0))]) (ts := [some (.ptr (.agg [.int .i64 p0.1, .bool p0.2]))]) (n := 1) rfl rfl rfl rfl) (seqQ_n (?_)))
   refine wp_seq ?_
   obtain ⟨v17, hv17, h⟩ := bs h
   refine wp_reg (nx' := 113) rfl (ev_den (.ptr 0 [] (some 0)) rfl rfl (ev_v rfl (d_ld_o rfl (rget_of rfl (get_nil)) rfl rfl) (ev_v rfl rfl (ev_v rfl rfl (ev_call0 [(.vw _ _), (.vw _ _), (.vw _ _)] rfl (call_ok (rs := []) (rd := []) rfl rfl rfl rfl (argL_cons rfl (argL_cons rfl (argL_cons rfl (argL_nil)))) rfl rfl (impl_turnedMessages_ok hv17) rfl rfl rfl bindR_r rfl) (ev_den (.ref 65 _ _ _ _) rfl rfl (ev_v rfl rfl (ev_nil)))))))) (seqQ_n (?_))
   replace h := Option.some.inj h
   subst h
   exact wp_ret (qf_r ((outs_ok (vs := [(.ref 65 _ _ _ _), (.vw _ _)]) rfl (absW_cons (retT_ref (abs_ref rfl sub_r)) rfl (absW_cons rfl rfl (absW_nil))) rfl rfl)))
 ·obtain ⟨v18, hv18, h⟩ := bs h
  rcases its h with ⟨hc19, h⟩ | ⟨hc19, h⟩
  ·exact wp_reg (nx' := 240) rfl (ev_den (.agg [(.vw _ _), (.vw _ _)]) rfl (d_ld_os rfl (rget_of rfl (get_nil)) rfl (cells_cons rfl (cells_cons rfl (cells_nil)))) (ev_v rfl rfl (ev_call0 [(.agg [(.vw _ _), (.vw _ _)]), (.vw _ _)] rfl (call_ok (rs := []) (rd := []) rfl rfl rfl rfl (argL_cons (argT_a (argL_cons rfl (argL_cons rfl (argL_nil)))) (argL_cons rfl (argL_nil))) rfl rfl (impl_isSlotted_ok hv18) rfl rfl rfl rfl rfl) (ev_v rfl rfl (ev_v rfl rfl (ev_off rfl hc19 (ev_off rfl hc19 (ev_off rfl hc19 (ev_off rfl hc19 (ev_off rfl hc19 (ev_off rfl hc19 (ev_v rfl (d_pick_t rfl hc19 rfl) (ev_nil))))))))))))) (joinQ_n true h (gc_to [0] rfl rfl rfl rfl))
  ·obtain ⟨v21, hv21, h⟩ := bs h
   exact wp_reg (nx' := 240) rfl (ev_den (.agg [(.vw _ _), (.vw _ _)]) rfl (d_ld_os rfl (rget_of rfl (get_nil)) rfl (cells_cons rfl (cells_cons rfl (cells_nil)))) (ev_v rfl rfl (ev_call0 [(.agg [(.vw _ _), (.vw _ _)]), (.vw _ _)] rfl (call_ok (rs := []) (rd := []) rfl rfl rfl rfl (argL_cons (argT_a (argL_cons rfl (argL_cons rfl (argL_nil)))) (argL_cons rfl (argL_nil))) rfl rfl (impl_isSlotted_ok hv18) rfl rfl rfl rfl rfl) (ev_v rfl rfl (ev_v rfl rfl (ev_on rfl hc19 (ev_v rfl rfl (ev_on rfl hc19 (ev_den (.ptr 0 [] (some 0)) rfl rfl (ev_on rfl hc19 (ev_v rfl (d_ld_o rfl (rget_of rfl (get_nil)) rfl rfl) (ev_on rfl hc19 (ev_v rfl rfl (ev_on rfl hc19 (ev_call0 [(.vw _ _), (.vw _ _), (.vw _ _)] rfl (call_ok (rs := []) (rd := []) rfl rfl rfl rfl (argL_cons rfl (argL_cons rfl (argL_cons rfl (argL_nil)))) rfl rfl (impl_within_ok hv21) rfl rfl rfl rfl rfl) (ev_on rfl hc19 (ev_v rfl rfl (ev_v rfl (d_pick_f rfl hc19 rfl) (ev_nil))))))))))))))))))) (joinQ_n (!v21) h (gc_to [0] rfl rfl rfl rfl))
end Go.Proofs.Yteeejellpcikkaa.Ev.H5
