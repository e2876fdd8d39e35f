/- What functions of the program come to, as plain functions; no condition. -/
import Derived.Test.YtoeddkfbhjmbmaaQ23
set_option linter.unusedVariables false
set_option linter.unusedSimpArgs false
set_option maxRecDepth 100000
set_option maxHeartbeats 4000000
set_option linter.unusedVariables false
namespace Go.Proofs.Ytoeddkfbhjmbmaa.Ev.Q2
open Go
noncomputable def impl_RotationsOf_s1 (p0 : Int × Int × (List Int)) (v25 : (List (List Int))) : ((List Int) × Int) → Option (((List Int) × Int) ⊕ ((List Int))) := fun (x66, x67) =>
if (decide (x67 < (List.length v25 : Int))) = true then
(at? v25 x67).bind fun v97 =>
(at? v97 ((0 : Int))).bind fun v98 =>
(at? v25 ((w64 (x67 - (List.length p0.2.2 : Int))))).bind fun v99 =>
(at? v99 ((0 : Int))).bind fun v100 =>
(app? x66 (([(w64 (v98 - v100))] : List Int))).bind fun v101 =>
some (.inl (v101, (w64 (x67 + (1 : Int)))))
else
some (.inr x66)
noncomputable def impl_RotationsOf_l1 (p0 : Int × Int × (List Int)) (v25 : (List (List Int))) : ((List Int) × Int) → Option ((List Int)) := iter (impl_RotationsOf_s1 p0 v25)
/-- loop.example/g01176/impl.RotationsOf -/
noncomputable def impl_RotationsOf (p0 : Int × Int × (List Int)) (p1 : List (List Int)) : Option (((List Int) × Bool)) :=
(impl_isWished p0 p1).bind fun v23 =>
if (!v23) = true then
some ([], false)
else
(impl_TimedRing_visits p0 p1).bind fun v25 =>
(impl_RotationsOf_l1 p0 v25 (([] : List Int), (List.length p0.2.2 : Int))).bind fun x76 =>
some (x76, true)
theorem impl_RotationsOf_ok {p0 : Int × Int × (List Int)} {p1 : List (List Int)} {o : ((List Int) × Bool)} (h : impl_RotationsOf p0 p1 = some o) : RN 45 [.agg [.int .i64 p0.1, .int .i64 p0.2.1, .ints .i64 p0.2.2], .rows 1 (List.map (T.ints .i64) p1)] [] = some (.tup [.ints .i64 o.1, .bool o.2], []) := by
  refine fn_run (o := o) (nr := 0) (F := k45) (st := ⟨entry 0 [.agg [.vw [] (.int .i64 p0.1), .vw [] (.int .i64 p0.2.1), .vw [] (.ints .i64 p0.2.2)], .vw [] (.rows 1 (List.map (T.ints .i64) p1))], fun n => ([] : List T)[n]?, 0⟩) (fun (o : ((List Int) × Bool)) => (.tup [.ints .i64 o.1, .bool o.2], [])) rfl fns_45 rfl rfl ?_
  refine wp_seq ?_
  refine wp_reg (nx' := 48) rfl (ev_wr rfl (w_box (sv := (.agg [(.vw _ _), (.vw _ _), (.vw _ _)])) rfl rfl (absW_cons rfl rfl (absW_cons rfl rfl (absW_cons rfl rfl (absW_nil))))) (ev_new (.ref 16 [] 1 0 0) (.ints .i64 []) rfl rfl (ev_den (.vw _ _) rfl rfl (ev_nil)))) (seqQ_n (?_))
  refine wp_seq ?_
  refine wp_gc ?_
  refine wp_seq ?_
  obtain ⟨v23, hv23, h⟩ := bs h
  refine wp_reg (nx' := 112) rfl (ev_den (.agg [(.vw _ _), (.vw _ _), (.vw _ _)]) rfl (d_ld_os rfl (rget_of rfl (get_nil)) rfl (cells_cons rfl (cells_cons rfl (cells_cons rfl (cells_nil))))) (ev_den (.vw _ _) rfl rfl (ev_call0 [(.agg [(.vw _ _), (.vw _ _), (.vw _ _)]), (.vw _ _)] rfl (call_ok (rs := []) (rd := []) rfl rfl rfl rfl (argL_cons (argT_a (argL_cons rfl (argL_cons rfl (argL_cons rfl (argL_nil))))) (argL_cons rfl (argL_nil))) rfl rfl (impl_isWished_ok hv23) rfl rfl rfl rfl rfl) (ev_den (.vw _ _) rfl rfl (ev_nil))))) (seqQ_n (?_))
  rcases its h with ⟨hc24, h⟩ | ⟨hc24, h⟩
  · refine wp_ct rfl hc24 ?_
    refine wp_seq ?_
    refine wp_reg (nx' := 144) rfl (ev_new (.ref 112 [] 1 0 0) (.ints .i64 []) rfl rfl (ev_den (.vw _ _) rfl rfl (ev_nil))) (seqQ_n (?_))
    cases h
    exact wp_ret (gcQ_r (seqQ_r (qf_r ((outs_ok (vs := [(.ref 112 _ _ _ _), (.vw _ _)]) rfl (absW_cons (retT_ref (abs_ref rfl sub_i)) rfl (absW_cons rfl rfl (absW_nil))) rfl rfl)))))
  · refine wp_cf rfl hc24 ?_
    refine wp_skip (gcQ_n (gc_to [0] (e := [(1, .vw [] (.rows 1 (List.map (T.ints .i64) p1))), (2, .ptr 0 [] (some 0))]) (ts := [some (.ptr (.agg [.int .i64 p0.1, .int .i64 p0.2.1, .sh (.ints .i64 p0.2.2)]))]) (n := 1) rfl rfl rfl rfl) (seqQ_n (?_)))
    refine wp_seq ?_
    obtain ⟨v25, hv25, h⟩ := bs h
    refine wp_reg (nx' := 161) rfl (ev_den (.agg [(.vw _ _), (.vw _ _), (.vw _ _)]) rfl (d_ld_os rfl (rget_of rfl (get_nil)) rfl (cells_cons rfl (cells_cons rfl (cells_cons rfl (cells_nil))))) (ev_den (.vw _ _) rfl rfl (ev_call0 [(.agg [(.vw _ _), (.vw _ _), (.vw _ _)]), (.vw _ _)] rfl (call_ok (rs := []) (rd := []) rfl rfl rfl rfl (argL_cons (argT_a (argL_cons rfl (argL_cons rfl (argL_cons rfl (argL_nil))))) (argL_cons rfl (argL_nil))) rfl rfl (impl_TimedRing_visits_ok hv25) rfl rfl rfl bindR_r rfl) (ev_den (.ptr 0 [] (some 2)) rfl rfl (ev_den (.vw _ _) rfl (d_ld_o rfl (rget_of rfl (get_nil)) rfl rfl) (ev_den (.vw _ _) rfl rfl (ev_new (.ref 97 [] 1 0 0) (.ints .i64 (([] : List Int))) rfl rfl (ev_den (.ref 33 _ _ _ _) rfl rfl (ev_den (.vw _ _) rfl rfl (ev_den (.ref 97 _ _ _ _) rfl rfl (ev_nil))))))))))) (seqQ_n (?_))
    refine wp_seq ?_
    refine wp_gc ?_
    refine wp_seq ?_
    refine wp_gc ?_
    refine wp_reg (nx' := 193) rfl (ev_den (.vw _ _) rfl rfl (ev_den (.vw _ _) rfl rfl (ev_nil))) (gcQ_n (gc_to [33, 97] (e := [(6, .ref 0 [] 1 0 (List.length v25)), (7, .vw [] (.int .i64 ((List.length p0.2.2 : Int)))), (8, .ref 1 [] 1 0 (List.length (([] : List Int)))), (9, .vw [] (.int .i64 ((List.length p0.2.2 : Int))))]) (ts := [some (.rows 1 (List.map (T.ints .i64) v25)), some (.ints .i64 (([] : List Int)))]) (n := 2) rfl rfl rfl rfl) (seqQ_n (?_)))
    refine wp_gc ?_
    refine wp_blk ?_
    obtain ⟨x76, hw105, h⟩ := bs h
    refine wp_mono (wp_loop (fun ((x66, x67) : (List Int) × Int) => (⟨al .dead [(6, .ref 0 [] 1 0 (List.length v25)), (7, .vw [] (.int .i64 ((List.length p0.2.2 : Int)))), (8, .ref 1 [] 1 0 (List.length x66)), (9, .vw [] (.int .i64 x67))], hl [some (.rows 1 (List.map (T.ints .i64) v25)), some (.ints .i64 x66)], 2⟩ : St)) (fun (x76 : (List Int)) e st => e = .exit 0 ∧ gc 0 [8] st = ⟨al .dead [(8, .ref 0 [] 1 0 (List.length x76))], hl [some (.ints .i64 x76)], 1⟩) hw105 ?_) ?_
    · rintro ⟨x66, x67⟩ o h
      refine wp_gc ?_
      refine wp_seq ?_
      refine wp_gc ?_
      refine wp_seq ?_
      refine wp_reg (nx' := 66) rfl (ev_den (.vw _ _) rfl rfl (ev_den (.ref 0 _ _ _ _) rfl rfl (ev_den (.vw _ _) rfl rfl (ev_den (.vw _ _) rfl rfl (ev_nil))))) (seqQ_n (?_))
      rcases its h with ⟨hc86, h⟩ | ⟨hc86, h⟩
      · refine wp_ct rfl hc86 ?_
        refine wp_skip (gcQ_n (gc_to [0, 1] (e := [(6, .ref 0 [] 1 0 (List.length v25)), (7, .vw [] (.int .i64 ((List.length p0.2.2 : Int)))), (8, .ref 1 [] 1 0 (List.length x66)), (9, .vw [] (.int .i64 x67))]) (ts := [some (.rows 1 (List.map (T.ints .i64) v25)), some (.ints .i64 x66)]) (n := 2) rfl rfl rfl rfl) (seqQ_n (?_)))
        refine wp_seq ?_
        refine wp_gc ?_
        refine wp_gc ?_
        refine wp_blk ?_
        obtain ⟨v97, hv97, h⟩ := bs h
        obtain ⟨v98, hv98, h⟩ := bs h
        obtain ⟨v99, hv99, h⟩ := bs h
        obtain ⟨v100, hv100, h⟩ := bs h
        obtain ⟨v101, hv101, h⟩ := bs h
        refine wp_reg (nx' := 306) rfl (ev_den (.ref 1 _ _ _ _) rfl rfl (ev_den (.ref 0 _ _ _ _) rfl rfl (ev_den (.vw _ _) rfl rfl (ev_den (.ptr 0 [.e (Int.toNat x67)] none) rfl (d_idx_r (p := []) rfl rfl hv97) (ev_den (.ref 0 [.e (Int.toNat x67)] _ _ _) rfl (d_ld_p rfl (rget_of rfl (get_r (e := (T.ints .i64)) hv97 (get_nil))) rfl) (ev_den (.ptr 0 [.e (Int.toNat x67), .e (Int.toNat ((0 : Int)))] none) rfl (d_idx_r (p := [.e (Int.toNat x67)]) rfl rfl hv98) (ev_den (.vw _ _) rfl (d_ld_p rfl (rget_of rfl (get_r (e := (T.ints .i64)) hv97 (get_i hv98))) rfl) (ev_den (.ref 0 _ _ _ _) rfl rfl (ev_den (.vw _ _) rfl rfl (ev_den (.vw _ _) rfl rfl (ev_den (.vw _ _) rfl rfl (ev_den (.ptr 0 [.e (Int.toNat ((w64 (x67 - (List.length p0.2.2 : Int)))))] none) rfl (d_idx_r (p := []) rfl rfl hv99) (ev_den (.ref 0 [.e (Int.toNat ((w64 (x67 - (List.length p0.2.2 : Int)))))] _ _ _) rfl (d_ld_p rfl (rget_of rfl (get_r (e := (T.ints .i64)) hv99 (get_nil))) rfl) (ev_den (.ptr 0 [.e (Int.toNat ((w64 (x67 - (List.length p0.2.2 : Int))))), .e (Int.toNat ((0 : Int)))] none) rfl (d_idx_r (p := [.e (Int.toNat ((w64 (x67 - (List.length p0.2.2 : Int)))))]) rfl rfl hv100) (ev_den (.vw _ _) rfl (d_ld_p rfl (rget_of rfl (get_r (e := (T.ints .i64)) hv99 (get_i hv100))) rfl) (ev_den (.vw _ _) rfl rfl (ev_den (.vw _ _) rfl rfl (ev_wr rfl (w_app_i (xv := (.ref 1 _ _ _ _)) 1 rfl rfl (abs_ref rfl sub_i) hv101 rfl) (ev_den (.ref 1 _ _ _ _) rfl rfl (ev_nil)))))))))))))))))))) (blkQ_n (gcQ_n (gc_to [0, 1] (e := [(6, .ref 0 [] 1 0 (List.length v25)), (7, .vw [] (.int .i64 ((List.length p0.2.2 : Int)))), (8, .ref 1 [] 1 0 (List.length v101)), (9, .vw [] (.int .i64 x67))]) (ts := [some (.rows 1 (List.map (T.ints .i64) v25)), some (.ints .i64 v101)]) (n := 2) rfl rfl rfl rfl) (gcQ_n (gc_to [0, 1] (e := [(6, .ref 0 [] 1 0 (List.length v25)), (7, .vw [] (.int .i64 ((List.length p0.2.2 : Int)))), (8, .ref 1 [] 1 0 (List.length v101)), (9, .vw [] (.int .i64 x67))]) (ts := [some (.rows 1 (List.map (T.ints .i64) v25)), some (.ints .i64 v101)]) (n := 2) rfl rfl rfl rfl) (seqQ_n (?_)))))
        cases h
        exact wp_reg (nx' := 50) rfl (ev_den (.vw _ _) rfl rfl (ev_den (.vw _ _) rfl rfl (ev_den (.vw _ _) rfl rfl (ev_nil)))) (gcQ_n (gc_to [0, 1] (e := [(6, .ref 0 [] 1 0 (List.length v25)), (7, .vw [] (.int .i64 ((List.length p0.2.2 : Int)))), (8, .ref 1 [] 1 0 (List.length v101)), (9, .vw [] (.int .i64 ((w64 (x67 + (1 : Int))))))]) (ts := [some (.rows 1 (List.map (T.ints .i64) v25)), some (.ints .i64 v101)]) (n := 2) rfl rfl rfl rfl) (loopQ_n rfl))
      · refine wp_cf rfl hc86 ?_
        cases h
        exact wp_exit (gcQ_e (seqQ_e (gcQ_e (loopQ_e (And.intro rfl (gc_to [1] (e := [(8, .ref 0 [] 1 0 (List.length x66))]) (ts := [some (.ints .i64 x66)]) (n := 1) rfl rfl rfl rfl))))))
    · intro e st105 hg105
      obtain ⟨rfl, hg105⟩ := hg105
      refine blkQ_h (gcQ_n hg105 (gcQ_n (gc_to [0] (e := [(8, .ref 0 [] 1 0 (List.length x76))]) (ts := [some (.ints .i64 x76)]) (n := 1) rfl rfl rfl rfl) (seqQ_n (?_))))
      refine wp_seq ?_
      refine wp_reg (nx' := 49) rfl (ev_den (.ref 0 _ _ _ _) rfl rfl (ev_den (.ref 0 _ _ _ _) rfl rfl (ev_den (.vw _ _) rfl rfl (ev_nil)))) (seqQ_n (?_))
      cases h
      exact wp_ret (qf_r ((outs_ok (vs := [(.ref 0 _ _ _ _), (.vw _ _)]) rfl (absW_cons (retT_ref (abs_ref rfl sub_i)) rfl (absW_cons rfl rfl (absW_nil))) rfl rfl)))
/-- loop.example/g01176/spec.l1Own -/
noncomputable def spec_l1Own (p0 : List Int) : Option ((List Int)) :=
(app? (([] : List Int)) p0).bind fun v2 =>
some v2
theorem spec_l1Own_ok {p0 : List Int} {o : (List Int)} (h : spec_l1Own p0 = some o) : RN 113 [.ints .i64 p0] [] = some (.ints .i64 o, []) := by
  refine fn_run (o := o) (nr := 0) (F := k113) (st := ⟨entry 0 [.vw [] (.ints .i64 p0)], fun n => ([] : List T)[n]?, 0⟩) (fun (o : (List Int)) => (.ints .i64 o, [])) rfl fns_113 rfl rfl ?_
  refine wp_seq ?_
  refine wp_reg (nx' := 16) rfl (ev_new (.ref 0 [] 1 0 0) (.ints .i64 []) rfl rfl (ev_nil)) (seqQ_n (?_))
  refine wp_seq ?_
  obtain ⟨v2, hv2, h⟩ := bs h
  refine wp_reg (nx' := 80) rfl (ev_new (.ref 16 [] 1 0 0) (.ints .i64 (([] : List Int))) rfl rfl (ev_den (.vw _ _) rfl rfl (ev_wr rfl (w_app_i (xv := (.ref 16 _ _ _ _)) 16 rfl rfl (abs_ref rfl (sub_i (xs := ([] : List Int)))) hv2 rfl) (ev_den (.ref 16 _ _ _ _) rfl rfl (ev_nil))))) (seqQ_n (?_))
  cases h
  exact wp_ret (qf_r ((outs_ok (vs := [(.ref 16 _ _ _ _)]) rfl (absW_cons (retT_ref (abs_ref rfl sub_i)) rfl (absW_nil)) rfl rfl)))
/-- loop.example/g01176/spec.boRotations -/
noncomputable def spec_boRotations (p0 : Int × Int × (List Int)) (p1 : List (List Int)) : Option ((List Int)) :=
(spec_boVisits p0 p1).bind fun v5 =>
if (decide ((List.length v5.2 : Int) < (List.length p0.2.2 : Int))) = true then
some []
else
(sub? v5.2 ((List.length p0.2.2 : Int)) ((List.length v5.2 : Int))).bind fun v8 =>
(spec_l1Own v8).bind fun v9 =>
some v9
theorem spec_boRotations_ok {p0 : Int × Int × (List Int)} {p1 : List (List Int)} {o : (List Int)} (h : spec_boRotations p0 p1 = some o) : RN 83 [.agg [.int .i64 p0.1, .int .i64 p0.2.1, .ints .i64 p0.2.2], .rows 1 (List.map (T.ints .i64) p1)] [] = some (.ints .i64 o, []) := by
  refine fn_run (o := o) (nr := 0) (F := k83) (st := ⟨entry 0 [.agg [.vw [] (.int .i64 p0.1), .vw [] (.int .i64 p0.2.1), .vw [] (.ints .i64 p0.2.2)], .vw [] (.rows 1 (List.map (T.ints .i64) p1))], fun n => ([] : List T)[n]?, 0⟩) (fun (o : (List Int)) => (.ints .i64 o, [])) rfl fns_83 rfl rfl ?_
  refine wp_seq ?_
  refine wp_reg (nx' := 32) rfl (ev_wr rfl (w_box (sv := (.agg [(.vw _ _), (.vw _ _), (.vw _ _)])) rfl rfl (absW_cons rfl rfl (absW_cons rfl rfl (absW_cons rfl rfl (absW_nil))))) (ev_new (.ref 16 [] 1 0 0) (.ints .i64 []) rfl rfl (ev_nil))) (seqQ_n (?_))
  refine wp_seq ?_
  obtain ⟨v5, hv5, h⟩ := bs h
  refine wp_reg (nx' := 160) rfl (ev_den (.agg [(.vw _ _), (.vw _ _), (.vw _ _)]) rfl (d_ld_os rfl (rget_of rfl (get_nil)) rfl (cells_cons rfl (cells_cons rfl (cells_cons rfl (cells_nil))))) (ev_den (.vw _ _) rfl rfl (ev_call0 [(.agg [(.vw _ _), (.vw _ _), (.vw _ _)]), (.vw _ _)] rfl (call_ok (rs := []) (rd := []) rfl rfl rfl rfl (argL_cons (argT_a (argL_cons rfl (argL_cons rfl (argL_cons rfl (argL_nil))))) (argL_cons rfl (argL_nil))) rfl rfl (spec_boVisits_ok hv5) rfl rfl rfl (bindR_t (bindL_cons bindR_r (bindL_cons rfl (bindL_nil)))) rfl) (ev_den (.tup [(.ref 64 _ _ _ _), (.ref 65 _ _ _ _)]) rfl rfl (ev_den (.ref 64 _ _ _ _) rfl rfl (ev_den (.ref 65 _ _ _ _) rfl rfl (ev_den (.ref 64 _ _ _ _) rfl rfl (ev_den (.ref 65 _ _ _ _) rfl rfl (ev_nil))))))))) (seqQ_n (?_))
  refine wp_seq ?_
  refine wp_gc ?_
  refine wp_seq ?_
  refine wp_reg (nx' := 256) rfl (ev_den (.ref 65 _ _ _ _) rfl rfl (ev_den (.vw _ _) rfl rfl (ev_den (.ptr 0 [] (some 2)) rfl rfl (ev_den (.vw _ _) rfl (d_ld_o rfl (rget_of rfl (get_nil)) rfl rfl) (ev_den (.vw _ _) rfl rfl (ev_den (.vw _ _) rfl rfl (ev_nil))))))) (seqQ_n (?_))
  rcases its h with ⟨hc7, h⟩ | ⟨hc7, h⟩
  · refine wp_ct rfl hc7 ?_
    refine wp_seq ?_
    refine wp_reg (nx' := 272) rfl (ev_new (.ref 256 [] 1 0 0) (.ints .i64 []) rfl rfl (ev_nil)) (seqQ_n (?_))
    cases h
    exact wp_ret (gcQ_r (seqQ_r (qf_r ((outs_ok (vs := [(.ref 256 _ _ _ _)]) rfl (absW_cons (retT_ref (abs_ref rfl sub_i)) rfl (absW_nil)) rfl rfl)))))
  · refine wp_cf rfl hc7 ?_
    refine wp_skip (gcQ_n (gc_to [0, 65] (e := [(2, .ptr 0 [] (some 0)), (6, .ref 1 [] 1 0 (List.length v5.2))]) (ts := [some (.ptr (.agg [.int .i64 p0.1, .int .i64 p0.2.1, .sh (.ints .i64 p0.2.2)])), some (.ints .i64 v5.2)]) (n := 2) rfl rfl rfl rfl) (seqQ_n (?_)))
    refine wp_seq ?_
    obtain ⟨v8, hv8, h⟩ := bs h
    obtain ⟨v9, hv9, h⟩ := bs h
    refine wp_reg (nx' := 114) rfl (ev_den (.ref 1 _ _ _ _) rfl rfl (ev_den (.ptr 0 [] (some 2)) rfl rfl (ev_den (.vw _ _) rfl (d_ld_o rfl (rget_of rfl (get_nil)) rfl rfl) (ev_den (.vw _ _) rfl rfl (ev_den (.ref 1 [] 1 (Int.toNat ((List.length p0.2.2 : Int))) (Int.toNat ((List.length v5.2 : Int)) - Int.toNat ((List.length p0.2.2 : Int)))) rfl (d_slc_r rfl hv8 (si_some rfl) (fun _ => si_none_len)) (ev_call0 [(.ref 1 _ _ _ _)] rfl (call_ok (rs := []) (rd := [1]) rfl rfl rfl rfl (argL_cons (argT_r (rget_of rfl (get_nil)) (sub_pi hv8)) (argL_nil)) rfl rfl (spec_l1Own_ok hv9) rfl rfl (by simp [T.open_, T.noSh, noShL, ns_ints, ns_bool, ns_str]) rfl rfl) (ev_den (.ref 82 _ _ _ _) rfl rfl (ev_nil)))))))) (seqQ_n (?_))
    cases h
    exact wp_ret (qf_r ((outs_ok (vs := [(.ref 82 _ _ _ _)]) rfl (absW_cons (retT_ref (abs_ref rfl sub_i)) rfl (absW_nil)) rfl rfl)))
/-- loop.example/g01176/spec.RotationsOf -/
noncomputable def spec_RotationsOf (p0 : Int × Int × (List Int)) (p1 : List (List Int)) : Option (((List Int) × Bool)) :=
(spec_boWishes p0 p1).bind fun v6 =>
if (!v6) = true then
some ([], false)
else
(spec_boRotations p0 p1).bind fun v8 =>
some (v8, true)
theorem spec_RotationsOf_ok {p0 : Int × Int × (List Int)} {p1 : List (List Int)} {o : ((List Int) × Bool)} (h : spec_RotationsOf p0 p1 = some o) : RN 44 [.agg [.int .i64 p0.1, .int .i64 p0.2.1, .ints .i64 p0.2.2], .rows 1 (List.map (T.ints .i64) p1)] [] = some (.tup [.ints .i64 o.1, .bool o.2], []) := by
  refine fn_run (o := o) (nr := 0) (F := k44) (st := ⟨entry 0 [.agg [.vw [] (.int .i64 p0.1), .vw [] (.int .i64 p0.2.1), .vw [] (.ints .i64 p0.2.2)], .vw [] (.rows 1 (List.map (T.ints .i64) p1))], fun n => ([] : List T)[n]?, 0⟩) (fun (o : ((List Int) × Bool)) => (.tup [.ints .i64 o.1, .bool o.2], [])) rfl fns_44 rfl rfl ?_
  refine wp_seq ?_
  refine wp_reg (nx' := 48) rfl (ev_wr rfl (w_box (sv := (.agg [(.vw _ _), (.vw _ _), (.vw _ _)])) rfl rfl (absW_cons rfl rfl (absW_cons rfl rfl (absW_cons rfl rfl (absW_nil))))) (ev_new (.ref 16 [] 1 0 0) (.ints .i64 []) rfl rfl (ev_den (.vw _ _) rfl rfl (ev_nil)))) (seqQ_n (?_))
  refine wp_seq ?_
  refine wp_gc ?_
  refine wp_seq ?_
  obtain ⟨v6, hv6, h⟩ := bs h
  refine wp_reg (nx' := 112) rfl (ev_den (.agg [(.vw _ _), (.vw _ _), (.vw _ _)]) rfl (d_ld_os rfl (rget_of rfl (get_nil)) rfl (cells_cons rfl (cells_cons rfl (cells_cons rfl (cells_nil))))) (ev_den (.vw _ _) rfl rfl (ev_call0 [(.agg [(.vw _ _), (.vw _ _), (.vw _ _)]), (.vw _ _)] rfl (call_ok (rs := []) (rd := []) rfl rfl rfl rfl (argL_cons (argT_a (argL_cons rfl (argL_cons rfl (argL_cons rfl (argL_nil))))) (argL_cons rfl (argL_nil))) rfl rfl (spec_boWishes_ok hv6) rfl rfl rfl rfl rfl) (ev_den (.vw _ _) rfl rfl (ev_nil))))) (seqQ_n (?_))
  rcases its h with ⟨hc7, h⟩ | ⟨hc7, h⟩
  · refine wp_ct rfl hc7 ?_
    refine wp_seq ?_
    refine wp_reg (nx' := 144) rfl (ev_new (.ref 112 [] 1 0 0) (.ints .i64 []) rfl rfl (ev_den (.vw _ _) rfl rfl (ev_nil))) (seqQ_n (?_))
    cases h
    exact wp_ret (gcQ_r (seqQ_r (qf_r ((outs_ok (vs := [(.ref 112 _ _ _ _), (.vw _ _)]) rfl (absW_cons (retT_ref (abs_ref rfl sub_i)) rfl (absW_cons rfl rfl (absW_nil))) rfl rfl)))))
  · refine wp_cf rfl hc7 ?_
    refine wp_skip (gcQ_n (gc_to [0] (e := [(1, .vw [] (.rows 1 (List.map (T.ints .i64) p1))), (2, .ptr 0 [] (some 0))]) (ts := [some (.ptr (.agg [.int .i64 p0.1, .int .i64 p0.2.1, .sh (.ints .i64 p0.2.2)]))]) (n := 1) rfl rfl rfl rfl) (seqQ_n (?_)))
    refine wp_seq ?_
    obtain ⟨v8, hv8, h⟩ := bs h
    refine wp_reg (nx' := 81) rfl (ev_den (.agg [(.vw _ _), (.vw _ _), (.vw _ _)]) rfl (d_ld_os rfl (rget_of rfl (get_nil)) rfl (cells_cons rfl (cells_cons rfl (cells_cons rfl (cells_nil))))) (ev_den (.vw _ _) rfl rfl (ev_call0 [(.agg [(.vw _ _), (.vw _ _), (.vw _ _)]), (.vw _ _)] rfl (call_ok (rs := []) (rd := []) rfl rfl rfl rfl (argL_cons (argT_a (argL_cons rfl (argL_cons rfl (argL_cons rfl (argL_nil))))) (argL_cons rfl (argL_nil))) rfl rfl (spec_boRotations_ok hv8) rfl rfl rfl rfl rfl) (ev_den (.ref 33 _ _ _ _) rfl rfl (ev_den (.vw _ _) rfl rfl (ev_nil)))))) (seqQ_n (?_))
    cases h
    exact wp_ret (qf_r ((outs_ok (vs := [(.ref 33 _ _ _ _), (.vw _ _)]) rfl (absW_cons (retT_ref (abs_ref rfl sub_i)) rfl (absW_cons rfl rfl (absW_nil))) rfl rfl)))
noncomputable def impl_greatest_s1 (p0 : List Int) : (Int × Int) → Option ((Int × Int) ⊕ Int) := fun (x30, x31) =>
if (decide (x31 < (List.length p0 : Int))) = true then
(at? p0 x31).bind fun v45 =>
some (.inl ((if v45 > x30 then v45 else x30), (w64 (x31 + (1 : Int)))))
else
some (.inr x30)
noncomputable def impl_greatest_l1 (p0 : List Int) : (Int × Int) → Option Int := iter (impl_greatest_s1 p0)
/-- loop.example/g01176/impl.greatest -/
noncomputable def impl_greatest (p0 : List Int) : Option Int :=
(impl_greatest_l1 p0 ((0 : Int), (0 : Int))).bind fun x36 =>
some x36
theorem impl_greatest_ok {p0 : List Int} {o : Int} (h : impl_greatest p0 = some o) : RN 84 [.ints .i64 p0] [] = some (.int .i64 o, []) := by
  refine fn_run (o := o) (nr := 0) (F := k84) (st := ⟨entry 0 [.vw [] (.ints .i64 p0)], fun n => ([] : List T)[n]?, 0⟩) (fun (o : Int) => (.int .i64 o, [])) rfl fns_84 rfl rfl ?_
  refine wp_seq ?_
  refine wp_reg (nx' := 16) rfl (ev_den (.vw _ _) rfl rfl (ev_nil)) (seqQ_n (?_))
  refine wp_seq ?_
  refine wp_reg (nx' := 32) rfl (ev_den (.vw _ _) rfl rfl (ev_nil)) (seqQ_n (?_))
  refine wp_seq ?_
  refine wp_gc ?_
  refine wp_seq ?_
  refine wp_gc ?_
  refine wp_reg (nx' := 80) rfl (ev_den (.vw _ _) rfl rfl (ev_den (.vw _ _) rfl rfl (ev_den (.vw _ _) rfl rfl (ev_nil)))) (gcQ_n (gc_to [] (e := [(3, .vw [] (.int .i64 ((0 : Int)))), (6, .vw [] (.ints .i64 p0)), (7, .vw [] (.int .i64 ((List.length p0 : Int)))), (8, .vw [] (.int .i64 ((0 : Int))))]) (ts := []) (n := 0) rfl rfl rfl rfl) (seqQ_n (?_)))
  refine wp_gc ?_
  refine wp_blk ?_
  obtain ⟨x36, hw49, h⟩ := bs h
  refine wp_mono (wp_loop (fun ((x30, x31) : Int × Int) => (⟨al .dead [(3, .vw [] (.int .i64 x30)), (6, .vw [] (.ints .i64 p0)), (7, .vw [] (.int .i64 ((List.length p0 : Int)))), (8, .vw [] (.int .i64 x31))], hl [], 0⟩ : St)) (fun (x36 : Int) e st => e = .exit 0 ∧ gc 0 [3] st = ⟨al .dead [(3, .vw [] (.int .i64 x36))], hl [], 0⟩) hw49 ?_) ?_
  · rintro ⟨x30, x31⟩ o h
    refine wp_gc ?_
    refine wp_seq ?_
    refine wp_reg (nx' := 16) rfl (ev_den (.vw _ _) rfl rfl (ev_nil)) (seqQ_n (?_))
    refine wp_seq ?_
    refine wp_gc ?_
    rcases its h with ⟨hc42, h⟩ | ⟨hc42, h⟩
    · refine wp_ct rfl hc42 ?_
      refine wp_skip (gcQ_n (gc_to [] (e := [(3, .vw [] (.int .i64 x30)), (6, .vw [] (.ints .i64 p0)), (7, .vw [] (.int .i64 ((List.length p0 : Int)))), (8, .vw [] (.int .i64 x31))]) (ts := []) (n := 0) rfl rfl rfl rfl) (seqQ_n (?_)))
      refine wp_seq ?_
      refine wp_gc ?_
      refine wp_gc ?_
      refine wp_blk ?_
      refine wp_seq ?_
      obtain ⟨v45, hv45, h⟩ := bs h
      refine wp_reg (nx' := 48) rfl (ev_den (.pv _ _) rfl (d_idx_vi rfl rfl hv45) (ev_den (.vw _ _) rfl rfl (ev_den (.vw _ _) rfl rfl (ev_nil)))) (seqQ_n (?_))
      refine wp_reg (nx' := 112) rfl (ev_den (.vw _ _) rfl rfl (ev_den (.vw _ _) rfl rfl (ev_den (.vw _ _) rfl rfl (ev_den (.vw _ _) rfl rfl (ev_nil))))) (blkQ_n (gcQ_n (gc_to [] (e := [(3, .vw [] (.int .i64 ((if v45 > x30 then v45 else x30)))), (6, .vw [] (.ints .i64 p0)), (7, .vw [] (.int .i64 ((List.length p0 : Int)))), (8, .vw [] (.int .i64 x31))]) (ts := []) (n := 0) rfl rfl rfl rfl) (gcQ_n (gc_to [] (e := [(3, .vw [] (.int .i64 ((if v45 > x30 then v45 else x30)))), (6, .vw [] (.ints .i64 p0)), (7, .vw [] (.int .i64 ((List.length p0 : Int)))), (8, .vw [] (.int .i64 x31))]) (ts := []) (n := 0) rfl rfl rfl rfl) (seqQ_n (?_)))))
      cases h
      exact wp_reg (nx' := 32) rfl (ev_den (.vw _ _) rfl rfl (ev_den (.vw _ _) rfl rfl (ev_nil))) (gcQ_n (gc_to [] (e := [(3, .vw [] (.int .i64 ((if v45 > x30 then v45 else x30)))), (6, .vw [] (.ints .i64 p0)), (7, .vw [] (.int .i64 ((List.length p0 : Int)))), (8, .vw [] (.int .i64 ((w64 (x31 + (1 : Int))))))]) (ts := []) (n := 0) rfl rfl rfl rfl) (loopQ_n rfl))
    · refine wp_cf rfl hc42 ?_
      cases h
      exact wp_exit (gcQ_e (seqQ_e (gcQ_e (loopQ_e (And.intro rfl (gc_to [] (e := [(3, .vw [] (.int .i64 x30))]) (ts := []) (n := 0) rfl rfl rfl rfl))))))
  · intro e st49 hg49
    obtain ⟨rfl, hg49⟩ := hg49
    refine blkQ_h (gcQ_n hg49 (gcQ_n (gc_to [] (e := [(3, .vw [] (.int .i64 x36))]) (ts := []) (n := 0) rfl rfl rfl rfl) (seqQ_n (?_))))
    refine wp_seq ?_
    refine wp_reg (nx' := 32) rfl (ev_den (.vw _ _) rfl rfl (ev_den (.vw _ _) rfl rfl (ev_nil))) (seqQ_n (?_))
    cases h
    exact wp_ret (qf_r ((outs_ok (vs := [(.vw _ _)]) rfl (absW_cons rfl rfl (absW_nil)) rfl rfl)))
/-- loop.example/g01176/impl.GreatestRotation -/
noncomputable def impl_GreatestRotation (p0 : Int × Int × (List Int)) (p1 : List (List Int)) : Option ((Int × Bool)) :=
(impl_RotationsOf p0 p1).bind fun v3 =>
(impl_greatest v3.1).bind fun v4 =>
some (v4, v3.2)
theorem impl_GreatestRotation_ok {p0 : Int × Int × (List Int)} {p1 : List (List Int)} {o : (Int × Bool)} (h : impl_GreatestRotation p0 p1 = some o) : RN 37 [.agg [.int .i64 p0.1, .int .i64 p0.2.1, .ints .i64 p0.2.2], .rows 1 (List.map (T.ints .i64) p1)] [] = some (.tup [.int .i64 o.1, .bool o.2], []) := by
  refine fn_run (o := o) (nr := 0) (F := k37) (st := ⟨entry 0 [.agg [.vw [] (.int .i64 p0.1), .vw [] (.int .i64 p0.2.1), .vw [] (.ints .i64 p0.2.2)], .vw [] (.rows 1 (List.map (T.ints .i64) p1))], fun n => ([] : List T)[n]?, 0⟩) (fun (o : (Int × Bool)) => (.tup [.int .i64 o.1, .bool o.2], [])) rfl fns_37 rfl rfl ?_
  refine wp_seq ?_
  refine wp_reg (nx' := 48) rfl (ev_wr rfl (w_box (sv := (.agg [(.vw _ _), (.vw _ _), (.vw _ _)])) rfl rfl (absW_cons rfl rfl (absW_cons rfl rfl (absW_cons rfl rfl (absW_nil))))) (ev_den (.vw _ _) rfl rfl (ev_den (.vw _ _) rfl rfl (ev_nil)))) (seqQ_n (?_))
  refine wp_seq ?_
  obtain ⟨v3, hv3, h⟩ := bs h
  refine wp_reg (nx' := 176) rfl (ev_den (.agg [(.vw _ _), (.vw _ _), (.vw _ _)]) rfl (d_ld_os rfl (rget_of rfl (get_nil)) rfl (cells_cons rfl (cells_cons rfl (cells_cons rfl (cells_nil))))) (ev_den (.vw _ _) rfl rfl (ev_call0 [(.agg [(.vw _ _), (.vw _ _), (.vw _ _)]), (.vw _ _)] rfl (call_ok (rs := []) (rd := []) rfl rfl rfl rfl (argL_cons (argT_a (argL_cons rfl (argL_cons rfl (argL_cons rfl (argL_nil))))) (argL_cons rfl (argL_nil))) rfl rfl (impl_RotationsOf_ok hv3) rfl rfl rfl (bindR_t (bindL_cons rfl (bindL_cons rfl (bindL_nil)))) rfl) (ev_den (.tup [(.ref 80 _ _ _ _), (.vw _ _)]) rfl rfl (ev_den (.ref 80 _ _ _ _) rfl rfl (ev_den (.vw _ _) rfl rfl (ev_den (.ref 80 _ _ _ _) rfl rfl (ev_den (.vw _ _) rfl rfl (ev_nil))))))))) (seqQ_n (?_))
  refine wp_seq ?_
  obtain ⟨v4, hv4, h⟩ := bs h
  refine wp_reg (nx' := 256) rfl (ev_den (.ref 80 _ _ _ _) rfl rfl (ev_call0 [(.ref 80 _ _ _ _)] rfl (call_ok (rs := []) (rd := [80]) rfl rfl rfl rfl (argL_cons (argT_r (rget_of rfl (get_nil)) sub_i) (argL_nil)) rfl rfl (impl_greatest_ok hv4) rfl rfl rfl rfl rfl) (ev_den (.vw _ _) rfl rfl (ev_den (.vw _ _) rfl rfl (ev_den (.vw _ _) rfl rfl (ev_nil)))))) (seqQ_n (?_))
  cases h
  exact wp_ret (qf_r ((outs_ok (vs := [(.vw _ _), (.vw _ _)]) rfl (absW_cons rfl rfl (absW_cons rfl rfl (absW_nil))) rfl rfl)))
noncomputable def spec_GreatestRotation_s1 (v32 : (List Int)) : (Int × Int) → Option ((Int × Int) ⊕ Int) := fun (x47, x48) =>
if (decide (x48 < (List.length v32 : Int))) = true then
(at? v32 x48).bind fun v66 =>
(spec_l1Most x47 v66).bind fun v67 =>
some (.inl (v67, (w64 (x48 + (1 : Int)))))
else
some (.inr x47)
noncomputable def spec_GreatestRotation_l1 (v32 : (List Int)) : (Int × Int) → Option Int := iter (spec_GreatestRotation_s1 v32)
/-- loop.example/g01176/spec.GreatestRotation -/
noncomputable def spec_GreatestRotation (p0 : Int × Int × (List Int)) (p1 : List (List Int)) : Option ((Int × Bool)) :=
(spec_boWishes p0 p1).bind fun v17 =>
if (!v17) = true then
some ((0 : Int), false)
else
(spec_boRotations p0 p1).bind fun v32 =>
(spec_GreatestRotation_l1 v32 ((0 : Int), (0 : Int))).bind fun x54 =>
some (x54, true)
theorem spec_GreatestRotation_ok {p0 : Int × Int × (List Int)} {p1 : List (List Int)} {o : (Int × Bool)} (h : spec_GreatestRotation p0 p1 = some o) : RN 35 [.agg [.int .i64 p0.1, .int .i64 p0.2.1, .ints .i64 p0.2.2], .rows 1 (List.map (T.ints .i64) p1)] [] = some (.tup [.int .i64 o.1, .bool o.2], []) := by
  refine fn_run (o := o) (nr := 0) (F := k35) (st := ⟨entry 0 [.agg [.vw [] (.int .i64 p0.1), .vw [] (.int .i64 p0.2.1), .vw [] (.ints .i64 p0.2.2)], .vw [] (.rows 1 (List.map (T.ints .i64) p1))], fun n => ([] : List T)[n]?, 0⟩) (fun (o : (Int × Bool)) => (.tup [.int .i64 o.1, .bool o.2], [])) rfl fns_35 rfl rfl ?_
  refine wp_seq ?_
  refine wp_reg (nx' := 48) rfl (ev_wr rfl (w_box (sv := (.agg [(.vw _ _), (.vw _ _), (.vw _ _)])) rfl rfl (absW_cons rfl rfl (absW_cons rfl rfl (absW_cons rfl rfl (absW_nil))))) (ev_den (.vw _ _) rfl rfl (ev_den (.vw _ _) rfl rfl (ev_nil)))) (seqQ_n (?_))
  refine wp_seq ?_
  refine wp_gc ?_
  refine wp_seq ?_
  obtain ⟨v17, hv17, h⟩ := bs h
  refine wp_reg (nx' := 112) rfl (ev_den (.agg [(.vw _ _), (.vw _ _), (.vw _ _)]) rfl (d_ld_os rfl (rget_of rfl (get_nil)) rfl (cells_cons rfl (cells_cons rfl (cells_cons rfl (cells_nil))))) (ev_den (.vw _ _) rfl rfl (ev_call0 [(.agg [(.vw _ _), (.vw _ _), (.vw _ _)]), (.vw _ _)] rfl (call_ok (rs := []) (rd := []) rfl rfl rfl rfl (argL_cons (argT_a (argL_cons rfl (argL_cons rfl (argL_cons rfl (argL_nil))))) (argL_cons rfl (argL_nil))) rfl rfl (spec_boWishes_ok hv17) rfl rfl rfl rfl rfl) (ev_den (.vw _ _) rfl rfl (ev_nil))))) (seqQ_n (?_))
  rcases its h with ⟨hc18, h⟩ | ⟨hc18, h⟩
  · refine wp_ct rfl hc18 ?_
    refine wp_seq ?_
    refine wp_reg (nx' := 144) rfl (ev_den (.vw _ _) rfl rfl (ev_den (.vw _ _) rfl rfl (ev_nil))) (seqQ_n (?_))
    cases h
    exact wp_ret (gcQ_r (seqQ_r (qf_r ((outs_ok (vs := [(.vw _ _), (.vw _ _)]) rfl (absW_cons rfl rfl (absW_cons rfl rfl (absW_nil))) rfl rfl)))))
  · refine wp_cf rfl hc18 ?_
    refine wp_skip (gcQ_n (gc_to [0] (e := [(1, .vw [] (.rows 1 (List.map (T.ints .i64) p1))), (2, .ptr 0 [] (some 0))]) (ts := [some (.ptr (.agg [.int .i64 p0.1, .int .i64 p0.2.1, .sh (.ints .i64 p0.2.2)]))]) (n := 1) rfl rfl rfl rfl) (seqQ_n (?_)))
    refine wp_seq ?_
    refine wp_reg (nx' := 17) rfl (ev_den (.vw _ _) rfl rfl (ev_nil)) (seqQ_n (?_))
    refine wp_seq ?_
    refine wp_gc ?_
    refine wp_seq ?_
    refine wp_gc ?_
    obtain ⟨v32, hv32, h⟩ := bs h
    refine wp_reg (nx' := 97) rfl (ev_den (.agg [(.vw _ _), (.vw _ _), (.vw _ _)]) rfl (d_ld_os rfl (rget_of rfl (get_nil)) rfl (cells_cons rfl (cells_cons rfl (cells_cons rfl (cells_nil))))) (ev_den (.vw _ _) rfl rfl (ev_call0 [(.agg [(.vw _ _), (.vw _ _), (.vw _ _)]), (.vw _ _)] rfl (call_ok (rs := []) (rd := []) rfl rfl rfl rfl (argL_cons (argT_a (argL_cons rfl (argL_cons rfl (argL_cons rfl (argL_nil))))) (argL_cons rfl (argL_nil))) rfl rfl (spec_boRotations_ok hv32) rfl rfl rfl rfl rfl) (ev_den (.vw _ _) rfl rfl (ev_den (.vw _ _) rfl rfl (ev_nil)))))) (gcQ_n (gc_to [49] (e := [(6, .vw [] (.int .i64 ((0 : Int)))), (15, .ref 0 [] 1 0 (List.length v32)), (16, .vw [] (.int .i64 ((List.length v32 : Int)))), (17, .vw [] (.int .i64 ((0 : Int))))]) (ts := [some (.ints .i64 v32)]) (n := 1) rfl rfl rfl rfl) (seqQ_n (?_)))
    refine wp_gc ?_
    refine wp_blk ?_
    obtain ⟨x54, hw71, h⟩ := bs h
    refine wp_mono (wp_loop (fun ((x47, x48) : Int × Int) => (⟨al .dead [(6, .vw [] (.int .i64 x47)), (15, .ref 0 [] 1 0 (List.length v32)), (16, .vw [] (.int .i64 ((List.length v32 : Int)))), (17, .vw [] (.int .i64 x48))], hl [some (.ints .i64 v32)], 1⟩ : St)) (fun (x54 : Int) e st => e = .exit 0 ∧ gc 0 [6] st = ⟨al .dead [(6, .vw [] (.int .i64 x54))], hl [], 0⟩) hw71 ?_) ?_
    · rintro ⟨x47, x48⟩ o h
      refine wp_gc ?_
      refine wp_seq ?_
      refine wp_reg (nx' := 17) rfl (ev_den (.vw _ _) rfl rfl (ev_nil)) (seqQ_n (?_))
      refine wp_seq ?_
      refine wp_gc ?_
      rcases its h with ⟨hc61, h⟩ | ⟨hc61, h⟩
      · refine wp_ct rfl hc61 ?_
        refine wp_skip (gcQ_n (gc_to [0] (e := [(6, .vw [] (.int .i64 x47)), (15, .ref 0 [] 1 0 (List.length v32)), (16, .vw [] (.int .i64 ((List.length v32 : Int)))), (17, .vw [] (.int .i64 x48))]) (ts := [some (.ints .i64 v32)]) (n := 1) rfl rfl rfl rfl) (seqQ_n (?_)))
        refine wp_seq ?_
        refine wp_gc ?_
        refine wp_gc ?_
        refine wp_blk ?_
        refine wp_seq ?_
        obtain ⟨v66, hv66, h⟩ := bs h
        refine wp_reg (nx' := 49) rfl (ev_den (.ptr 0 [.e (Int.toNat x48)] none) rfl (d_idx_r (p := []) rfl rfl hv66) (ev_den (.vw _ _) rfl (d_ld_p rfl (rget_of rfl (get_i hv66)) rfl) (ev_den (.vw _ _) rfl rfl (ev_nil)))) (seqQ_n (?_))
        obtain ⟨v67, hv67, h⟩ := bs h
        refine wp_reg (nx' := 113) rfl (ev_den (.vw _ _) rfl rfl (ev_den (.vw _ _) rfl rfl (ev_call0 [(.vw _ _), (.vw _ _)] rfl (call_ok (rs := []) (rd := []) rfl rfl rfl rfl (argL_cons rfl (argL_cons rfl (argL_nil))) rfl rfl (spec_l1Most_ok hv67) rfl rfl rfl rfl rfl) (ev_den (.vw _ _) rfl rfl (ev_nil))))) (blkQ_n (gcQ_n (gc_to [0] (e := [(6, .vw [] (.int .i64 v67)), (15, .ref 0 [] 1 0 (List.length v32)), (16, .vw [] (.int .i64 ((List.length v32 : Int)))), (17, .vw [] (.int .i64 x48))]) (ts := [some (.ints .i64 v32)]) (n := 1) rfl rfl rfl rfl) (gcQ_n (gc_to [0] (e := [(6, .vw [] (.int .i64 v67)), (15, .ref 0 [] 1 0 (List.length v32)), (16, .vw [] (.int .i64 ((List.length v32 : Int)))), (17, .vw [] (.int .i64 x48))]) (ts := [some (.ints .i64 v32)]) (n := 1) rfl rfl rfl rfl) (seqQ_n (?_)))))
        cases h
        exact wp_reg (nx' := 33) rfl (ev_den (.vw _ _) rfl rfl (ev_den (.vw _ _) rfl rfl (ev_nil))) (gcQ_n (gc_to [0] (e := [(6, .vw [] (.int .i64 v67)), (15, .ref 0 [] 1 0 (List.length v32)), (16, .vw [] (.int .i64 ((List.length v32 : Int)))), (17, .vw [] (.int .i64 ((w64 (x48 + (1 : Int))))))]) (ts := [some (.ints .i64 v32)]) (n := 1) rfl rfl rfl rfl) (loopQ_n rfl))
      · refine wp_cf rfl hc61 ?_
        cases h
        exact wp_exit (gcQ_e (seqQ_e (gcQ_e (loopQ_e (And.intro rfl (gc_to [] (e := [(6, .vw [] (.int .i64 x47))]) (ts := []) (n := 0) rfl rfl rfl rfl))))))
    · intro e st71 hg71
      obtain ⟨rfl, hg71⟩ := hg71
      refine blkQ_h (gcQ_n hg71 (gcQ_n (gc_to [] (e := [(6, .vw [] (.int .i64 x54))]) (ts := []) (n := 0) rfl rfl rfl rfl) (seqQ_n (?_))))
      refine wp_seq ?_
      refine wp_reg (nx' := 48) rfl (ev_den (.vw _ _) rfl rfl (ev_den (.vw _ _) rfl rfl (ev_den (.vw _ _) rfl rfl (ev_nil)))) (seqQ_n (?_))
      cases h
      exact wp_ret (qf_r ((outs_ok (vs := [(.vw _ _), (.vw _ _)]) rfl (absW_cons rfl rfl (absW_cons rfl rfl (absW_nil))) rfl rfl)))
/-- loop.example/g01176/impl.RotationBound -/
noncomputable def impl_RotationBound (p0 : Int × Int × (List Int)) : Option ((Int × Bool)) :=
(impl_IsTimedRing p0).bind fun v5 =>
if (!v5) = true then
some ((0 : Int), false)
else
some ((w64 ((2 : Int) * p0.1)), true)
theorem impl_RotationBound_ok {p0 : Int × Int × (List Int)} {o : (Int × Bool)} (h : impl_RotationBound p0 = some o) : RN 22 [.agg [.int .i64 p0.1, .int .i64 p0.2.1, .ints .i64 p0.2.2]] [] = some (.tup [.int .i64 o.1, .bool o.2], []) := by
  refine fn_run (o := o) (nr := 0) (F := k22) (st := ⟨entry 0 [.agg [.vw [] (.int .i64 p0.1), .vw [] (.int .i64 p0.2.1), .vw [] (.ints .i64 p0.2.2)]], fun n => ([] : List T)[n]?, 0⟩) (fun (o : (Int × Bool)) => (.tup [.int .i64 o.1, .bool o.2], [])) rfl fns_22 rfl rfl ?_
  refine wp_seq ?_
  refine wp_reg (nx' := 48) rfl (ev_wr rfl (w_box (sv := (.agg [(.vw _ _), (.vw _ _), (.vw _ _)])) rfl rfl (absW_cons rfl rfl (absW_cons rfl rfl (absW_cons rfl rfl (absW_nil))))) (ev_den (.vw _ _) rfl rfl (ev_den (.vw _ _) rfl rfl (ev_nil)))) (seqQ_n (?_))
  refine wp_seq ?_
  refine wp_gc ?_
  refine wp_seq ?_
  obtain ⟨v5, hv5, h⟩ := bs h
  refine wp_reg (nx' := 96) rfl (ev_den (.agg [(.vw _ _), (.vw _ _), (.vw _ _)]) rfl (d_ld_os rfl (rget_of rfl (get_nil)) rfl (cells_cons rfl (cells_cons rfl (cells_cons rfl (cells_nil))))) (ev_call0 [(.agg [(.vw _ _), (.vw _ _), (.vw _ _)])] rfl (call_ok (rs := []) (rd := []) rfl rfl rfl rfl (argL_cons (argT_a (argL_cons rfl (argL_cons rfl (argL_cons rfl (argL_nil))))) (argL_nil)) rfl rfl (impl_IsTimedRing_ok hv5) rfl rfl rfl rfl rfl) (ev_den (.vw _ _) rfl rfl (ev_nil)))) (seqQ_n (?_))
  rcases its h with ⟨hc6, h⟩ | ⟨hc6, h⟩
  · refine wp_ct rfl hc6 ?_
    refine wp_seq ?_
    refine wp_reg (nx' := 128) rfl (ev_den (.vw _ _) rfl rfl (ev_den (.vw _ _) rfl rfl (ev_nil))) (seqQ_n (?_))
    cases h
    exact wp_ret (gcQ_r (seqQ_r (qf_r ((outs_ok (vs := [(.vw _ _), (.vw _ _)]) rfl (absW_cons rfl rfl (absW_cons rfl rfl (absW_nil))) rfl rfl)))))
  · refine wp_cf rfl hc6 ?_
    refine wp_skip (gcQ_n (gc_to [0] (e := [(1, .ptr 0 [] (some 0))]) (ts := [some (.ptr (.agg [.int .i64 p0.1, .int .i64 p0.2.1, .sh (.ints .i64 p0.2.2)]))]) (n := 1) rfl rfl rfl rfl) (seqQ_n (?_)))
    refine wp_seq ?_
    refine wp_reg (nx' := 81) rfl (ev_den (.ptr 0 [] (some 0)) rfl rfl (ev_den (.vw _ _) rfl (d_ld_o rfl (rget_of rfl (get_nil)) rfl rfl) (ev_den (.vw _ _) rfl rfl (ev_den (.vw _ _) rfl rfl (ev_den (.vw _ _) rfl rfl (ev_nil)))))) (seqQ_n (?_))
    cases h
    exact wp_ret (qf_r ((outs_ok (vs := [(.vw _ _), (.vw _ _)]) rfl (absW_cons rfl rfl (absW_cons rfl rfl (absW_nil))) rfl rfl)))
/-- loop.example/g01176/spec.RotationBound -/
noncomputable def spec_RotationBound (p0 : Int × Int × (List Int)) : Option ((Int × Bool)) :=
(spec_boTimed p0).bind fun v5 =>
if (!v5) = true then
some ((0 : Int), false)
else
some ((w64 ((2 : Int) * p0.1)), true)
theorem spec_RotationBound_ok {p0 : Int × Int × (List Int)} {o : (Int × Bool)} (h : spec_RotationBound p0 = some o) : RN 21 [.agg [.int .i64 p0.1, .int .i64 p0.2.1, .ints .i64 p0.2.2]] [] = some (.tup [.int .i64 o.1, .bool o.2], []) := by
  refine fn_run (o := o) (nr := 0) (F := k21) (st := ⟨entry 0 [.agg [.vw [] (.int .i64 p0.1), .vw [] (.int .i64 p0.2.1), .vw [] (.ints .i64 p0.2.2)]], fun n => ([] : List T)[n]?, 0⟩) (fun (o : (Int × Bool)) => (.tup [.int .i64 o.1, .bool o.2], [])) rfl fns_21 rfl rfl ?_
  refine wp_seq ?_
  refine wp_reg (nx' := 48) rfl (ev_wr rfl (w_box (sv := (.agg [(.vw _ _), (.vw _ _), (.vw _ _)])) rfl rfl (absW_cons rfl rfl (absW_cons rfl rfl (absW_cons rfl rfl (absW_nil))))) (ev_den (.vw _ _) rfl rfl (ev_den (.vw _ _) rfl rfl (ev_nil)))) (seqQ_n (?_))
  refine wp_seq ?_
  refine wp_gc ?_
  refine wp_seq ?_
  obtain ⟨v5, hv5, h⟩ := bs h
  refine wp_reg (nx' := 96) rfl (ev_den (.agg [(.vw _ _), (.vw _ _), (.vw _ _)]) rfl (d_ld_os rfl (rget_of rfl (get_nil)) rfl (cells_cons rfl (cells_cons rfl (cells_cons rfl (cells_nil))))) (ev_call0 [(.agg [(.vw _ _), (.vw _ _), (.vw _ _)])] rfl (call_ok (rs := []) (rd := []) rfl rfl rfl rfl (argL_cons (argT_a (argL_cons rfl (argL_cons rfl (argL_cons rfl (argL_nil))))) (argL_nil)) rfl rfl (spec_boTimed_ok hv5) rfl rfl rfl rfl rfl) (ev_den (.vw _ _) rfl rfl (ev_nil)))) (seqQ_n (?_))
  rcases its h with ⟨hc6, h⟩ | ⟨hc6, h⟩
  · refine wp_ct rfl hc6 ?_
    refine wp_seq ?_
    refine wp_reg (nx' := 128) rfl (ev_den (.vw _ _) rfl rfl (ev_den (.vw _ _) rfl rfl (ev_nil))) (seqQ_n (?_))
    cases h
    exact wp_ret (gcQ_r (seqQ_r (qf_r ((outs_ok (vs := [(.vw _ _), (.vw _ _)]) rfl (absW_cons rfl rfl (absW_cons rfl rfl (absW_nil))) rfl rfl)))))
  · refine wp_cf rfl hc6 ?_
    refine wp_skip (gcQ_n (gc_to [0] (e := [(1, .ptr 0 [] (some 0))]) (ts := [some (.ptr (.agg [.int .i64 p0.1, .int .i64 p0.2.1, .sh (.ints .i64 p0.2.2)]))]) (n := 1) rfl rfl rfl rfl) (seqQ_n (?_)))
    refine wp_seq ?_
    refine wp_reg (nx' := 81) rfl (ev_den (.ptr 0 [] (some 0)) rfl rfl (ev_den (.vw _ _) rfl (d_ld_o rfl (rget_of rfl (get_nil)) rfl rfl) (ev_den (.vw _ _) rfl rfl (ev_den (.vw _ _) rfl rfl (ev_den (.vw _ _) rfl rfl (ev_nil)))))) (seqQ_n (?_))
    cases h
    exact wp_ret (qf_r ((outs_ok (vs := [(.vw _ _), (.vw _ _)]) rfl (absW_cons rfl rfl (absW_cons rfl rfl (absW_nil))) rfl rfl)))
/-- loop.example/g01176/impl.FreeShare -/
noncomputable def impl_FreeShare (p0 : Int × Int × (List Int)) : Option ((Int × Bool)) :=
(impl_IsTimedRing p0).bind fun v6 =>
if (!v6) = true then
some ((0 : Int), false)
else
(impl_TimedRing_busy p0).bind fun v8 =>
some ((w64 (p0.1 - v8)), true)
theorem impl_FreeShare_ok {p0 : Int × Int × (List Int)} {o : (Int × Bool)} (h : impl_FreeShare p0 = some o) : RN 20 [.agg [.int .i64 p0.1, .int .i64 p0.2.1, .ints .i64 p0.2.2]] [] = some (.tup [.int .i64 o.1, .bool o.2], []) := by
  refine fn_run (o := o) (nr := 0) (F := k20) (st := ⟨entry 0 [.agg [.vw [] (.int .i64 p0.1), .vw [] (.int .i64 p0.2.1), .vw [] (.ints .i64 p0.2.2)]], fun n => ([] : List T)[n]?, 0⟩) (fun (o : (Int × Bool)) => (.tup [.int .i64 o.1, .bool o.2], [])) rfl fns_20 rfl rfl ?_
  refine wp_seq ?_
  refine wp_reg (nx' := 48) rfl (ev_wr rfl (w_box (sv := (.agg [(.vw _ _), (.vw _ _), (.vw _ _)])) rfl rfl (absW_cons rfl rfl (absW_cons rfl rfl (absW_cons rfl rfl (absW_nil))))) (ev_den (.vw _ _) rfl rfl (ev_den (.vw _ _) rfl rfl (ev_nil)))) (seqQ_n (?_))
  refine wp_seq ?_
  refine wp_gc ?_
  refine wp_seq ?_
  obtain ⟨v6, hv6, h⟩ := bs h
  refine wp_reg (nx' := 96) rfl (ev_den (.agg [(.vw _ _), (.vw _ _), (.vw _ _)]) rfl (d_ld_os rfl (rget_of rfl (get_nil)) rfl (cells_cons rfl (cells_cons rfl (cells_cons rfl (cells_nil))))) (ev_call0 [(.agg [(.vw _ _), (.vw _ _), (.vw _ _)])] rfl (call_ok (rs := []) (rd := []) rfl rfl rfl rfl (argL_cons (argT_a (argL_cons rfl (argL_cons rfl (argL_cons rfl (argL_nil))))) (argL_nil)) rfl rfl (impl_IsTimedRing_ok hv6) rfl rfl rfl rfl rfl) (ev_den (.vw _ _) rfl rfl (ev_nil)))) (seqQ_n (?_))
  rcases its h with ⟨hc7, h⟩ | ⟨hc7, h⟩
  · refine wp_ct rfl hc7 ?_
    refine wp_seq ?_
    refine wp_reg (nx' := 128) rfl (ev_den (.vw _ _) rfl rfl (ev_den (.vw _ _) rfl rfl (ev_nil))) (seqQ_n (?_))
    cases h
    exact wp_ret (gcQ_r (seqQ_r (qf_r ((outs_ok (vs := [(.vw _ _), (.vw _ _)]) rfl (absW_cons rfl rfl (absW_cons rfl rfl (absW_nil))) rfl rfl)))))
  · refine wp_cf rfl hc7 ?_
    refine wp_skip (gcQ_n (gc_to [0] (e := [(1, .ptr 0 [] (some 0))]) (ts := [some (.ptr (.agg [.int .i64 p0.1, .int .i64 p0.2.1, .sh (.ints .i64 p0.2.2)]))]) (n := 1) rfl rfl rfl rfl) (seqQ_n (?_)))
    refine wp_seq ?_
    obtain ⟨v8, hv8, h⟩ := bs h
    refine wp_reg (nx' := 113) rfl (ev_den (.ptr 0 [] (some 0)) rfl rfl (ev_den (.vw _ _) rfl (d_ld_o rfl (rget_of rfl (get_nil)) rfl rfl) (ev_den (.agg [(.vw _ _), (.vw _ _), (.vw _ _)]) rfl (d_ld_os rfl (rget_of rfl (get_nil)) rfl (cells_cons rfl (cells_cons rfl (cells_cons rfl (cells_nil))))) (ev_call0 [(.agg [(.vw _ _), (.vw _ _), (.vw _ _)])] rfl (call_ok (rs := []) (rd := []) rfl rfl rfl rfl (argL_cons (argT_a (argL_cons rfl (argL_cons rfl (argL_cons rfl (argL_nil))))) (argL_nil)) rfl rfl (impl_TimedRing_busy_ok hv8) rfl rfl rfl rfl rfl) (ev_den (.vw _ _) rfl rfl (ev_den (.vw _ _) rfl rfl (ev_den (.vw _ _) rfl rfl (ev_nil)))))))) (seqQ_n (?_))
    cases h
    exact wp_ret (qf_r ((outs_ok (vs := [(.vw _ _), (.vw _ _)]) rfl (absW_cons rfl rfl (absW_cons rfl rfl (absW_nil))) rfl rfl)))
/-- loop.example/g01176/spec.FreeShare -/
noncomputable def spec_FreeShare (p0 : Int × Int × (List Int)) : Option ((Int × Bool)) :=
(spec_boTimed p0).bind fun v6 =>
if (!v6) = true then
some ((0 : Int), false)
else
(spec_boUsed p0).bind fun v8 =>
some ((w64 (p0.1 - v8)), true)
theorem spec_FreeShare_ok {p0 : Int × Int × (List Int)} {o : (Int × Bool)} (h : spec_FreeShare p0 = some o) : RN 19 [.agg [.int .i64 p0.1, .int .i64 p0.2.1, .ints .i64 p0.2.2]] [] = some (.tup [.int .i64 o.1, .bool o.2], []) := by
  refine fn_run (o := o) (nr := 0) (F := k19) (st := ⟨entry 0 [.agg [.vw [] (.int .i64 p0.1), .vw [] (.int .i64 p0.2.1), .vw [] (.ints .i64 p0.2.2)]], fun n => ([] : List T)[n]?, 0⟩) (fun (o : (Int × Bool)) => (.tup [.int .i64 o.1, .bool o.2], [])) rfl fns_19 rfl rfl ?_
  refine wp_seq ?_
  refine wp_reg (nx' := 48) rfl (ev_wr rfl (w_box (sv := (.agg [(.vw _ _), (.vw _ _), (.vw _ _)])) rfl rfl (absW_cons rfl rfl (absW_cons rfl rfl (absW_cons rfl rfl (absW_nil))))) (ev_den (.vw _ _) rfl rfl (ev_den (.vw _ _) rfl rfl (ev_nil)))) (seqQ_n (?_))
  refine wp_seq ?_
  refine wp_gc ?_
  refine wp_seq ?_
  obtain ⟨v6, hv6, h⟩ := bs h
  refine wp_reg (nx' := 96) rfl (ev_den (.agg [(.vw _ _), (.vw _ _), (.vw _ _)]) rfl (d_ld_os rfl (rget_of rfl (get_nil)) rfl (cells_cons rfl (cells_cons rfl (cells_cons rfl (cells_nil))))) (ev_call0 [(.agg [(.vw _ _), (.vw _ _), (.vw _ _)])] rfl (call_ok (rs := []) (rd := []) rfl rfl rfl rfl (argL_cons (argT_a (argL_cons rfl (argL_cons rfl (argL_cons rfl (argL_nil))))) (argL_nil)) rfl rfl (spec_boTimed_ok hv6) rfl rfl rfl rfl rfl) (ev_den (.vw _ _) rfl rfl (ev_nil)))) (seqQ_n (?_))
  rcases its h with ⟨hc7, h⟩ | ⟨hc7, h⟩
  · refine wp_ct rfl hc7 ?_
    refine wp_seq ?_
    refine wp_reg (nx' := 128) rfl (ev_den (.vw _ _) rfl rfl (ev_den (.vw _ _) rfl rfl (ev_nil))) (seqQ_n (?_))
    cases h
    exact wp_ret (gcQ_r (seqQ_r (qf_r ((outs_ok (vs := [(.vw _ _), (.vw _ _)]) rfl (absW_cons rfl rfl (absW_cons rfl rfl (absW_nil))) rfl rfl)))))
  · refine wp_cf rfl hc7 ?_
    refine wp_skip (gcQ_n (gc_to [0] (e := [(1, .ptr 0 [] (some 0))]) (ts := [some (.ptr (.agg [.int .i64 p0.1, .int .i64 p0.2.1, .sh (.ints .i64 p0.2.2)]))]) (n := 1) rfl rfl rfl rfl) (seqQ_n (?_)))
    refine wp_seq ?_
    obtain ⟨v8, hv8, h⟩ := bs h
    refine wp_reg (nx' := 113) rfl (ev_den (.ptr 0 [] (some 0)) rfl rfl (ev_den (.vw _ _) rfl (d_ld_o rfl (rget_of rfl (get_nil)) rfl rfl) (ev_den (.agg [(.vw _ _), (.vw _ _), (.vw _ _)]) rfl (d_ld_os rfl (rget_of rfl (get_nil)) rfl (cells_cons rfl (cells_cons rfl (cells_cons rfl (cells_nil))))) (ev_call0 [(.agg [(.vw _ _), (.vw _ _), (.vw _ _)])] rfl (call_ok (rs := []) (rd := []) rfl rfl rfl rfl (argL_cons (argT_a (argL_cons rfl (argL_cons rfl (argL_cons rfl (argL_nil))))) (argL_nil)) rfl rfl (spec_boUsed_ok hv8) rfl rfl rfl rfl rfl) (ev_den (.vw _ _) rfl rfl (ev_den (.vw _ _) rfl rfl (ev_den (.vw _ _) rfl rfl (ev_nil)))))))) (seqQ_n (?_))
    cases h
    exact wp_ret (qf_r ((outs_ok (vs := [(.vw _ _), (.vw _ _)]) rfl (absW_cons rfl rfl (absW_cons rfl rfl (absW_nil))) rfl rfl)))
noncomputable def laws_kSame_s1 (p0 : List Int) (p1 : List Int) : Int → Option (Int ⊕ (Unit ⊕ Bool)) := fun x38 =>
if (decide (x38 < (List.length p0 : Int))) = true then
(at? p0 x38).bind fun v57 =>
(at? p1 x38).bind fun v58 =>
if (v57 != v58) = true then
some (.inr (.inr false))
else
some (.inl ((w64 (x38 + (1 : Int)))))
else
some (.inr (.inl ()))
noncomputable def laws_kSame_l1 (p0 : List Int) (p1 : List Int) : Int → Option (Unit ⊕ Bool) := iter (laws_kSame_s1 p0 p1)
/-- loop.example/g01176/laws.kSame -/
noncomputable def laws_kSame (p0 : List Int) (p1 : List Int) : Option Bool :=
if ((List.length p0 : Int) != (List.length p1 : Int)) = true then
some false
else
(laws_kSame_l1 p0 p1 (0 : Int)).bind fun w => match w with
| .inl _ =>
some true
| .inr r62 =>
some r62
theorem laws_kSame_ok {p0 : List Int} {p1 : List Int} {o : Bool} (h : laws_kSame p0 p1 = some o) : RN 49 [.ints .i64 p0, .ints .i64 p1] [] = some (.bool o, []) := by
  refine fn_run (o := o) (nr := 0) (F := k49) (st := ⟨entry 0 [.vw [] (.ints .i64 p0), .vw [] (.ints .i64 p1)], fun n => ([] : List T)[n]?, 0⟩) (fun (o : Bool) => (.bool o, [])) rfl fns_49 rfl rfl ?_
  refine wp_seq ?_
  refine wp_reg (nx' := 16) rfl (ev_den (.vw _ _) rfl rfl (ev_nil)) (seqQ_n (?_))
  refine wp_seq ?_
  refine wp_gc ?_
  refine wp_seq ?_
  refine wp_reg (nx' := 96) rfl (ev_den (.vw _ _) rfl rfl (ev_den (.vw _ _) rfl rfl (ev_den (.vw _ _) rfl rfl (ev_den (.vw _ _) rfl rfl (ev_den (.vw _ _) rfl rfl (ev_nil)))))) (seqQ_n (?_))
  rcases its h with ⟨hc13, h⟩ | ⟨hc13, h⟩
  · refine wp_ct rfl hc13 ?_
    refine wp_seq ?_
    refine wp_reg (nx' := 112) rfl (ev_den (.vw _ _) rfl rfl (ev_nil)) (seqQ_n (?_))
    cases h
    exact wp_ret (gcQ_r (seqQ_r (qf_r ((outs_ok (vs := [(.vw _ _)]) rfl (absW_cons rfl rfl (absW_nil)) rfl rfl)))))
  · refine wp_cf rfl hc13 ?_
    refine wp_skip (gcQ_n (gc_to [] (e := [(0, .vw [] (.ints .i64 p0)), (1, .vw [] (.ints .i64 p1))]) (ts := []) (n := 0) rfl rfl rfl rfl) (seqQ_n (?_)))
    refine wp_seq ?_
    refine wp_gc ?_
    refine wp_seq ?_
    refine wp_gc ?_
    refine wp_reg (nx' := 48) rfl (ev_den (.vw _ _) rfl rfl (ev_den (.vw _ _) rfl rfl (ev_den (.vw _ _) rfl rfl (ev_nil)))) (gcQ_n (gc_to [] (e := [(0, .vw [] (.ints .i64 p0)), (1, .vw [] (.ints .i64 p1)), (12, .vw [] (.int .i64 ((List.length p0 : Int)))), (13, .vw [] (.int .i64 ((0 : Int))))]) (ts := []) (n := 0) rfl rfl rfl rfl) (seqQ_n (?_)))
    refine wp_gc ?_
    refine wp_blk ?_
    obtain ⟨w61, hw61, h⟩ := bs h
    refine wp_mono (wp_loop (fun (x38 : Int) => (⟨al .dead [(0, .vw [] (.ints .i64 p0)), (1, .vw [] (.ints .i64 p1)), (12, .vw [] (.int .i64 ((List.length p0 : Int)))), (13, .vw [] (.int .i64 x38))], hl [], 0⟩ : St)) (fun (v : Unit ⊕ Bool) e st => match v with | .inl _ => e = .exit 0 ∧ gc 0 [] st = ⟨al .dead [], hl [], 0⟩ | .inr rr => e = .ret ∧ outs 0 k49 st = some (.bool rr, [])) hw61 ?_) ?_
    · rintro x38 o h
      refine wp_gc ?_
      refine wp_seq ?_
      refine wp_reg (nx' := 16) rfl (ev_den (.vw _ _) rfl rfl (ev_nil)) (seqQ_n (?_))
      refine wp_seq ?_
      refine wp_gc ?_
      rcases its h with ⟨hc50, h⟩ | ⟨hc50, h⟩
      · refine wp_ct rfl hc50 ?_
        refine wp_skip (gcQ_n (gc_to [] (e := [(0, .vw [] (.ints .i64 p0)), (1, .vw [] (.ints .i64 p1)), (12, .vw [] (.int .i64 ((List.length p0 : Int)))), (13, .vw [] (.int .i64 x38))]) (ts := []) (n := 0) rfl rfl rfl rfl) (seqQ_n (?_)))
        refine wp_seq ?_
        refine wp_gc ?_
        refine wp_gc ?_
        refine wp_blk ?_
        refine wp_seq ?_
        refine wp_reg (nx' := 32) rfl (ev_den (.vw _ _) rfl rfl (ev_den (.vw _ _) rfl rfl (ev_nil))) (seqQ_n (?_))
        refine wp_seq ?_
        obtain ⟨v57, hv57, h⟩ := bs h
        obtain ⟨v58, hv58, h⟩ := bs h
        refine wp_reg (nx' := 176) rfl (ev_den (.vw _ _) rfl rfl (ev_den (.vw _ _) rfl rfl (ev_den (.pv _ _) rfl (d_idx_vi rfl rfl hv57) (ev_den (.vw _ _) rfl rfl (ev_den (.vw _ _) rfl rfl (ev_den (.vw _ _) rfl rfl (ev_den (.pv _ _) rfl (d_idx_vi rfl rfl hv58) (ev_den (.vw _ _) rfl rfl (ev_den (.vw _ _) rfl rfl (ev_nil)))))))))) (seqQ_n (?_))
        rcases its h with ⟨hc59, h⟩ | ⟨hc59, h⟩
        · refine wp_ct rfl hc59 ?_
          refine wp_seq ?_
          refine wp_reg (nx' := 192) rfl (ev_den (.vw _ _) rfl rfl (ev_nil)) (seqQ_n (?_))
          cases h
          exact wp_ret (blkQ_r (gcQ_r (gcQ_r (seqQ_r (gcQ_r (loopQ_r (And.intro rfl (outs_ok (vs := [(.vw _ _)]) rfl (absW_cons rfl rfl (absW_nil)) rfl rfl))))))))
        · refine wp_cf rfl hc59 ?_
          refine wp_skip (blkQ_n (gcQ_n (gc_to [] (e := [(0, .vw [] (.ints .i64 p0)), (1, .vw [] (.ints .i64 p1)), (12, .vw [] (.int .i64 ((List.length p0 : Int)))), (13, .vw [] (.int .i64 x38))]) (ts := []) (n := 0) rfl rfl rfl rfl) (gcQ_n (gc_to [] (e := [(0, .vw [] (.ints .i64 p0)), (1, .vw [] (.ints .i64 p1)), (12, .vw [] (.int .i64 ((List.length p0 : Int)))), (13, .vw [] (.int .i64 x38))]) (ts := []) (n := 0) rfl rfl rfl rfl) (seqQ_n (?_)))))
          cases h
          exact wp_reg (nx' := 32) rfl (ev_den (.vw _ _) rfl rfl (ev_den (.vw _ _) rfl rfl (ev_nil))) (gcQ_n (gc_to [] (e := [(0, .vw [] (.ints .i64 p0)), (1, .vw [] (.ints .i64 p1)), (12, .vw [] (.int .i64 ((List.length p0 : Int)))), (13, .vw [] (.int .i64 ((w64 (x38 + (1 : Int))))))]) (ts := []) (n := 0) rfl rfl rfl rfl) (loopQ_n rfl))
      · refine wp_cf rfl hc50 ?_
        cases h
        exact wp_exit (gcQ_e (seqQ_e (gcQ_e (loopQ_e (And.intro rfl (gc_to [] (e := []) (ts := []) (n := 0) rfl rfl rfl rfl))))))
    · intro e st61 hg61
      rcases w61 with _ | r62
      · obtain ⟨rfl, hg61⟩ := hg61
        refine blkQ_h (gcQ_n hg61 (gcQ_n (gc_to [] (e := []) (ts := []) (n := 0) rfl rfl rfl rfl) (seqQ_n (?_))))
        refine wp_seq ?_
        refine wp_reg (nx' := 16) rfl (ev_den (.vw _ _) rfl rfl (ev_nil)) (seqQ_n (?_))
        cases h
        exact wp_ret (qf_r ((outs_ok (vs := [(.vw _ _)]) rfl (absW_cons rfl rfl (absW_nil)) rfl rfl)))
      · obtain ⟨rfl, hg61⟩ := hg61
        cases h
        exact blkQ_r (gcQ_r (gcQ_r (seqQ_r (qf_r (hg61)))))
noncomputable def laws_kRows_s1 (p0 : List (List Int)) (p1 : List (List Int)) : Int → Option (Int ⊕ (Unit ⊕ Bool)) := fun x45 =>
if (decide (x45 < (List.length p0 : Int))) = true then
(at? p0 x45).bind fun v68 =>
(at? p1 x45).bind fun v69 =>
(laws_kSame v68 v69).bind fun v70 =>
if (!v70) = true then
some (.inr (.inr false))
else
some (.inl ((w64 (x45 + (1 : Int)))))
else
some (.inr (.inl ()))
noncomputable def laws_kRows_l1 (p0 : List (List Int)) (p1 : List (List Int)) : Int → Option (Unit ⊕ Bool) := iter (laws_kRows_s1 p0 p1)
/-- loop.example/g01176/laws.kRows -/
noncomputable def laws_kRows (p0 : List (List Int)) (p1 : List (List Int)) : Option Bool :=
if ((List.length p0 : Int) != (List.length p1 : Int)) = true then
some false
else
(laws_kRows_l1 p0 p1 (0 : Int)).bind fun w => match w with
| .inl _ =>
some true
| .inr r74 =>
some r74
theorem laws_kRows_ok {p0 : List (List Int)} {p1 : List (List Int)} {o : Bool} (h : laws_kRows p0 p1 = some o) : RN 48 [.rows 1 (List.map (T.ints .i64) p0), .rows 1 (List.map (T.ints .i64) p1)] [] = some (.bool o, []) := by
  refine fn_run (o := o) (nr := 0) (F := k48) (st := ⟨entry 0 [.vw [] (.rows 1 (List.map (T.ints .i64) p0)), .vw [] (.rows 1 (List.map (T.ints .i64) p1))], fun n => ([] : List T)[n]?, 0⟩) (fun (o : Bool) => (.bool o, [])) rfl fns_48 rfl rfl ?_
  refine wp_seq ?_
  refine wp_reg (nx' := 16) rfl (ev_den (.vw _ _) rfl rfl (ev_nil)) (seqQ_n (?_))
  refine wp_seq ?_
  refine wp_gc ?_
  refine wp_seq ?_
  refine wp_reg (nx' := 96) rfl (ev_den (.vw _ _) rfl rfl (ev_den (.vw _ _) rfl (d_len_vr (e := (T.ints .i64)) rfl) (ev_den (.vw _ _) rfl rfl (ev_den (.vw _ _) rfl (d_len_vr (e := (T.ints .i64)) rfl) (ev_den (.vw _ _) rfl rfl (ev_nil)))))) (seqQ_n (?_))
  rcases its h with ⟨hc15, h⟩ | ⟨hc15, h⟩
  · refine wp_ct rfl hc15 ?_
    refine wp_seq ?_
    refine wp_reg (nx' := 112) rfl (ev_den (.vw _ _) rfl rfl (ev_nil)) (seqQ_n (?_))
    cases h
    exact wp_ret (gcQ_r (seqQ_r (qf_r ((outs_ok (vs := [(.vw _ _)]) rfl (absW_cons rfl rfl (absW_nil)) rfl rfl)))))
  · refine wp_cf rfl hc15 ?_
    refine wp_skip (gcQ_n (gc_to [] (e := [(0, .vw [] (.rows 1 (List.map (T.ints .i64) p0))), (1, .vw [] (.rows 1 (List.map (T.ints .i64) p1)))]) (ts := []) (n := 0) rfl rfl rfl rfl) (seqQ_n (?_)))
    refine wp_seq ?_
    refine wp_gc ?_
    refine wp_seq ?_
    refine wp_gc ?_
    refine wp_reg (nx' := 48) rfl (ev_den (.vw _ _) rfl rfl (ev_den (.vw _ _) rfl (d_len_vr (e := (T.ints .i64)) rfl) (ev_den (.vw _ _) rfl rfl (ev_nil)))) (gcQ_n (gc_to [] (e := [(0, .vw [] (.rows 1 (List.map (T.ints .i64) p0))), (1, .vw [] (.rows 1 (List.map (T.ints .i64) p1))), (12, .vw [] (.int .i64 ((List.length p0 : Int)))), (13, .vw [] (.int .i64 ((0 : Int))))]) (ts := []) (n := 0) rfl rfl rfl rfl) (seqQ_n (?_)))
    refine wp_gc ?_
    refine wp_blk ?_
    obtain ⟨w73, hw73, h⟩ := bs h
    refine wp_mono (wp_loop (fun (x45 : Int) => (⟨al .dead [(0, .vw [] (.rows 1 (List.map (T.ints .i64) p0))), (1, .vw [] (.rows 1 (List.map (T.ints .i64) p1))), (12, .vw [] (.int .i64 ((List.length p0 : Int)))), (13, .vw [] (.int .i64 x45))], hl [], 0⟩ : St)) (fun (v : Unit ⊕ Bool) e st => match v with | .inl _ => e = .exit 0 ∧ gc 0 [] st = ⟨al .dead [], hl [], 0⟩ | .inr rr => e = .ret ∧ outs 0 k48 st = some (.bool rr, [])) hw73 ?_) ?_
    · rintro x45 o h
      refine wp_gc ?_
      refine wp_seq ?_
      refine wp_reg (nx' := 16) rfl (ev_den (.vw _ _) rfl rfl (ev_nil)) (seqQ_n (?_))
      refine wp_seq ?_
      refine wp_gc ?_
      rcases its h with ⟨hc59, h⟩ | ⟨hc59, h⟩
      · refine wp_ct rfl hc59 ?_
        refine wp_skip (gcQ_n (gc_to [] (e := [(0, .vw [] (.rows 1 (List.map (T.ints .i64) p0))), (1, .vw [] (.rows 1 (List.map (T.ints .i64) p1))), (12, .vw [] (.int .i64 ((List.length p0 : Int)))), (13, .vw [] (.int .i64 x45))]) (ts := []) (n := 0) rfl rfl rfl rfl) (seqQ_n (?_)))
        refine wp_seq ?_
        refine wp_gc ?_
        refine wp_gc ?_
        refine wp_blk ?_
        refine wp_seq ?_
        refine wp_reg (nx' := 32) rfl (ev_den (.vw _ _) rfl rfl (ev_den (.vw _ _) rfl rfl (ev_nil))) (seqQ_n (?_))
        refine wp_seq ?_
        obtain ⟨v68, hv68, h⟩ := bs h
        obtain ⟨v69, hv69, h⟩ := bs h
        obtain ⟨v70, hv70, h⟩ := bs h
        refine wp_reg (nx' := 192) rfl (ev_den (.vw _ _) rfl rfl (ev_den (.vw _ _) rfl rfl (ev_den (.pv _ _) rfl (d_idx_vr (T.ints .i64) rfl rfl hv68) (ev_den (.vw _ _) rfl rfl (ev_den (.vw _ _) rfl rfl (ev_den (.vw _ _) rfl rfl (ev_den (.pv _ _) rfl (d_idx_vr (T.ints .i64) rfl rfl hv69) (ev_den (.vw _ _) rfl rfl (ev_call0 [(.vw _ _), (.vw _ _)] rfl (call_ok (rs := []) (rd := []) rfl rfl rfl rfl (argL_cons rfl (argL_cons rfl (argL_nil))) rfl rfl (laws_kSame_ok hv70) rfl rfl rfl rfl rfl) (ev_den (.vw _ _) rfl rfl (ev_nil))))))))))) (seqQ_n (?_))
        rcases its h with ⟨hc71, h⟩ | ⟨hc71, h⟩
        · refine wp_ct rfl hc71 ?_
          refine wp_seq ?_
          refine wp_reg (nx' := 208) rfl (ev_den (.vw _ _) rfl rfl (ev_nil)) (seqQ_n (?_))
          cases h
          exact wp_ret (blkQ_r (gcQ_r (gcQ_r (seqQ_r (gcQ_r (loopQ_r (And.intro rfl (outs_ok (vs := [(.vw _ _)]) rfl (absW_cons rfl rfl (absW_nil)) rfl rfl))))))))
        · refine wp_cf rfl hc71 ?_
          refine wp_skip (blkQ_n (gcQ_n (gc_to [] (e := [(0, .vw [] (.rows 1 (List.map (T.ints .i64) p0))), (1, .vw [] (.rows 1 (List.map (T.ints .i64) p1))), (12, .vw [] (.int .i64 ((List.length p0 : Int)))), (13, .vw [] (.int .i64 x45))]) (ts := []) (n := 0) rfl rfl rfl rfl) (gcQ_n (gc_to [] (e := [(0, .vw [] (.rows 1 (List.map (T.ints .i64) p0))), (1, .vw [] (.rows 1 (List.map (T.ints .i64) p1))), (12, .vw [] (.int .i64 ((List.length p0 : Int)))), (13, .vw [] (.int .i64 x45))]) (ts := []) (n := 0) rfl rfl rfl rfl) (seqQ_n (?_)))))
          cases h
          exact wp_reg (nx' := 32) rfl (ev_den (.vw _ _) rfl rfl (ev_den (.vw _ _) rfl rfl (ev_nil))) (gcQ_n (gc_to [] (e := [(0, .vw [] (.rows 1 (List.map (T.ints .i64) p0))), (1, .vw [] (.rows 1 (List.map (T.ints .i64) p1))), (12, .vw [] (.int .i64 ((List.length p0 : Int)))), (13, .vw [] (.int .i64 ((w64 (x45 + (1 : Int))))))]) (ts := []) (n := 0) rfl rfl rfl rfl) (loopQ_n rfl))
      · refine wp_cf rfl hc59 ?_
        cases h
        exact wp_exit (gcQ_e (seqQ_e (gcQ_e (loopQ_e (And.intro rfl (gc_to [] (e := []) (ts := []) (n := 0) rfl rfl rfl rfl))))))
    · intro e st73 hg73
      rcases w73 with _ | r74
      · obtain ⟨rfl, hg73⟩ := hg73
        refine blkQ_h (gcQ_n hg73 (gcQ_n (gc_to [] (e := []) (ts := []) (n := 0) rfl rfl rfl rfl) (seqQ_n (?_))))
        refine wp_seq ?_
        refine wp_reg (nx' := 16) rfl (ev_den (.vw _ _) rfl rfl (ev_nil)) (seqQ_n (?_))
        cases h
        exact wp_ret (qf_r ((outs_ok (vs := [(.vw _ _)]) rfl (absW_cons rfl rfl (absW_nil)) rfl rfl)))
      · obtain ⟨rfl, hg73⟩ := hg73
        cases h
        exact blkQ_r (gcQ_r (gcQ_r (seqQ_r (qf_r (hg73)))))
end Go.Proofs.Ytoeddkfbhjmbmaa.Ev.Q2
