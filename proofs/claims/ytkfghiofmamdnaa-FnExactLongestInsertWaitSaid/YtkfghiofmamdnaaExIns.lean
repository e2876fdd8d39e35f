/- The ticks at which cells are sent, of the program and of the reference: what the calls come to; no condition but what each theorem names. -/
import Derived.Test.YtkfghiofmamdnaaExDoneB
namespace Go.Proofs.Ytkfghiofmamdnaa.PA
open Go.RowKit Go.Proofs.YtkfghiofmamdnaaW.PrintWords Go.Proofs.YtkfghiofmamdnaaW.PrintLast Go.Proofs.YtkfghiofmamdnaaW.PrintMore
attribute [local go_sem] max2_int min2_int max_two min_two max_three min_three max_four min_four
set_option linter.unusedVariables false
set_option linter.unusedSimpArgs false
/-- What InsertedAt comes to, on both sides. -/
def insertedAtR (n room : Int) (ow : Bool) (ms : List S60) : List Int × Bool :=
  if Ins.okI n room ms = true then ((Ins.stAt n.toNat room ow ms (Ins.doneN n.toNat room ow ms)).ins, true) else ([], false)
def impl_InsertedAt.f (n room : Int) (ow : Bool) (ms : List S60) : Option (List Int × Bool) := if ms.length < 4611686018427387904 then some (insertedAtR n room ow ms) else none
def spec_InsertedAt.f (n room : Int) (ow : Bool) (ms : List S60) : Option (List Int × Bool) := if ms.length < 4611686018427387904 then some (insertedAtR n room ow ms) else none
set_option maxHeartbeats 2000000 in
set_option maxRecDepth 100000 in
theorem impl_InsertedAt.calls (n room : Int) (ow : Bool) (A1 : Option Addr) (c1 : Nat) (ms : List S60) (r1 : List Int) (r2 : Bool) (w : World) (hr1 : Kd.C k60 w A1 ms.length ms) (hc1 : ms.length ≤ c1) (h : impl_InsertedAt.f n room ow ms = some (r1, r2)) :
    Calls Try.prog 39 #[.agg #[.int .i64 n, .int .i64 room, .bool ow], .slice A1 ms.length c1] w fun e w' => ∃ v0_ : Value, e = .returned (.tuple #[v0_, .bool r2]) ∧ Kd.R (Kd.int .i64) 3 w' w.heap.size (fun _ => True) v0_ r1 ∧ Below w.heap.size w w' := by
  have hlen : ms.length < 4611686018427387904 := by
    by_cases hl : ms.length < 4611686018427387904
    · exact hl
    · simp [impl_InsertedAt.f, hl] at h
  rw [impl_InsertedAt.f, if_pos hlen, insertedAtR] at h
  have h1 := Ins.isInserted_tells n room ow ms hlen
  have HC := Aside0.mk hr1
  have Hc := Aside0.mk hc1
  clear hr1 hc1 hlen
  have hok : Ins.okI n room ms = true → 2 ≤ n ∧ n ≤ 12 := fun h => (Ins.okI_facts h).1
  have Hb : Aside0 (Ins.okI n room ms = Ins.okI n room ms) := ⟨rfl⟩
  generalize hbb : Ins.okI n room ms = b1 at h h1 hok
  have HT1 := Aside0.mk h1
  clear h1 Hb
  cases b1 with
  | false =>
    rw [if_neg (by simp)] at h
    simp only [Option.some.injEq, Prod.mk.injEq] at h
    obtain ⟨rfl, rfl⟩ := h
    clear hok hbb
    go_enter Try.func39, Try.ntmps39
    go_wp2_with (first
      | ((with_reducible refine gate_dst (N := 2) rfl ?_); refine box_event ?hg (N := 2) ?hd (cs := #[.int .i64 n, .int .i64 room, .bool ow]) (t := 28) ?hr ?_; (case hd => rfl); (case hg => rfl); (case hr => first | (go_simp; done) | (go_simp; rfl)); intro gb hgb w1 hbox hb; have HB1 := Aside0.mk hb; have x0 : w1.cell? ⟨gb, 0, none⟩ = some (.int .i64 n) := (blk_cell hbox 0).trans rfl; have x1 : w1.cell? ⟨gb, 1, none⟩ = some (.int .i64 room) := (blk_cell hbox 1).trans rfl; have x2 : w1.cell? ⟨gb, 2, none⟩ = some (.bool ow) := (blk_cell hbox 2).trans rfl; have Hbx := Aside0.mk hbox; clear hb hbox hgb)
      | (go_at_call 63; (refine (impl_isInserted.calls _ n room ow A1 c1 ms _ w1 (Kd.C_below HC.out HB1.out) Hc.out HT1.out).mono ?_); rintro e w2 ⟨rfl, hb2⟩; have HB2 := Aside0.mk hb2; have x3 := pw_cell_below hb2 x0; have x4 := pw_cell_below hb2 x1; have x5 := pw_cell_below hb2 x2; clear hb2))
    go_ret2
    exact ⟨_, rfl, Kd.R_nil _ _ _ _ _, (by repeat (first | exact below_then HB1.out HB1.out.size HB2.out | apply pw_below_drewN | apply below_drew))⟩
  | true =>
    have hn := hok rfl
    have Hb := Aside0.mk hbb
    rw [if_pos rfl] at h
    simp only [Option.some.injEq, Prod.mk.injEq] at h
    obtain ⟨rfl, rfl⟩ := h
    clear hok hbb
    obtain ⟨N, rfl⟩ : ∃ N : Nat, n = (N : Int) := ⟨n.toNat, by omega⟩
    simp only [Int.toNat_natCast]
    have hgd := Aside0.mk (Ins.good_of Hb.out)
    clear hn
    generalize hst : Ins.stAt N room ow ms (Ins.doneN N room ow ms) = st
    have Hst := Aside0.mk hst
    clear hst
    go_enter Try.func39, Try.ntmps39
    go_wp2_with (first
      | ((with_reducible refine gate_dst (N := 2) rfl ?_); refine box_event ?hg (N := 2) ?hd (cs := #[.int .i64 (N : Int), .int .i64 room, .bool ow]) (t := 28) ?hr ?_; (case hd => rfl); (case hg => rfl); (case hr => first | (go_simp; done) | (go_simp; rfl)); intro gb hgb w1 hbox hb; have HB1 := Aside0.mk hb; have x0 : w1.cell? ⟨gb, 0, none⟩ = some (.int .i64 (N : Int)) := (blk_cell hbox 0).trans rfl; have x1 : w1.cell? ⟨gb, 1, none⟩ = some (.int .i64 room) := (blk_cell hbox 1).trans rfl; have x2 : w1.cell? ⟨gb, 2, none⟩ = some (.bool ow) := (blk_cell hbox 2).trans rfl; have Hbx := Aside0.mk hbox; clear hb hbox hgb)
      | (go_at_call 63; (refine (impl_isInserted.calls _ (N : Int) room ow A1 c1 ms _ w1 (Kd.C_below HC.out HB1.out) Hc.out HT1.out).mono ?_); rintro e w2 ⟨rfl, hb2⟩; have HB2 := Aside0.mk hb2; have x3 := pw_cell_below hb2 x0; have x4 := pw_cell_below hb2 x1; have x5 := pw_cell_below hb2 x2; clear hb2)
      | (go_at_call 70; (refine (Ins.endI_calls _ N room ow A1 c1 ms hgd.out (Kd.C_below HC.out (by repeat (first | exact below_then HB1.out HB1.out.size HB2.out | apply pw_below_drewN | apply below_drew))) Hc.out).mono ?_); rintro e w3 ⟨w0, hb0, g, gB, cB, vL, vI, vR, rfl, h, hbl⟩; rw [Hst.out] at h; have HI := Aside0.mk h; have Hb0 := Aside0.mk (show Below w.heap.size w w0 from Ins.below_chain3 (by repeat (first | exact below_then HB1.out HB1.out.size HB2.out | apply pw_below_drewN | apply below_drew)) hb0); have Hbl := Aside0.mk h.below; clear h hb0 hbl; obtain ⟨AL, cL, rfl, y6, hLr⟩ := HI.out.ins_row; have HLr := Aside0.mk hLr; clear hLr))
    go_ret2
    exact ⟨_, rfl, by repeat (first | exact Kd.R_lower HLr.out Hb0.out.size | apply Kd.R_drewN | apply Kd.R_drew), by repeat (first | exact Ins.below_chain3 Hb0.out Hbl.out | apply pw_below_drewN | apply below_drew)⟩
set_option maxHeartbeats 2000000 in
set_option maxRecDepth 100000 in
theorem spec_InsertedAt.calls (n room : Int) (ow : Bool) (A1 : Option Addr) (c1 : Nat) (ms : List S60) (r1 : List Int) (r2 : Bool) (w : World) (hr1 : Kd.C k60 w A1 ms.length ms) (hc1 : ms.length ≤ c1) (h : spec_InsertedAt.f n room ow ms = some (r1, r2)) :
    Calls Try.prog 38 #[.agg #[.int .i64 n, .int .i64 room, .bool ow], .slice A1 ms.length c1] w fun e w' => ∃ v0_ : Value, e = .returned (.tuple #[v0_, .bool r2]) ∧ Kd.R (Kd.int .i64) 3 w' w.heap.size (fun _ => True) v0_ r1 ∧ Below w.heap.size w w' := by
  have hlen : ms.length < 4611686018427387904 := by
    by_cases hl : ms.length < 4611686018427387904
    · exact hl
    · simp [spec_InsertedAt.f, hl] at h
  rw [spec_InsertedAt.f, if_pos hlen, insertedAtR] at h
  have h1 := Ins.inAll_tells n room ow ms hlen
  have HC := Aside0.mk hr1
  have Hc := Aside0.mk hc1
  clear hr1 hc1 hlen
  have hok : Ins.okI n room ms = true → 2 ≤ n ∧ n ≤ 12 := fun h => (Ins.okI_facts h).1
  have Hb : Aside0 (Ins.okI n room ms = Ins.okI n room ms) := ⟨rfl⟩
  generalize hbb : Ins.okI n room ms = b1 at h h1 hok
  have HT1 := Aside0.mk h1
  clear h1 Hb
  cases b1 with
  | false =>
    rw [if_neg (by simp)] at h
    simp only [Option.some.injEq, Prod.mk.injEq] at h
    obtain ⟨rfl, rfl⟩ := h
    clear hok hbb
    go_enter Try.func38, Try.ntmps38
    go_wp2_with (first
      | ((with_reducible refine gate_dst (N := 2) rfl ?_); refine box_event ?hg (N := 2) ?hd (cs := #[.int .i64 n, .int .i64 room, .bool ow]) (t := 28) ?hr ?_; (case hd => rfl); (case hg => rfl); (case hr => first | (go_simp; done) | (go_simp; rfl)); intro gb hgb w1 hbox hb; have HB1 := Aside0.mk hb; have x0 : w1.cell? ⟨gb, 0, none⟩ = some (.int .i64 n) := (blk_cell hbox 0).trans rfl; have x1 : w1.cell? ⟨gb, 1, none⟩ = some (.int .i64 room) := (blk_cell hbox 1).trans rfl; have x2 : w1.cell? ⟨gb, 2, none⟩ = some (.bool ow) := (blk_cell hbox 2).trans rfl; have Hbx := Aside0.mk hbox; clear hb hbox hgb)
      | (go_at_call 58; (refine (spec_inAll.calls _ n room ow A1 c1 ms _ w1 (Kd.C_below HC.out HB1.out) Hc.out HT1.out).mono ?_); rintro e w2 ⟨rfl, hb2⟩; have HB2 := Aside0.mk hb2; have x3 := pw_cell_below hb2 x0; have x4 := pw_cell_below hb2 x1; have x5 := pw_cell_below hb2 x2; clear hb2))
    go_ret2
    exact ⟨_, rfl, Kd.R_nil _ _ _ _ _, (by repeat (first | exact below_then HB1.out HB1.out.size HB2.out | apply pw_below_drewN | apply below_drew))⟩
  | true =>
    have hn := hok rfl
    have Hb := Aside0.mk hbb
    rw [if_pos rfl] at h
    simp only [Option.some.injEq, Prod.mk.injEq] at h
    obtain ⟨rfl, rfl⟩ := h
    clear hok hbb
    obtain ⟨N, rfl⟩ : ∃ N : Nat, n = (N : Int) := ⟨n.toNat, by omega⟩
    simp only [Int.toNat_natCast]
    have hgd := Aside0.mk (Ins.good_of Hb.out)
    clear hn
    generalize hst : Ins.stAt N room ow ms (Ins.doneN N room ow ms) = st
    have Hst := Aside0.mk hst
    clear hst
    go_enter Try.func38, Try.ntmps38
    go_wp2_with (first
      | ((with_reducible refine gate_dst (N := 2) rfl ?_); refine box_event ?hg (N := 2) ?hd (cs := #[.int .i64 (N : Int), .int .i64 room, .bool ow]) (t := 28) ?hr ?_; (case hd => rfl); (case hg => rfl); (case hr => first | (go_simp; done) | (go_simp; rfl)); intro gb hgb w1 hbox hb; have HB1 := Aside0.mk hb; have x0 : w1.cell? ⟨gb, 0, none⟩ = some (.int .i64 (N : Int)) := (blk_cell hbox 0).trans rfl; have x1 : w1.cell? ⟨gb, 1, none⟩ = some (.int .i64 room) := (blk_cell hbox 1).trans rfl; have x2 : w1.cell? ⟨gb, 2, none⟩ = some (.bool ow) := (blk_cell hbox 2).trans rfl; have Hbx := Aside0.mk hbox; clear hb hbox hgb)
      | (go_at_call 58; (refine (spec_inAll.calls _ (N : Int) room ow A1 c1 ms _ w1 (Kd.C_below HC.out HB1.out) Hc.out HT1.out).mono ?_); rintro e w2 ⟨rfl, hb2⟩; have HB2 := Aside0.mk hb2; have x3 := pw_cell_below hb2 x0; have x4 := pw_cell_below hb2 x1; have x5 := pw_cell_below hb2 x2; clear hb2)
      | (go_at_call 69; (refine (Ins.endS_calls _ N room ow A1 c1 ms hgd.out (Kd.C_below HC.out (by repeat (first | exact below_then HB1.out HB1.out.size HB2.out | apply pw_below_drewN | apply below_drew))) Hc.out).mono ?_); rintro e w3 ⟨w0, hb0, g, gB, cB, vL, vI, vR, vX, rfl, h⟩; rw [Hst.out] at h; have HI := Aside0.mk h; have Hb0 := Aside0.mk (show Below w.heap.size w w0 from Ins.below_chain3 (by repeat (first | exact below_then HB1.out HB1.out.size HB2.out | apply pw_below_drewN | apply below_drew)) hb0); have Hbl := Aside0.mk h.below; clear h hb0; obtain ⟨AL, cL, rfl, y6, hLr⟩ := HI.out.ins_row; have HLr := Aside0.mk hLr; clear hLr))
    go_ret2
    exact ⟨_, rfl, by repeat (first | exact Kd.R_lower HLr.out Hb0.out.size | apply Kd.R_drewN | apply Kd.R_drew), by repeat (first | exact Ins.below_chain3 Hb0.out Hbl.out | apply pw_below_drewN | apply below_drew)⟩
end Go.Proofs.Ytkfghiofmamdnaa.PA
