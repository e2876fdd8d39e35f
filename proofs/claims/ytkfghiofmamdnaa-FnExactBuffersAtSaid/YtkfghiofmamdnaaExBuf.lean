/- The cells in the buffers behind a tick, on both sides: what the calls come to; no condition but what each theorem names. -/
import Derived.Test.YtkfghiofmamdnaaExDoneB
import Derived.Test.YtkfghiofmamdnaaExLinks
namespace Go.Proofs.Ytkfghiofmamdnaa.PA
open Go.RowKit Go.Proofs.YtkfghiofmamdnaaW.PrintWords Go.Proofs.YtkfghiofmamdnaaW.PrintLast Go.Proofs.YtkfghiofmamdnaaW.PrintMore
attribute [local go_sem] max2_int min2_int max_two min_two max_three min_three max_four min_four
set_option linter.unusedVariables false
set_option linter.unusedSimpArgs false
namespace Ins
theorem core_rows {w0 w : World} {f : Nat → Nat} {g gB : Nat} {cur : Array Value} {vL vI vR : Value} {st : St} (h : Core w0 w f g gB cur vL vI vR st) (o : Nat) (ho : o < st.buf.length) :
    ∃ A c, w.cell? ⟨gB, o, none⟩ = some (.slice A (st.buf.getD o []).length c) ∧ (st.buf.getD o []).length ≤ c ∧ Kd.C (Kd.int .i64) w A (st.buf.getD o []).length (st.buf.getD o []) := by
  have hoc : o < cur.size := by rw [h.len]; exact ho
  have hQ := h.buf o cur[o] st.buf[o] (Array.getElem?_eq_getElem hoc) (List.getElem?_eq_getElem ho)
  obtain ⟨Au, cu, eu, hcu⟩ := Kd.Q_slice hQ
  refine ⟨Au, cu, ?_⟩
  rw [show st.buf.getD o [] = st.buf[o] by simp [List.getD_eq_getElem?_getD, List.getElem?_eq_getElem ho]]
  rw [eu] at hQ
  refine ⟨?_, hcu, (Kd.Q_reads' hQ).2.2⟩
  rw [← eu]
  exact (blk_cell h.blk o).trans (Array.getElem?_eq_getElem hoc)
theorem core_reads {w0 w : World} {f : Nat → Nat} {g gB : Nat} {cur : Array Value} {vL vI vR : Value} {st : St} (h : Core w0 w f g gB cur vL vI vR st) (hl : st.buf.length ≤ 100) : Kd.C (Kd.slice 3 (Kd.int .i64)) w (some ⟨gB, 0, none⟩) st.buf.length st.buf := by
  refine ⟨rfl, by omega, fun _ => ⟨_, rfl, fun j p hj => ?_⟩⟩
  obtain ⟨hlt, hp⟩ := List.getElem?_eq_some_iff.1 hj
  obtain ⟨A, c, h1, h2, h3⟩ := core_rows h j hlt
  have e : st.buf.getD j [] = p := by simp [List.getD_eq_getElem?_getD, List.getElem?_eq_getElem hlt, hp]
  rw [e] at h1 h2 h3
  refine ⟨[.slice A p.length c], rfl, ⟨A, c, rfl, h2, h3⟩, fun i u hu => ?_⟩
  match i, hu with
  | 0, hu =>
    obtain rfl := Option.some.inj hu
    have e1 : j * (Kd.slice 3 (Kd.int .i64)).sz + 0 = j := by show j * 1 + 0 = j; omega
    rw [e1, add_plain]
    exact h1
  | i + 1, hu => simp at hu
theorem Is66.buf_reads {w0 w : World} {g gB cB : Nat} {vL vI vR vX : Value} {A : Option Addr} {c : Nat} {n room : Int} {ow : Bool} {ms : List S60} {st : St} (h : Is66 w0 w g gB cB vL vI vR vX A c n room ow ms st) (hl : st.buf.length ≤ 100) :
    w.cell? ⟨g, 4, none⟩ = some (.slice (some ⟨gB, 0, none⟩) st.buf.length cB) ∧ Kd.C (Kd.slice 3 (Kd.int .i64)) w (some ⟨gB, 0, none⟩) st.buf.length st.buf := by
  obtain ⟨f, cur, HC, HX, HG, HM, hc⟩ := h
  exact ⟨(blk_cell HG 4).trans rfl, core_reads HC hl⟩
theorem Is74.buf_rows {w0 w : World} {g gB cB : Nat} {vL vI vR : Value} {A : Option Addr} {c : Nat} {n room : Int} {ow : Bool} {ms : List S60} {t : Int} {st : St} (h : Is74 w0 w g gB cB vL vI vR A c n room ow ms t st) :
    w.cell? ⟨g, 5, none⟩ = some (.slice (some ⟨gB, 0, none⟩) st.buf.length cB) ∧ w0.heap.size ≤ gB ∧ ∀ o : Nat, o < st.buf.length → ∃ v, w.cell? ⟨gB, o, none⟩ = some v ∧ Kd.Q (Kd.int .i64) 3 w w0.heap.size (fun k => w0.heap.size ≤ k) v (st.buf.getD o []) := by
  obtain ⟨f, cur, HC, HG, HM, hc⟩ := h
  refine ⟨(blk_cell HG 5).trans rfl, HC.gB0, fun o ho => ?_⟩
  have hoc : o < cur.size := by rw [HC.len]; exact ho
  have hQ := HC.buf o cur[o] st.buf[o] (Array.getElem?_eq_getElem hoc) (List.getElem?_eq_getElem ho)
  rw [show st.buf.getD o [] = st.buf[o] by simp [List.getD_eq_getElem?_getD, List.getElem?_eq_getElem ho]]
  exact ⟨_, (blk_cell HC.blk o).trans (Array.getElem?_eq_getElem hoc), Kd.Q_mono (Kd.Q_bound hQ) (fun k hk => hk.2.1)⟩
/-- A row cloned, empty or not. -/
theorem clone_any (A : Option Addr) (c : Nat) (l : List Int) (w : World) (hC : Kd.C (Kd.int .i64) w A l.length l) (hc : l.length ≤ c) (hl : l.length ≤ 1000000) :
    Calls Try.prog 75 #[.slice A l.length c] w fun e w' => ∃ v0_ : Value, e = .returned v0_ ∧ Kd.R (Kd.int .i64) 3 w' w.heap.size (fun _ => True) v0_ l ∧ Below w.heap.size w w' := by
  cases A with
  | some ad =>
    refine slices_Clone_.calls ad c l l w hC hc ?_
    unfold slices_Clone_.f
    simp only [Option.bind_some, List.length_nil, Nat.zero_add, List.nil_append]
    rw [if_pos (by omega)]
  | none =>
    have h0 : l = [] := by
      cases l with
      | nil => rfl
      | cons x l =>
        obtain ⟨ad, e, _⟩ := hC.2.2 (by simp)
        cases e
    subst h0
    have hnil := fun (W : World) => fun (n c' : Nat) => Lib.run_eql_slice_nil (P := Try.prog) W _ _ none 0 c n c' Try.underlying38
    clear hC hc hl
    show Calls Try.prog 75 #[.slice none 0 c] w _
    go_enter Try.func75, Try.ntmps75
    go_wp2
    go_ret
    exact ⟨_, rfl, Kd.R_nil _ _ _ _ _, Below.refl _ _⟩
end Ins
/-- What BuffersAt comes to, on both sides. -/
def buffersAtR (n room : Int) (ow : Bool) (ms : List S60) (t : Int) : List (List Int) × Bool :=
  if (Ins.okI n room ms && inB 0 600 t) = true then ((Ins.stAt n.toNat room ow ms (t.toNat + 1)).buf, true) else ([], false)
def impl_BuffersAt.f (n room : Int) (ow : Bool) (ms : List S60) (t : Int) : Option (List (List Int) × Bool) := if ms.length < 4611686018427387904 then some (buffersAtR n room ow ms t) else none
def spec_BuffersAt.f (n room : Int) (ow : Bool) (ms : List S60) (t : Int) : Option (List (List Int) × Bool) := if ms.length < 4611686018427387904 then some (buffersAtR n room ow ms t) else none
set_option maxHeartbeats 4000000 in
set_option maxRecDepth 100000 in
theorem spec_BuffersAt.calls (n room : Int) (ow : Bool) (A1 : Option Addr) (c1 : Nat) (ms : List S60) (t : Int) (r1 : List (List Int)) (r2 : Bool) (w : World) (hr1 : Kd.C k60 w A1 ms.length ms) (hc1 : ms.length ≤ c1) (h : spec_BuffersAt.f n room ow ms t = some (r1, r2)) :
    Calls Try.prog 42 #[.agg #[.int .i64 n, .int .i64 room, .bool ow], .slice A1 ms.length c1, .int .i64 t] w fun e w' => ∃ A_ c_, e = .returned (.tuple #[.slice A_ r1.length c_, .bool r2]) ∧ r1.length ≤ c_ ∧ Kd.C (Kd.slice 3 (Kd.int .i64)) w' A_ r1.length r1 ∧ Below w.heap.size w w' := by
  have hlen : ms.length < 4611686018427387904 := by
    by_cases hl : ms.length < 4611686018427387904
    · exact hl
    · simp [spec_BuffersAt.f, hl] at h
  rw [spec_BuffersAt.f, if_pos hlen, buffersAtR] at h
  have h1 := Ins.inAll_tells n room ow ms hlen
  have h3 := (Ins.tick_tells t).2
  have HC := Aside0.mk hr1
  have Hc := Aside0.mk hc1
  clear hr1 hc1 hlen
  have hok : Ins.okI n room ms = true → 2 ≤ n ∧ n ≤ 12 ∧ 1 ≤ room ∧ ms.length ≤ 20 := fun h => by have := Ins.okI_facts h; exact ⟨this.1.1, this.1.2, this.2.1.1, this.2.2.1⟩
  have hgood : Ins.okI n room ms = true → Aside0 (Ins.Good n.toNat room ms) := fun h => ⟨Ins.good_of (by have := (Ins.okI_facts h).1; rw [Int.toNat_of_nonneg (by omega)]; exact h)⟩
  generalize Ins.okI n room ms = b1 at *
  have hit : inB 0 600 t = true → 0 ≤ t ∧ t ≤ 600 := fun h => by simpa [inB] using h
  generalize inB 0 600 t = b3 at *
  have HT1 := Aside0.mk h1
  have HT3 := Aside0.mk h3
  clear h1 h3
  cases b1 with
  | false =>
    rw [if_neg (by simp)] at h
    simp only [Option.some.injEq, Prod.mk.injEq] at h
    obtain ⟨rfl, rfl⟩ := h
    clear hok hit hgood
    go_enter Try.func42, Try.ntmps42
    go_wp2_with (first
      | ((with_reducible refine gate_dst (N := 3) rfl ?_); refine box_event ?hg (N := 3) ?hd (cs := #[.int .i64 n, .int .i64 room, .bool ow]) (t := 28) ?hr ?_; (case hd => rfl); (case hg => rfl); (case hr => first | (go_simp; done) | (go_simp; rfl)); intro gb hgb w1 hbox hb; have HB1 := Aside0.mk hb; have x0 : w1.cell? ⟨gb, 0, none⟩ = some (.int .i64 n) := (blk_cell hbox 0).trans rfl; have x1 : w1.cell? ⟨gb, 1, none⟩ = some (.int .i64 room) := (blk_cell hbox 1).trans rfl; have x2 : w1.cell? ⟨gb, 2, none⟩ = some (.bool ow) := (blk_cell hbox 2).trans rfl; have Hbx := Aside0.mk hbox; clear hb hbox hgb)
      | (go_at_call 58; (refine (spec_inAll.calls _ n room ow A1 c1 ms _ w1 (Kd.C_below HC.out HB1.out) Hc.out HT1.out).mono ?_); rintro e w2 ⟨rfl, hb2⟩; have HB2 := Aside0.mk hb2; have x3 := pw_cell_below hb2 x0; have x4 := pw_cell_below hb2 x1; have x5 := pw_cell_below hb2 x2; clear hb2)
      | (go_at_call 60; (refine (spec_inTick.calls t _ _ HT3.out).mono ?_); rintro e w' ⟨rfl, ⟨nd3, rfl⟩⟩))
    go_ret2
    exact ⟨none, 0, rfl, Nat.le_refl _, Kd.C_nil _ _, (by repeat (first | exact below_then HB1.out HB1.out.size HB2.out | apply pw_below_drewN | apply below_drew))⟩
  | true =>
    obtain ⟨hn0, hn1, hr, hM⟩ := hok rfl
    have hgd := hgood rfl
    cases b3 with
    | false =>
      rw [if_neg (by simp)] at h
      simp only [Option.some.injEq, Prod.mk.injEq] at h
      obtain ⟨rfl, rfl⟩ := h
      clear hok hit hgood hn0 hn1 hgd hr hM
      go_enter Try.func42, Try.ntmps42
      go_wp2_with (first
        | ((with_reducible refine gate_dst (N := 3) rfl ?_); refine box_event ?hg (N := 3) ?hd (cs := #[.int .i64 n, .int .i64 room, .bool ow]) (t := 28) ?hr ?_; (case hd => rfl); (case hg => rfl); (case hr => first | (go_simp; done) | (go_simp; rfl)); intro gb hgb w1 hbox hb; have HB1 := Aside0.mk hb; have x0 : w1.cell? ⟨gb, 0, none⟩ = some (.int .i64 n) := (blk_cell hbox 0).trans rfl; have x1 : w1.cell? ⟨gb, 1, none⟩ = some (.int .i64 room) := (blk_cell hbox 1).trans rfl; have x2 : w1.cell? ⟨gb, 2, none⟩ = some (.bool ow) := (blk_cell hbox 2).trans rfl; have Hbx := Aside0.mk hbox; clear hb hbox hgb)
        | (go_at_call 58; (refine (spec_inAll.calls _ n room ow A1 c1 ms _ w1 (Kd.C_below HC.out HB1.out) Hc.out HT1.out).mono ?_); rintro e w2 ⟨rfl, hb2⟩; have HB2 := Aside0.mk hb2; have x3 := pw_cell_below hb2 x0; have x4 := pw_cell_below hb2 x1; have x5 := pw_cell_below hb2 x2; clear hb2)
        | (go_at_call 60; (refine (spec_inTick.calls t _ _ HT3.out).mono ?_); rintro e w' ⟨rfl, ⟨nd3, rfl⟩⟩))
      go_ret2
      exact ⟨none, 0, rfl, Nat.le_refl _, Kd.C_nil _ _, (by repeat (first | exact below_then HB1.out HB1.out.size HB2.out | apply pw_below_drewN | apply below_drew))⟩
    | true =>
      have ht := hit rfl
      rw [if_pos (by simp)] at h
      simp only [Option.some.injEq, Prod.mk.injEq] at h
      obtain ⟨rfl, rfl⟩ := h
      clear hok hit hgood
      obtain ⟨N, rfl⟩ : ∃ N : Nat, n = (N : Int) := ⟨n.toNat, by omega⟩
      obtain ⟨T, rfl⟩ : ∃ T : Nat, t = (T : Int) := ⟨t.toNat, by omega⟩
      simp only [Int.toNat_natCast] at hgd ⊢
      have HM := Aside0.mk hM
      have HR := Aside0.mk hr
      have hN2 := Aside0.mk (show 2 ≤ N ∧ N ≤ 12 by omega)
      have hT600 : (T : Int) ≤ 600 := by omega
      have hTn := Aside0.mk (show T ≤ 600 by omega)
      have hTn' := Aside0.mk (show T + 1 ≤ 9000 by omega)
      have e1 : IntKind.i64.wrap ((T : Int) + 1) = ((T + 1 : Nat) : Int) := (IntWalk.i64_in _ (by omega)).trans (by omega)
      clear hn0 hn1 ht hM hr
      have hlen : (Ins.stAt N room ow ms (T + 1)).buf.length ≤ 100 ∧ (Ins.stAt N room ow ms (T + 1)).buf.length = N := by
        have hw := Ins.stAt_wf room ow hN2.out.1 hN2.out.2 HM.out (T + 1) (by have := hTn.out; omega)
        have := hw.buf
        have := hw.n1
        omega
      generalize hst : Ins.stAt N room ow ms (T + 1) = st at *
      have Hst := Aside0.mk hst
      have Hlen := Aside0.mk hlen
      clear hst hlen
      go_enter Try.func42, Try.ntmps42
      go_wp2_with (first
        | ((with_reducible refine gate_dst (N := 3) rfl ?_); refine box_event ?hg (N := 3) ?hd (cs := #[.int .i64 (N : Int), .int .i64 room, .bool ow]) (t := 28) ?hr ?_; (case hd => rfl); (case hg => rfl); (case hr => first | (go_simp; done) | (go_simp; rfl)); intro gb hgb w1 hbox hb; have HB1 := Aside0.mk hb; have x0 : w1.cell? ⟨gb, 0, none⟩ = some (.int .i64 (N : Int)) := (blk_cell hbox 0).trans rfl; have x1 : w1.cell? ⟨gb, 1, none⟩ = some (.int .i64 room) := (blk_cell hbox 1).trans rfl; have x2 : w1.cell? ⟨gb, 2, none⟩ = some (.bool ow) := (blk_cell hbox 2).trans rfl; have Hbx := Aside0.mk hbox; clear hb hbox hgb)
        | (go_at_call 58; (refine (spec_inAll.calls _ (N : Int) room ow A1 c1 ms _ w1 (Kd.C_below HC.out HB1.out) Hc.out HT1.out).mono ?_); rintro e w2 ⟨rfl, hb2⟩; have HB2 := Aside0.mk hb2; have x3 := pw_cell_below hb2 x0; have x4 := pw_cell_below hb2 x1; have x5 := pw_cell_below hb2 x2; clear hb2)
        | (go_at_call 60; (refine (spec_inTick.calls (T : Int) _ _ HT3.out).mono ?_); rintro e w' ⟨rfl, ⟨nd3, rfl⟩⟩)
        | (go_at_call 61; (refine (Ins.inEnd_calls _ N room ow A1 c1 ms (T + 1) hN2.out.1 hN2.out.2 HR.out HM.out (Kd.C_below HC.out (by repeat (first | exact below_then HB1.out HB1.out.size HB2.out | apply pw_below_drewN | apply below_drew))) Hc.out hTn'.out).mono ?_); rintro e w3 ⟨w0, hb0, g, gB, cB, vL, vI, vR, vX, rfl, h, hcB⟩; rw [Hst.out] at h; obtain ⟨y4, hrd⟩ := h.buf_reads Hlen.out.1; have Hrd := Aside0.mk hrd; have Hb3 := Aside0.mk (Ins.below_chain3 (show Below w.heap.size w w0 from Ins.below_chain3 (by repeat (first | exact below_then HB1.out HB1.out.size HB2.out | apply pw_below_drewN | apply below_drew)) hb0) h.below); have Hcp := Aside0.mk (show st.buf.length ≤ cB from by have := Hlen.out.2; omega); clear h hb0 hrd hcB))
      go_ret2
      exact ⟨_, _, rfl, Hcp.out, by (repeat (first | exact Hrd.out | refine Kd.C_below ?_ (pw_below_drewN (Below.refl _ _) _))), by repeat (first | exact Hb3.out | apply pw_below_drewN | apply below_drew)⟩
set_option maxHeartbeats 4000000 in
set_option maxRecDepth 100000 in
theorem impl_BuffersAt.calls (n room : Int) (ow : Bool) (A1 : Option Addr) (c1 : Nat) (ms : List S60) (t : Int) (r1 : List (List Int)) (r2 : Bool) (w : World) (hr1 : Kd.C k60 w A1 ms.length ms) (hc1 : ms.length ≤ c1) (h : impl_BuffersAt.f n room ow ms t = some (r1, r2)) :
    Calls Try.prog 43 #[.agg #[.int .i64 n, .int .i64 room, .bool ow], .slice A1 ms.length c1, .int .i64 t] w fun e w' => ∃ v0_ : Value, e = .returned (.tuple #[v0_, .bool r2]) ∧ Kd.S (Kd.slice 3 (Kd.int .i64)) 38 w' w.heap.size (fun _ => True) v0_ r1 ∧ Below w.heap.size w w' := by
  have hlen : ms.length < 4611686018427387904 := by
    by_cases hl : ms.length < 4611686018427387904
    · exact hl
    · simp [impl_BuffersAt.f, hl] at h
  rw [impl_BuffersAt.f, if_pos hlen, buffersAtR] at h
  have h1 := Ins.isInserted_tells n room ow ms hlen
  have h3 := (Ins.tick_tells t).1
  have HC := Aside0.mk hr1
  have Hc := Aside0.mk hc1
  clear hr1 hc1 hlen
  have hok : Ins.okI n room ms = true → 2 ≤ n ∧ n ≤ 12 ∧ 1 ≤ room ∧ ms.length ≤ 20 := fun h => by have := Ins.okI_facts h; exact ⟨this.1.1, this.1.2, this.2.1.1, this.2.2.1⟩
  have hgood : Ins.okI n room ms = true → Aside0 (Ins.Good n.toNat room ms) := fun h => ⟨Ins.good_of (by have := (Ins.okI_facts h).1; rw [Int.toNat_of_nonneg (by omega)]; exact h)⟩
  generalize Ins.okI n room ms = b1 at *
  have hit : inB 0 600 t = true → 0 ≤ t ∧ t ≤ 600 := fun h => by simpa [inB] using h
  generalize inB 0 600 t = b3 at *
  have HT1 := Aside0.mk h1
  have HT3 := Aside0.mk h3
  clear h1 h3
  cases b1 with
  | false =>
    rw [if_neg (by simp)] at h
    simp only [Option.some.injEq, Prod.mk.injEq] at h
    obtain ⟨rfl, rfl⟩ := h
    clear hok hit hgood
    go_enter Try.func43, Try.ntmps43
    go_wp2_with (first
      | ((with_reducible refine gate_dst (N := 3) rfl ?_); refine box_event ?hg (N := 3) ?hd (cs := #[.int .i64 n, .int .i64 room, .bool ow]) (t := 28) ?hr ?_; (case hd => rfl); (case hg => rfl); (case hr => first | (go_simp; done) | (go_simp; rfl)); intro gb hgb w1 hbox hb; have HB1 := Aside0.mk hb; have x0 : w1.cell? ⟨gb, 0, none⟩ = some (.int .i64 n) := (blk_cell hbox 0).trans rfl; have x1 : w1.cell? ⟨gb, 1, none⟩ = some (.int .i64 room) := (blk_cell hbox 1).trans rfl; have x2 : w1.cell? ⟨gb, 2, none⟩ = some (.bool ow) := (blk_cell hbox 2).trans rfl; have Hbx := Aside0.mk hbox; clear hb hbox hgb)
      | (go_at_call 63; (refine (impl_isInserted.calls _ n room ow A1 c1 ms _ w1 (Kd.C_below HC.out HB1.out) Hc.out HT1.out).mono ?_); rintro e w2 ⟨rfl, hb2⟩; have HB2 := Aside0.mk hb2; have x3 := pw_cell_below hb2 x0; have x4 := pw_cell_below hb2 x1; have x5 := pw_cell_below hb2 x2; clear hb2)
      | (go_at_call 65; (refine (impl_isInsertTick.calls t _ _ HT3.out).mono ?_); rintro e w' ⟨rfl, ⟨nd3, rfl⟩⟩))
    go_ret2
    exact ⟨_, rfl, Kd.S_nil _ _ _ _ _, (by repeat (first | exact below_then HB1.out HB1.out.size HB2.out | apply pw_below_drewN | apply below_drew))⟩
  | true =>
    obtain ⟨hn0, hn1, hr, hM⟩ := hok rfl
    have hgd := hgood rfl
    cases b3 with
    | false =>
      rw [if_neg (by simp)] at h
      simp only [Option.some.injEq, Prod.mk.injEq] at h
      obtain ⟨rfl, rfl⟩ := h
      clear hok hit hgood hn0 hn1 hgd hr hM
      go_enter Try.func43, Try.ntmps43
      go_wp2_with (first
        | ((with_reducible refine gate_dst (N := 3) rfl ?_); refine box_event ?hg (N := 3) ?hd (cs := #[.int .i64 n, .int .i64 room, .bool ow]) (t := 28) ?hr ?_; (case hd => rfl); (case hg => rfl); (case hr => first | (go_simp; done) | (go_simp; rfl)); intro gb hgb w1 hbox hb; have HB1 := Aside0.mk hb; have x0 : w1.cell? ⟨gb, 0, none⟩ = some (.int .i64 n) := (blk_cell hbox 0).trans rfl; have x1 : w1.cell? ⟨gb, 1, none⟩ = some (.int .i64 room) := (blk_cell hbox 1).trans rfl; have x2 : w1.cell? ⟨gb, 2, none⟩ = some (.bool ow) := (blk_cell hbox 2).trans rfl; have Hbx := Aside0.mk hbox; clear hb hbox hgb)
        | (go_at_call 63; (refine (impl_isInserted.calls _ n room ow A1 c1 ms _ w1 (Kd.C_below HC.out HB1.out) Hc.out HT1.out).mono ?_); rintro e w2 ⟨rfl, hb2⟩; have HB2 := Aside0.mk hb2; have x3 := pw_cell_below hb2 x0; have x4 := pw_cell_below hb2 x1; have x5 := pw_cell_below hb2 x2; clear hb2)
        | (go_at_call 65; (refine (impl_isInsertTick.calls t _ _ HT3.out).mono ?_); rintro e w' ⟨rfl, ⟨nd3, rfl⟩⟩))
      go_ret2
      exact ⟨_, rfl, Kd.S_nil _ _ _ _ _, (by repeat (first | exact below_then HB1.out HB1.out.size HB2.out | apply pw_below_drewN | apply below_drew))⟩
    | true =>
      have ht := hit rfl
      rw [if_pos (by simp)] at h
      simp only [Option.some.injEq, Prod.mk.injEq] at h
      obtain ⟨rfl, rfl⟩ := h
      clear hok hit hgood
      obtain ⟨N, rfl⟩ : ∃ N : Nat, n = (N : Int) := ⟨n.toNat, by omega⟩
      obtain ⟨T, rfl⟩ : ∃ T : Nat, t = (T : Int) := ⟨t.toNat, by omega⟩
      simp only [Int.toNat_natCast] at hgd ⊢
      have HM := Aside0.mk hM
      have HR := Aside0.mk hr
      have hN2 := Aside0.mk (show 2 ≤ N ∧ N ≤ 12 by omega)
      have hT600 : (T : Int) ≤ 600 := by omega
      have hTn := Aside0.mk (show T ≤ 600 by omega)
      have hTn' := Aside0.mk (show T ≤ 8000 by omega)
      have e1 : IntKind.i64.wrap ((T : Int) + 1) = ((T + 1 : Nat) : Int) := (IntWalk.i64_in _ (by omega)).trans (by omega)
      clear hn0 hn1 ht hM hr
      clear e1
      generalize hst : Ins.stAt N room ow ms (T + 1) = st
      have hwf := Ins.stAt_wf room ow hN2.out.1 hN2.out.2 HM.out (T + 1) (by have := hTn.out; omega)
      rw [hst] at hwf
      have Hst := Aside0.mk hst
      have Hwf := Aside0.mk hwf
      clear hst hwf
      go_enter Try.func43, Try.ntmps43
      go_wp2_with (first
        | ((with_reducible refine gate_dst (N := 3) rfl ?_); refine box_event ?hg (N := 3) ?hd (cs := #[.int .i64 (N : Int), .int .i64 room, .bool ow]) (t := 28) ?hr ?_; (case hd => rfl); (case hg => rfl); (case hr => first | (go_simp; done) | (go_simp; rfl)); intro gb hgb w1 hbox hb; have HB1 := Aside0.mk hb; have x0 : w1.cell? ⟨gb, 0, none⟩ = some (.int .i64 (N : Int)) := (blk_cell hbox 0).trans rfl; have x1 : w1.cell? ⟨gb, 1, none⟩ = some (.int .i64 room) := (blk_cell hbox 1).trans rfl; have x2 : w1.cell? ⟨gb, 2, none⟩ = some (.bool ow) := (blk_cell hbox 2).trans rfl; have Hbx := Aside0.mk hbox; clear hb hbox hgb)
        | (go_at_call 63; (refine (impl_isInserted.calls _ (N : Int) room ow A1 c1 ms _ w1 (Kd.C_below HC.out HB1.out) Hc.out HT1.out).mono ?_); rintro e w2 ⟨rfl, hb2⟩; have HB2 := Aside0.mk hb2; have x3 := pw_cell_below hb2 x0; have x4 := pw_cell_below hb2 x1; have x5 := pw_cell_below hb2 x2; clear hb2)
        | (go_at_call 65; (refine (impl_isInsertTick.calls (T : Int) _ _ HT3.out).mono ?_); rintro e w' ⟨rfl, ⟨nd3, rfl⟩⟩)
        | ((with_reducible refine gate_dst (N := 20) rfl ?_); refine Kd.S_lit (Kd.slice 3 (Kd.int .i64)) (w0 := w2) w2.heap.size 38 ?hg (N := 20) ?hd (xs := ([] : List (List Int))) (inner := []) (ok := fun _ => True) (okp := fun _ => True) ?hr ?hp (fun _ hk => hk) trivial (by repeat (first | exact Below.refl _ _ | apply pw_below_drewN | apply below_drew)) (by simp) (by simp) ?_; (case hd => rfl); (case hg => rfl); (case hr => first | (go_simp; done) | (go_simp; rfl)); (case hp => exact (Reps.none _ _)); intro vO w3 ho3 hb3 hg3 hnew3; clear hg3 hnew3; have Hw2 := Aside0.mk (show Below w.heap.size w w2 from below_then HB1.out HB1.out.size HB2.out); have HO3 := Aside0.mk (Kd.S_bound ho3); have Hb3 := Aside0.mk hb3; have q0 := pw_cell_below hb3 x3; have q1 := pw_cell_below hb3 x4; have q2 := pw_cell_below hb3 x5; clear ho3 hb3)
        | (go_at_call 73; (refine (Ins.insertedAt_calls _ N room ow A1 c1 ms T hN2.out.1 hN2.out.2 HM.out (Kd.C_below HC.out (by repeat (first | exact Ins.below_chain3 Hw2.out Hb3.out | apply pw_below_drewN | apply below_drew))) Hc.out hTn'.out).mono ?_); rintro e w4 ⟨w0, hb0, g, gB, cB, vL, vI, vR, rfl, h, hbl⟩; rw [Hst.out] at h; have hq4 := Ins.below_chain3 (show Below w3.heap.size w3 w0 from Ins.below_chain3 (by repeat (first | exact Below.refl _ _ | apply pw_below_drewN | apply below_drew)) hb0) h.below; have H03 := Aside0.mk (show w3.heap.size ≤ w0.heap.size from hb0.size); have HI := Aside0.mk h.buf_rows.2; have y5 := h.buf_rows.1; have HB4 := Aside0.mk hq4; clear h hb0 hbl hq4))
      have hS0 := Aside0.mk (show Kd.S (Kd.slice 3 (Kd.int .i64)) 38 w4 w2.heap.size (fun k => k < w3.heap.size ∨ w4.heap.size ≤ k) vO ([] : List (List Int)) from Kd.S_below (Kd.S_mono HO3.out (fun k hk => .inl hk.2.2.1)) HB4.out)
      go_loopg [8, 29] (st.buf.length) (fun kq v8 v29 w' => ∃ j : Nat, v29 = .int .i64 j ∧ Aside0 (j + kq = st.buf.length) ∧ Aside0 (Kept w4 w' (fun k => w2.heap.size ≤ k ∧ k < w3.heap.size)) ∧ Aside0 (Below w2.heap.size w2 w') ∧ Aside0 (Kd.S (Kd.slice 3 (Kd.int .i64)) 38 w' w2.heap.size (fun k => k < w3.heap.size ∨ w4.heap.size ≤ k) v8 (st.buf.take j)))
      case atStart => exact ⟨0, rfl, ⟨by omega⟩, ⟨by repeat (first | exact Kept.refl _ _ | apply Kept.drewN | apply Kept.drew)⟩, ⟨by repeat (first | exact Ins.below_chain3 Hb3.out HB4.out | apply pw_below_drewN | apply below_drew)⟩, ⟨by (with_reducible repeat (first | apply Kd.S_drewN | apply Kd.S_drew)); rw [List.take_zero]; exact hS0.out⟩⟩
      case round =>
        clear hS0
        obtain ⟨j, rfl, HJ, HK, HW, HO⟩ := hrel
        cases gk with
        | zero =>
          have hd : decide (j < st.buf.length) = false := decide_eq_false (by have := HJ.out; omega)
          have HT := Aside0.mk (show st.buf.take j = st.buf from List.take_of_length_le (by have := HJ.out; omega))
          clear y5
          go_wp2
          go_ret2
          exact ⟨_, rfl, by (with_reducible repeat (first | apply Kd.S_drewN | apply Kd.S_drew)); rw [← HT.out]; exact Kd.S_mono (Kd.S_lower HO.out Hw2.out.size) (fun _ _ => trivial), by repeat (first | exact Ins.below_chain3 Hw2.out HW.out | apply pw_below_drewN | apply below_drew)⟩
        | succ k1 =>
          have hj : j < st.buf.length := by have := HJ.out; omega
          have hd : decide (j < st.buf.length) = true := decide_eq_true hj
          have hlb : st.buf.length ≤ 12 := by have := Hwf.out.buf; have := Hwf.out.n1; omega
          obtain ⟨ur, r1_, hQ⟩ := HI.out.2 j hj
          have hz1 := cell_kept r1_ HK.out (fun hs => by have h1_ := HI.out.1; have h2_ := H03.out; have h3_ : gB < w3.heap.size := hs.2; omega)
          have hQ' := Kd.Q_kept hQ HK.out (fun k hk hs => by have h2_ := H03.out; have h3_ := hs.2; omega)
          obtain ⟨Ar, cr, eu, r2_⟩ := Kd.Q_slice hQ'
          subst eu
          have HR2 := Aside0.mk r2_
          have HR3 := Aside0.mk (Kd.Q_reads' hQ').2.2
          have Hrow := Aside0.mk ((Hwf.out.row j).1)
          have HTk := Aside0.mk (show st.buf.take (j + 1) = st.buf.take j ++ [st.buf.getD j []] from by rw [List.take_succ_eq_append_getElem hj]; simp [List.getD_eq_getElem?_getD, List.getElem?_eq_getElem hj])
          have Hlen := Aside0.mk (show (st.buf.take j).length ≤ 20 from by have := Hwf.out.buf; have := Hwf.out.n1; rw [List.length_take]; omega)
          clear r1_ r2_ hQ hQ' y5
          generalize st.buf.getD j [] = row at *
          generalize st.buf.take j = rows at *
          go_wp2_with (first
            | (go_at_call 75; (refine (Ins.clone_any Ar cr row _ (Kd.C_below HR3.out (by repeat (first | exact Below.refl _ _ | apply pw_below_drewN | apply below_drew))) HR2.out (by have := Hrow.out; have := hTn.out; omega)).mono ?_); rintro e w6 ⟨vC, rfl, hrC, hbC⟩; obtain ⟨AC, cC, rfl⟩ := Kd.R_slice hrC; have HRC := Aside0.mk hrC; have HBC := Aside0.mk (show Below wr.heap.size wr w6 from Ins.below_chain3 (by repeat (first | exact Below.refl _ _ | apply pw_below_drewN | apply below_drew)) hbC); have HszC := Aside0.mk (show wr.heap.size ≤ w6.heap.size from (Ins.below_chain3 (by repeat (first | exact Below.refl wr.heap.size wr | apply pw_below_drewN | apply below_drew)) hbC : Below wr.heap.size wr w6).size); clear hrC hbC)
            | ((with_reducible refine gate_builtin (b := .append) (xs := #[.tmp 33, .tmp 36]) rfl ?_); at_builtin; refine Kd.S_append (Kd.slice 3 (Kd.int .i64)) (w0 := w2) w2.heap.size rfl (.tmp 33) (.tmp 36) 45 38 (.slice none 0 0) 24 rfl Try.underlying45 Ins.info38 rfl (by decide) (by omega) u8 rows row [.slice AC row.length cC] (fun k => k < w3.heap.size ∨ w4.heap.size ≤ k) (fun k => wr.heap.size ≤ k) rfl rfl ?aP ?aK ?aF ?aO ?aB ?aS ?aL ?_; (case aP => exact ⟨_, rfl, Kd.R_mono (Kd.R_lower (Kd.R_bound HRC.out) (show w2.heap.size ≤ _ from by have := HW.out.size; simp; omega)) (fun k hk => by have h_ := hk.2.1; simpa using h_)⟩); (case aK => exact fun k hk => ⟨.inr (Nat.le_trans HK.out.1 hk), fun e_ => by have := Kd.S_lt HO.out k e_.symm; omega⟩); (case aF => exact fun k hk => .inr (Nat.le_trans HK.out.1 (Nat.le_trans HszC.out hk))); (case aO => exact Kd.S_below (Kd.S_mono (Kd.S_bound HO.out) (fun k hk => ⟨hk.1, by have := hk.2.2.1; omega⟩)) HBC.out); (case aB => exact Ins.below_chain3 HW.out HBC.out); (case aS => have h1_ := HW.out.size; have h4_ := HszC.out; omega); (case aL => have := Hlen.out; omega); intro v1 w7 hs7 hb7 hg7 ha7; have HS7 := Aside0.mk hs7; have HK7 := Aside0.mk (Kept.of_grown hg7 (HK.out.below HBC.out) (fun k e_ => ((Kd.S_R HO.out).1 k e_).elim (fun h_ => .inl ⟨Kd.S_base HO.out k e_, h_⟩) .inr)); have HB7 := Aside0.mk hb7; clear hs7 hb7 hg7 ha7))
          go_roundg k1
          case measure => have := HJ.out; omega
          case rel => exact ⟨j + 1, by go_num, ⟨by have := HJ.out; omega⟩, ⟨by repeat (first | exact HK7.out | apply Kept.drewN | apply Kept.drew)⟩, ⟨by repeat (first | exact HB7.out | apply pw_below_drewN | apply below_drew)⟩, ⟨by (with_reducible repeat (first | apply Kd.S_drewN | apply Kd.S_drew)); rw [HTk.out]; exact HS7.out⟩⟩
end Go.Proofs.Ytkfghiofmamdnaa.PA
