/- The program's insertion ring behind a tick; the cells on its links, on both sides: what the calls come to; no condition but what each theorem names. -/
import Derived.Test.YtkfghiofmamdnaaInEnd
import Derived.Test.YtkfghiofmamdnaaInOk
namespace Go.Proofs.Ytkfghiofmamdnaa.PA
open Go.RowKit Go.Proofs.YtkfghiofmamdnaaW.PrintWords Go.Proofs.YtkfghiofmamdnaaW.PrintLast Go.Proofs.YtkfghiofmamdnaaW.PrintMore
attribute [local go_sem] max2_int min2_int max_two min_two max_three min_three max_four min_four
set_option linter.unusedVariables false
set_option linter.unusedSimpArgs false
namespace Ins
theorem below_chain2 {w W w1 : World} (h : Below w.heap.size w W) (k : Below W.heap.size W w1) : Below w.heap.size w w1 := below_then h h.size k
set_option maxHeartbeats 2000000 in
set_option maxRecDepth 100000 in
theorem insertedAt_calls (w : World) (N : Nat) (room : Int) (ow : Bool) (A : Option Addr) (c : Nat) (ms : List S60) (T : Nat) (h2 : 2 ≤ N) (h12 : N ≤ 12) (hM : ms.length ≤ 20) (hC : Kd.C k60 w A ms.length ms) (hc : ms.length ≤ c) (hT : T ≤ 8000) :
    Calls Try.prog 73 #[.agg #[.int .i64 N, .int .i64 room, .bool ow], .slice A ms.length c, .int .i64 T] w fun e w' => ∃ w0, Below w.heap.size w w0 ∧ Now74 w0 N room ow A c ms ((T + 1 : Nat) : Int) (stAt N room ow ms (T + 1)) e w' := by
  have HC := Aside0.mk hC
  have HM := Aside0.mk (And.intro hM hc)
  have HN := Aside0.mk (And.intro h2 h12)
  have HT := Aside0.mk hT
  have hT1 : (T : Int) ≤ 8000 := by omega
  clear hC hM h2 h12 hc hT
  go_enter Try.func73, Try.ntmps73
  go_wp2_with (first
    | ((with_reducible refine gate_dst (N := 3) rfl ?_); refine box_event ?hg (N := 3) ?hd (cs := #[.int .i64 (N : Int), .int .i64 room, .bool ow]) (t := 28) ?hr ?_; (case hd => rfl); (case hg => rfl); (case hr => first | (go_simp; done) | (go_simp; rfl)); intro gb hgb w1 hbox hb; have HB1 := Aside0.mk hb; have x0 : w1.cell? ⟨gb, 0, none⟩ = some (.int .i64 (N : Int)) := (blk_cell hbox 0).trans rfl; have x1 : w1.cell? ⟨gb, 1, none⟩ = some (.int .i64 room) := (blk_cell hbox 1).trans rfl; have x2 : w1.cell? ⟨gb, 2, none⟩ = some (.bool ow) := (blk_cell hbox 2).trans rfl; have Hbx := Aside0.mk hbox; clear hb hbox hgb)
    | (go_at_call 66; (refine (new_calls w1 N room ow A c ms HN.out.1 HN.out.2 HM.out.1 (Kd.C_below HC.out HB1.out) HM.out.2).mono ?_); rintro e w2 ⟨g, gB, cB, vL, vI, vR, rfl, h⟩; have HI := Aside0.mk h; clear h))
  go_loopg [11] (T + 1) (fun kq v11 w' => ∃ j : Nat, Aside0 (j + kq = T + 1) ∧ Aside0 (Is74 w1 w' g gB cB vL vI vR A c N room ow ms j (stAt N room ow ms j)))
  case atStart => exact ⟨0, ⟨by omega⟩, HI⟩
  case round =>
    clear HI x0 x1 x2
    obtain ⟨j, HJ, HI⟩ := hrel
    have hwf := Aside0.mk (stAt_wf room ow HN.out.1 HN.out.2 HM.out.1 j (by have := HJ.out; have := HT.out; omega))
    have c4 := HI.out.cells.1
    cases gk with
    | zero =>
      have hj : j = T + 1 := by have := HJ.out; omega
      have hd : decide (j ≤ T) = false := decide_eq_false (by omega)
      have HF := Aside0.mk (show Is74 w1 wr g gB cB vL vI vR A c N room ow ms ((T + 1 : Nat) : Int) (stAt N room ow ms (T + 1)) from hj ▸ HI.out)
      clear hj
      go_wp2
      go_ret
      exact ⟨w1, HB1.out, g, gB, cB, vL, vI, vR, rfl, by repeat (first | exact HF.out | apply Is74.drewN), by repeat (first | exact HF.out.below | apply pw_below_drewN)⟩
    | succ k1 =>
      have hd : decide (j ≤ T) = true := decide_eq_true (by have := HJ.out; omega)
      have hs := Aside0.mk (fun W (hW : Is74 w1 W g gB cB vL vI vR A c N room ow ms j (stAt N room ow ms j)) => step_calls w1 W g gB cB vL vI vR A c N room ow ms j _ _ hW hwf.out (by have := HJ.out; have := HT.out; omega) (by have := HJ.out; have := HT.out; omega))
      go_wp2_with (go_at_call 67; (refine (hs.out _ (by repeat (first | exact HI.out | apply Is74.drewN))).mono ?_); rintro e w4 ⟨rfl, h4⟩; have HI4 := Aside0.mk h4; clear h4)
      go_roundg k1
      case measure => omega
      case rel => exact ⟨j + 1, ⟨by have := HJ.out; omega⟩, HI4⟩
theorem Is74.link_row {w0 w : World} {g gB cB : Nat} {vL vI vR : Value} {A : Option Addr} {c : Nat} {n room : Int} {ow : Bool} {ms : List S60} {t : Int} {st : St} (h : Is74 w0 w g gB cB vL vI vR A c n room ow ms t st) :
    ∃ AL cL, vL = .slice AL st.links.length cL ∧ w.cell? ⟨g, 6, none⟩ = some vL ∧ Kd.R (Kd.int .i64) 3 w w0.heap.size (fun _ => True) vL st.links := by
  obtain ⟨f, cur, HC, HG, HM, hc⟩ := h
  obtain ⟨AL, cL, rfl⟩ := Kd.R_slice HC.L
  exact ⟨AL, cL, rfl, (blk_cell HG 6).trans rfl, Kd.R_mono HC.L (fun _ _ => trivial)⟩
theorem Is66.link_row {w0 w : World} {g gB cB : Nat} {vL vI vR vX : Value} {A : Option Addr} {c : Nat} {n room : Int} {ow : Bool} {ms : List S60} {st : St} (h : Is66 w0 w g gB cB vL vI vR vX A c n room ow ms st) :
    ∃ AL cL, vL = .slice AL st.links.length cL ∧ w.cell? ⟨g, 5, none⟩ = some vL ∧ Kd.R (Kd.int .i64) 3 w w0.heap.size (fun _ => True) vL st.links := by
  obtain ⟨f, cur, HC, HX, HG, HM, hc⟩ := h
  obtain ⟨AL, cL, rfl⟩ := Kd.R_slice HC.L
  exact ⟨AL, cL, rfl, (blk_cell HG 5).trans rfl, Kd.R_mono HC.L (fun _ _ => trivial)⟩
end Ins
/-- What LinksAt comes to, on both sides. -/
def linksAtR (n room : Int) (ow : Bool) (ms : List S60) (t : Int) : List Int × Bool :=
  if (Ins.okI n room ms && inB 0 600 t) = true then ((Ins.stAt n.toNat room ow ms (t.toNat + 1)).links, true) else ([], false)
def impl_LinksAt.f (n room : Int) (ow : Bool) (ms : List S60) (t : Int) : Option (List Int × Bool) := if ms.length < 4611686018427387904 then some (linksAtR n room ow ms t) else none
def spec_LinksAt.f (n room : Int) (ow : Bool) (ms : List S60) (t : Int) : Option (List Int × Bool) := if ms.length < 4611686018427387904 then some (linksAtR n room ow ms t) else none
set_option maxHeartbeats 2000000 in
set_option maxRecDepth 100000 in
theorem impl_LinksAt.calls (n room : Int) (ow : Bool) (A1 : Option Addr) (c1 : Nat) (ms : List S60) (t : Int) (r1 : List Int) (r2 : Bool) (w : World) (hr1 : Kd.C k60 w A1 ms.length ms) (hc1 : ms.length ≤ c1) (h : impl_LinksAt.f n room ow ms t = some (r1, r2)) :
    Calls Try.prog 31 #[.agg #[.int .i64 n, .int .i64 room, .bool ow], .slice A1 ms.length c1, .int .i64 t] w fun e w' => ∃ v0_ : Value, e = .returned (.tuple #[v0_, .bool r2]) ∧ Kd.R (Kd.int .i64) 3 w' w.heap.size (fun _ => True) v0_ r1 ∧ Below w.heap.size w w' := by
  have hlen : ms.length < 4611686018427387904 := by
    by_cases hl : ms.length < 4611686018427387904
    · exact hl
    · simp [impl_LinksAt.f, hl] at h
  rw [impl_LinksAt.f, if_pos hlen, linksAtR] at h
  have h1 := Ins.isInserted_tells n room ow ms hlen
  have h3 := (Ins.tick_tells t).1
  have HC := Aside0.mk hr1
  have Hc := Aside0.mk hc1
  clear hr1 hc1 hlen
  have hok : Ins.okI n room ms = true → 2 ≤ n ∧ n ≤ 12 ∧ 1 ≤ room ∧ ms.length ≤ 20 := fun h => by have := Ins.okI_facts h; exact ⟨this.1.1, this.1.2, this.2.1.1, this.2.2.1⟩
  generalize Ins.okI n room ms = b1 at *
  have hit : inB 0 600 t = true → 0 ≤ t ∧ t ≤ 600 := fun h => by simpa [inB] using h
  generalize inB 0 600 t = b3 at *
  have HT1 := Aside0.mk h1
  have HT3 := Aside0.mk h3
  clear h1 h3
  cases b1 with
  | false =>
    rw [if_neg (by simp)] at h
    simp only [Option.some.injEq, Prod.mk.injEq] at h
    obtain ⟨rfl, rfl⟩ := h
    clear hok hit
    go_enter Try.func31, Try.ntmps31
    go_wp2_with (first
      | ((with_reducible refine gate_dst (N := 3) rfl ?_); refine box_event ?hg (N := 3) ?hd (cs := #[.int .i64 n, .int .i64 room, .bool ow]) (t := 28) ?hr ?_; (case hd => rfl); (case hg => rfl); (case hr => first | (go_simp; done) | (go_simp; rfl)); intro gb hgb w1 hbox hb; have HB1 := Aside0.mk hb; have x0 : w1.cell? ⟨gb, 0, none⟩ = some (.int .i64 n) := (blk_cell hbox 0).trans rfl; have x1 : w1.cell? ⟨gb, 1, none⟩ = some (.int .i64 room) := (blk_cell hbox 1).trans rfl; have x2 : w1.cell? ⟨gb, 2, none⟩ = some (.bool ow) := (blk_cell hbox 2).trans rfl; have Hbx := Aside0.mk hbox; clear hb hbox hgb)
      | (go_at_call 63; (refine (impl_isInserted.calls _ n room ow A1 c1 ms _ w1 (Kd.C_below HC.out HB1.out) Hc.out HT1.out).mono ?_); rintro e w2 ⟨rfl, hb2⟩; have HB2 := Aside0.mk hb2; have x3 := pw_cell_below hb2 x0; have x4 := pw_cell_below hb2 x1; have x5 := pw_cell_below hb2 x2; clear hb2)
      | (go_at_call 65; (refine (impl_isInsertTick.calls t _ _ HT3.out).mono ?_); rintro e w' ⟨rfl, ⟨nd3, rfl⟩⟩))
    go_ret2
    exact ⟨_, rfl, Kd.R_nil _ _ _ _ _, (by repeat (first | exact below_then HB1.out HB1.out.size HB2.out | apply pw_below_drewN | apply below_drew))⟩
  | true =>
    obtain ⟨hn0, hn1, hr, hM⟩ := hok rfl
    have hn : 2 ≤ n ∧ n ≤ 12 := ⟨hn0, hn1⟩
    cases b3 with
    | false =>
      rw [if_neg (by simp)] at h
      simp only [Option.some.injEq, Prod.mk.injEq] at h
      obtain ⟨rfl, rfl⟩ := h
      clear hok hit hn
      go_enter Try.func31, Try.ntmps31
      go_wp2_with (first
        | ((with_reducible refine gate_dst (N := 3) rfl ?_); refine box_event ?hg (N := 3) ?hd (cs := #[.int .i64 n, .int .i64 room, .bool ow]) (t := 28) ?hr ?_; (case hd => rfl); (case hg => rfl); (case hr => first | (go_simp; done) | (go_simp; rfl)); intro gb hgb w1 hbox hb; have HB1 := Aside0.mk hb; have x0 : w1.cell? ⟨gb, 0, none⟩ = some (.int .i64 n) := (blk_cell hbox 0).trans rfl; have x1 : w1.cell? ⟨gb, 1, none⟩ = some (.int .i64 room) := (blk_cell hbox 1).trans rfl; have x2 : w1.cell? ⟨gb, 2, none⟩ = some (.bool ow) := (blk_cell hbox 2).trans rfl; have Hbx := Aside0.mk hbox; clear hb hbox hgb)
        | (go_at_call 63; (refine (impl_isInserted.calls _ n room ow A1 c1 ms _ w1 (Kd.C_below HC.out HB1.out) Hc.out HT1.out).mono ?_); rintro e w2 ⟨rfl, hb2⟩; have HB2 := Aside0.mk hb2; have x3 := pw_cell_below hb2 x0; have x4 := pw_cell_below hb2 x1; have x5 := pw_cell_below hb2 x2; clear hb2)
        | (go_at_call 65; (refine (impl_isInsertTick.calls t _ _ HT3.out).mono ?_); rintro e w' ⟨rfl, ⟨nd3, rfl⟩⟩))
      go_ret2
      exact ⟨_, rfl, Kd.R_nil _ _ _ _ _, (by repeat (first | exact below_then HB1.out HB1.out.size HB2.out | apply pw_below_drewN | apply below_drew))⟩
    | true =>
      have ht := hit rfl
      rw [if_pos (by simp)] at h
      simp only [Option.some.injEq, Prod.mk.injEq] at h
      obtain ⟨rfl, rfl⟩ := h
      clear hok hit hn0 hn1
      obtain ⟨N, rfl⟩ : ∃ N : Nat, n = (N : Int) := ⟨n.toNat, by omega⟩
      obtain ⟨T, rfl⟩ : ∃ T : Nat, t = (T : Int) := ⟨t.toNat, by omega⟩
      simp only [Int.toNat_natCast]
      have HM := Aside0.mk hM
      have HR := Aside0.mk hr
      have hN2 := Aside0.mk (show 2 ≤ N ∧ N ≤ 12 by omega)
      have hT600 : (T : Int) ≤ 600 := by omega
      have hTn' := Aside0.mk (show T ≤ 8000 by omega)
      have e1 : IntKind.i64.wrap ((T : Int) + 1) = ((T + 1 : Nat) : Int) := (IntWalk.i64_in _ (by omega)).trans (by omega)
      clear hn ht hM hr
      generalize hst : Ins.stAt N room ow ms (T + 1) = st
      have Hst := Aside0.mk hst
      clear hst
      go_enter Try.func31, Try.ntmps31
      go_wp2_with (first
        | ((with_reducible refine gate_dst (N := 3) rfl ?_); refine box_event ?hg (N := 3) ?hd (cs := #[.int .i64 (N : Int), .int .i64 room, .bool ow]) (t := 28) ?hr ?_; (case hd => rfl); (case hg => rfl); (case hr => first | (go_simp; done) | (go_simp; rfl)); intro gb hgb w1 hbox hb; have HB1 := Aside0.mk hb; have x0 : w1.cell? ⟨gb, 0, none⟩ = some (.int .i64 (N : Int)) := (blk_cell hbox 0).trans rfl; have x1 : w1.cell? ⟨gb, 1, none⟩ = some (.int .i64 room) := (blk_cell hbox 1).trans rfl; have x2 : w1.cell? ⟨gb, 2, none⟩ = some (.bool ow) := (blk_cell hbox 2).trans rfl; have Hbx := Aside0.mk hbox; clear hb hbox hgb)
        | (go_at_call 63; (refine (impl_isInserted.calls _ (N : Int) room ow A1 c1 ms _ w1 (Kd.C_below HC.out HB1.out) Hc.out HT1.out).mono ?_); rintro e w2 ⟨rfl, hb2⟩; have HB2 := Aside0.mk hb2; have x3 := pw_cell_below hb2 x0; have x4 := pw_cell_below hb2 x1; have x5 := pw_cell_below hb2 x2; clear hb2)
        | (go_at_call 65; (refine (impl_isInsertTick.calls (T : Int) _ _ HT3.out).mono ?_); rintro e w' ⟨rfl, ⟨nd3, rfl⟩⟩)
        | (go_at_call 73; (refine (Ins.insertedAt_calls _ N room ow A1 c1 ms T hN2.out.1 hN2.out.2 HM.out (Kd.C_below HC.out (by repeat (first | exact below_then HB1.out HB1.out.size HB2.out | apply pw_below_drewN | apply below_drew))) Hc.out hTn'.out).mono ?_); rintro e w3 ⟨w0, hb0, g, gB, cB, vL, vI, vR, rfl, h, hbl⟩; rw [Hst.out] at h; have HI := Aside0.mk h; have Hb0 := Aside0.mk (show Below w.heap.size w w0 from Ins.below_chain2 (by repeat (first | exact below_then HB1.out HB1.out.size HB2.out | apply pw_below_drewN | apply below_drew)) hb0); clear h hb0; obtain ⟨AL, cL, rfl, y6, hLr⟩ := HI.out.link_row; have HLr := Aside0.mk hLr; have Hbl := Aside0.mk hbl; clear hLr hbl))
      go_ret2
      exact ⟨_, rfl, by repeat (first | exact Kd.R_lower HLr.out Hb0.out.size | apply Kd.R_drewN | apply Kd.R_drew), by repeat (first | exact Ins.below_chain2 Hb0.out Hbl.out | apply pw_below_drewN | apply below_drew)⟩
set_option maxHeartbeats 2000000 in
set_option maxRecDepth 100000 in
theorem spec_LinksAt.calls (n room : Int) (ow : Bool) (A1 : Option Addr) (c1 : Nat) (ms : List S60) (t : Int) (r1 : List Int) (r2 : Bool) (w : World) (hr1 : Kd.C k60 w A1 ms.length ms) (hc1 : ms.length ≤ c1) (h : spec_LinksAt.f n room ow ms t = some (r1, r2)) :
    Calls Try.prog 30 #[.agg #[.int .i64 n, .int .i64 room, .bool ow], .slice A1 ms.length c1, .int .i64 t] w fun e w' => ∃ v0_ : Value, e = .returned (.tuple #[v0_, .bool r2]) ∧ Kd.R (Kd.int .i64) 3 w' w.heap.size (fun _ => True) v0_ r1 ∧ Below w.heap.size w w' := by
  have hlen : ms.length < 4611686018427387904 := by
    by_cases hl : ms.length < 4611686018427387904
    · exact hl
    · simp [spec_LinksAt.f, hl] at h
  rw [spec_LinksAt.f, if_pos hlen, linksAtR] at h
  have h1 := Ins.inAll_tells n room ow ms hlen
  have h3 := (Ins.tick_tells t).2
  have HC := Aside0.mk hr1
  have Hc := Aside0.mk hc1
  clear hr1 hc1 hlen
  have hok : Ins.okI n room ms = true → 2 ≤ n ∧ n ≤ 12 ∧ 1 ≤ room ∧ ms.length ≤ 20 := fun h => by have := Ins.okI_facts h; exact ⟨this.1.1, this.1.2, this.2.1.1, this.2.2.1⟩
  generalize Ins.okI n room ms = b1 at *
  have hit : inB 0 600 t = true → 0 ≤ t ∧ t ≤ 600 := fun h => by simpa [inB] using h
  generalize inB 0 600 t = b3 at *
  have HT1 := Aside0.mk h1
  have HT3 := Aside0.mk h3
  clear h1 h3
  cases b1 with
  | false =>
    rw [if_neg (by simp)] at h
    simp only [Option.some.injEq, Prod.mk.injEq] at h
    obtain ⟨rfl, rfl⟩ := h
    clear hok hit
    go_enter Try.func30, Try.ntmps30
    go_wp2_with (first
      | ((with_reducible refine gate_dst (N := 3) rfl ?_); refine box_event ?hg (N := 3) ?hd (cs := #[.int .i64 n, .int .i64 room, .bool ow]) (t := 28) ?hr ?_; (case hd => rfl); (case hg => rfl); (case hr => first | (go_simp; done) | (go_simp; rfl)); intro gb hgb w1 hbox hb; have HB1 := Aside0.mk hb; have x0 : w1.cell? ⟨gb, 0, none⟩ = some (.int .i64 n) := (blk_cell hbox 0).trans rfl; have x1 : w1.cell? ⟨gb, 1, none⟩ = some (.int .i64 room) := (blk_cell hbox 1).trans rfl; have x2 : w1.cell? ⟨gb, 2, none⟩ = some (.bool ow) := (blk_cell hbox 2).trans rfl; have Hbx := Aside0.mk hbox; clear hb hbox hgb)
      | (go_at_call 58; (refine (spec_inAll.calls _ n room ow A1 c1 ms _ w1 (Kd.C_below HC.out HB1.out) Hc.out HT1.out).mono ?_); rintro e w2 ⟨rfl, hb2⟩; have HB2 := Aside0.mk hb2; have x3 := pw_cell_below hb2 x0; have x4 := pw_cell_below hb2 x1; have x5 := pw_cell_below hb2 x2; clear hb2)
      | (go_at_call 60; (refine (spec_inTick.calls t _ _ HT3.out).mono ?_); rintro e w' ⟨rfl, ⟨nd3, rfl⟩⟩))
    go_ret2
    exact ⟨_, rfl, Kd.R_nil _ _ _ _ _, (by repeat (first | exact below_then HB1.out HB1.out.size HB2.out | apply pw_below_drewN | apply below_drew))⟩
  | true =>
    obtain ⟨hn0, hn1, hr, hM⟩ := hok rfl
    have hn : 2 ≤ n ∧ n ≤ 12 := ⟨hn0, hn1⟩
    cases b3 with
    | false =>
      rw [if_neg (by simp)] at h
      simp only [Option.some.injEq, Prod.mk.injEq] at h
      obtain ⟨rfl, rfl⟩ := h
      clear hok hit hn
      go_enter Try.func30, Try.ntmps30
      go_wp2_with (first
        | ((with_reducible refine gate_dst (N := 3) rfl ?_); refine box_event ?hg (N := 3) ?hd (cs := #[.int .i64 n, .int .i64 room, .bool ow]) (t := 28) ?hr ?_; (case hd => rfl); (case hg => rfl); (case hr => first | (go_simp; done) | (go_simp; rfl)); intro gb hgb w1 hbox hb; have HB1 := Aside0.mk hb; have x0 : w1.cell? ⟨gb, 0, none⟩ = some (.int .i64 n) := (blk_cell hbox 0).trans rfl; have x1 : w1.cell? ⟨gb, 1, none⟩ = some (.int .i64 room) := (blk_cell hbox 1).trans rfl; have x2 : w1.cell? ⟨gb, 2, none⟩ = some (.bool ow) := (blk_cell hbox 2).trans rfl; have Hbx := Aside0.mk hbox; clear hb hbox hgb)
        | (go_at_call 58; (refine (spec_inAll.calls _ n room ow A1 c1 ms _ w1 (Kd.C_below HC.out HB1.out) Hc.out HT1.out).mono ?_); rintro e w2 ⟨rfl, hb2⟩; have HB2 := Aside0.mk hb2; have x3 := pw_cell_below hb2 x0; have x4 := pw_cell_below hb2 x1; have x5 := pw_cell_below hb2 x2; clear hb2)
        | (go_at_call 60; (refine (spec_inTick.calls t _ _ HT3.out).mono ?_); rintro e w' ⟨rfl, ⟨nd3, rfl⟩⟩))
      go_ret2
      exact ⟨_, rfl, Kd.R_nil _ _ _ _ _, (by repeat (first | exact below_then HB1.out HB1.out.size HB2.out | apply pw_below_drewN | apply below_drew))⟩
    | true =>
      have ht := hit rfl
      rw [if_pos (by simp)] at h
      simp only [Option.some.injEq, Prod.mk.injEq] at h
      obtain ⟨rfl, rfl⟩ := h
      clear hok hit hn0 hn1
      obtain ⟨N, rfl⟩ : ∃ N : Nat, n = (N : Int) := ⟨n.toNat, by omega⟩
      obtain ⟨T, rfl⟩ : ∃ T : Nat, t = (T : Int) := ⟨t.toNat, by omega⟩
      simp only [Int.toNat_natCast]
      have HM := Aside0.mk hM
      have HR := Aside0.mk hr
      have hN2 := Aside0.mk (show 2 ≤ N ∧ N ≤ 12 by omega)
      have hT600 : (T : Int) ≤ 600 := by omega
      have hTn' := Aside0.mk (show T + 1 ≤ 9000 by omega)
      have e1 : IntKind.i64.wrap ((T : Int) + 1) = ((T + 1 : Nat) : Int) := (IntWalk.i64_in _ (by omega)).trans (by omega)
      clear hn ht hM hr
      generalize hst : Ins.stAt N room ow ms (T + 1) = st
      have Hst := Aside0.mk hst
      clear hst
      go_enter Try.func30, Try.ntmps30
      go_wp2_with (first
        | ((with_reducible refine gate_dst (N := 3) rfl ?_); refine box_event ?hg (N := 3) ?hd (cs := #[.int .i64 (N : Int), .int .i64 room, .bool ow]) (t := 28) ?hr ?_; (case hd => rfl); (case hg => rfl); (case hr => first | (go_simp; done) | (go_simp; rfl)); intro gb hgb w1 hbox hb; have HB1 := Aside0.mk hb; have x0 : w1.cell? ⟨gb, 0, none⟩ = some (.int .i64 (N : Int)) := (blk_cell hbox 0).trans rfl; have x1 : w1.cell? ⟨gb, 1, none⟩ = some (.int .i64 room) := (blk_cell hbox 1).trans rfl; have x2 : w1.cell? ⟨gb, 2, none⟩ = some (.bool ow) := (blk_cell hbox 2).trans rfl; have Hbx := Aside0.mk hbox; clear hb hbox hgb)
        | (go_at_call 58; (refine (spec_inAll.calls _ (N : Int) room ow A1 c1 ms _ w1 (Kd.C_below HC.out HB1.out) Hc.out HT1.out).mono ?_); rintro e w2 ⟨rfl, hb2⟩; have HB2 := Aside0.mk hb2; have x3 := pw_cell_below hb2 x0; have x4 := pw_cell_below hb2 x1; have x5 := pw_cell_below hb2 x2; clear hb2)
        | (go_at_call 60; (refine (spec_inTick.calls (T : Int) _ _ HT3.out).mono ?_); rintro e w' ⟨rfl, ⟨nd3, rfl⟩⟩)
        | (go_at_call 61; (refine (Ins.inEnd_calls _ N room ow A1 c1 ms (T + 1) hN2.out.1 hN2.out.2 HR.out HM.out (Kd.C_below HC.out (by repeat (first | exact below_then HB1.out HB1.out.size HB2.out | apply pw_below_drewN | apply below_drew))) Hc.out hTn'.out).mono ?_); rintro e w3 ⟨w0, hb0, g, gB, cB, vL, vI, vR, vX, rfl, h, -⟩; rw [Hst.out] at h; have HI := Aside0.mk h; have Hb0 := Aside0.mk (show Below w.heap.size w w0 from Ins.below_chain2 (by repeat (first | exact below_then HB1.out HB1.out.size HB2.out | apply pw_below_drewN | apply below_drew)) hb0); clear h hb0; obtain ⟨AL, cL, rfl, y6, hLr⟩ := HI.out.link_row; have HLr := Aside0.mk hLr; have Hbl := Aside0.mk HI.out.below; clear hLr))
      go_ret2
      exact ⟨_, rfl, by repeat (first | exact Kd.R_lower HLr.out Hb0.out.size | apply Kd.R_drewN | apply Kd.R_drew), by repeat (first | exact Ins.below_chain2 Hb0.out Hbl.out | apply pw_below_drewN | apply below_drew)⟩
end Go.Proofs.Ytkfghiofmamdnaa.PA
