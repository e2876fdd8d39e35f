/- The rows of an insertion ring at its end; no condition but what each theorem names. -/
import Derived.Test.YtkfghiofmamdnaaInDone
import Derived.Test.YtkfghiofmamdnaaInLive
namespace Go.Proofs.Ytkfghiofmamdnaa.PA
open Go.RowKit Go.Proofs.YtkfghiofmamdnaaW.PrintWords Go.Proofs.YtkfghiofmamdnaaW.PrintLast Go.Proofs.YtkfghiofmamdnaaW.PrintMore
attribute [local go_sem] max2_int min2_int max_two min_two max_three min_three max_four min_four
set_option linter.unusedVariables false
set_option linter.unusedSimpArgs false
namespace Ins
theorem below_chain3 {w W w1 : World} (h : Below w.heap.size w W) (k : Below W.heap.size W w1) : Below w.heap.size w w1 := below_then h h.size k
theorem Is74.ins_row {w0 w : World} {g gB cB : Nat} {vL vI vR : Value} {A : Option Addr} {c : Nat} {n room : Int} {ow : Bool} {ms : List S60} {t : Int} {st : St} (h : Is74 w0 w g gB cB vL vI vR A c n room ow ms t st) :
    ∃ AL cL, vI = .slice AL st.ins.length cL ∧ w.cell? ⟨g, 7, none⟩ = some vI ∧ Kd.R (Kd.int .i64) 3 w w0.heap.size (fun _ => True) vI st.ins := by
  obtain ⟨f, cur, HC, HG, HM, hc⟩ := h
  obtain ⟨AL, cL, rfl⟩ := Kd.R_slice HC.I
  exact ⟨AL, cL, rfl, (blk_cell HG 7).trans rfl, Kd.R_mono HC.I (fun _ _ => trivial)⟩
theorem Is74.rdd_row {w0 w : World} {g gB cB : Nat} {vL vI vR : Value} {A : Option Addr} {c : Nat} {n room : Int} {ow : Bool} {ms : List S60} {t : Int} {st : St} (h : Is74 w0 w g gB cB vL vI vR A c n room ow ms t st) :
    ∃ AL cL, vR = .slice AL st.rdd.length cL ∧ w.cell? ⟨g, 8, none⟩ = some vR ∧ Kd.R (Kd.int .i64) 3 w w0.heap.size (fun _ => True) vR st.rdd := by
  obtain ⟨f, cur, HC, HG, HM, hc⟩ := h
  obtain ⟨AL, cL, rfl⟩ := Kd.R_slice HC.R
  exact ⟨AL, cL, rfl, (blk_cell HG 8).trans rfl, Kd.R_mono HC.R (fun _ _ => trivial)⟩
theorem Is66.ins_row {w0 w : World} {g gB cB : Nat} {vL vI vR vX : Value} {A : Option Addr} {c : Nat} {n room : Int} {ow : Bool} {ms : List S60} {st : St} (h : Is66 w0 w g gB cB vL vI vR vX A c n room ow ms st) :
    ∃ AL cL, vI = .slice AL st.ins.length cL ∧ w.cell? ⟨g, 6, none⟩ = some vI ∧ Kd.R (Kd.int .i64) 3 w w0.heap.size (fun _ => True) vI st.ins := by
  obtain ⟨f, cur, HC, HX, HG, HM, hc⟩ := h
  obtain ⟨AL, cL, rfl⟩ := Kd.R_slice HC.I
  exact ⟨AL, cL, rfl, (blk_cell HG 6).trans rfl, Kd.R_mono HC.I (fun _ _ => trivial)⟩
theorem Is66.rdd_row {w0 w : World} {g gB cB : Nat} {vL vI vR vX : Value} {A : Option Addr} {c : Nat} {n room : Int} {ow : Bool} {ms : List S60} {st : St} (h : Is66 w0 w g gB cB vL vI vR vX A c n room ow ms st) :
    ∃ AL cL, vR = .slice AL st.rdd.length cL ∧ w.cell? ⟨g, 7, none⟩ = some vR ∧ Kd.R (Kd.int .i64) 3 w w0.heap.size (fun _ => True) vR st.rdd := by
  obtain ⟨f, cur, HC, HX, HG, HM, hc⟩ := h
  obtain ⟨AL, cL, rfl⟩ := Kd.R_slice HC.R
  exact ⟨AL, cL, rfl, (blk_cell HG 7).trans rfl, Kd.R_mono HC.R (fun _ _ => trivial)⟩
/-- The program's ring at its end. -/
theorem endI_calls (w : World) (N : Nat) (room : Int) (ow : Bool) (A : Option Addr) (c : Nat) (ms : List S60) (hg : Good N room ms) (hC : Kd.C k60 w A ms.length ms) (hc : ms.length ≤ c) :
    Calls Try.prog 70 #[.agg #[.int .i64 N, .int .i64 room, .bool ow], .slice A ms.length c] w fun e w' => ∃ w0, Below w.heap.size w w0 ∧ Now74 w0 N room ow A c ms (doneN N room ow ms) (stAt N room ow ms (doneN N room ow ms)) e w' := by
  have hd := done_facts hg ow
  exact inserted_calls w N room ow A c ms _ hg.n2 hg.n12 hg.M hC hc (by omega) hd.2.2 hd.2.1
/-- The reference's ring at its end. -/
theorem endS_calls (w : World) (N : Nat) (room : Int) (ow : Bool) (A : Option Addr) (c : Nat) (ms : List S60) (hg : Good N room ms) (hC : Kd.C k60 w A ms.length ms) (hc : ms.length ≤ c) :
    Calls Try.prog 69 #[.agg #[.int .i64 N, .int .i64 room, .bool ow], .slice A ms.length c] w fun e w' => ∃ w0, Below w.heap.size w w0 ∧ New66 w0 N room ow A c ms (stAt N room ow ms (doneN N room ow ms)) e w' := by
  have hd := done_facts hg ow
  exact inDone_calls w N room ow A c ms _ hg.n2 hg.n12 hg.room1 hg.M hC hc (by omega) (fun j hj => allGe_no (hd.2.2 j hj)) (allGe_yes hd.2.1 (rdd_range hg ow _ (by omega)))
/-- The rows of a ring at its end are as long as there are messages. -/
theorem end_sizes {N : Nat} {room : Int} {ms : List S60} (hg : Good N room ms) (ow : Bool) : (stAt N room ow ms (doneN N room ow ms)).ins.length = ms.length ∧ (stAt N room ow ms (doneN N room ow ms)).rdd.length = ms.length ∧ ms.length ≤ 20 := by
  have hd := done_facts hg ow
  have hw := stAt_wf room ow hg.n2 hg.n12 hg.M (doneN N room ow ms) (by omega)
  exact ⟨hw.ins, hw.rdd, hg.M⟩
end Ins
end Go.Proofs.Ytkfghiofmamdnaa.PA
