/- The program's insertion ring at first: what the call comes to; no condition but what each theorem names. -/
import Derived.Test.YtkfghiofmamdnaaInWf
import Derived.Test.YtkfghiofmamdnaaInRepeat
import Derived.Test.YtkfghiofmamdnaaInClone
import Derived.Deep.RegionHeld3
import Derived.Deep.RegionLaw
namespace Go.Proofs.Ytkfghiofmamdnaa.PA
open Go.RowKit Go.Proofs.YtkfghiofmamdnaaW.PrintWords Go.Proofs.YtkfghiofmamdnaaW.PrintLast Go.Proofs.YtkfghiofmamdnaaW.PrintMore
attribute [local go_sem] max2_int min2_int max_two min_two max_three min_three max_four min_four
set_option linter.unusedVariables false
set_option linter.unusedSimpArgs false
namespace Ins
/-- An insertion ring at first. -/
def st0 (n M : Nat) : St := ⟨List.replicate n [], List.replicate n 0, List.replicate M (-1), List.replicate M (-1), 0, List.replicate n 0⟩
theorem st0_wf (n M : Nat) (h2 : 2 ≤ n) (h12 : n ≤ 12) (hM : M ≤ 20) : Wf n M 0 (st0 n M) :=
  ⟨by omega, by omega, hM, by omega, by simp [st0], by simp [st0], by simp [st0], by simp [st0], by simp [st0], fun x hx => by rw [List.eq_of_mem_replicate hx]; omega, fun b hb => by rw [List.eq_of_mem_replicate hb]; simp, by simp [st0], fun x hx => by rw [List.eq_of_mem_replicate hx]; omega⟩
theorem recol {w : World} {base : Nat} {ok ok' : Nat → Prop} {v : Value} {xs : List Int} (h : Kd.R (Kd.int .i64) 3 w base ok v xs) (hv : ∀ k, v.ownBlock = some k → ok' k) : Kd.R (Kd.int .i64) 3 w base ok' v xs := ⟨hv, h.2.imp_ (fun _ _ hp => hp)⟩
theorem Core.new {w0 w : World} {g gB gL n M cL : Nat} {vI vR : Value} (hb : Below w0.heap.size w0 w) (hg : w0.heap.size ≤ g) (hgl : g < w.heap.size) (hgB : w0.heap.size ≤ gB) (hB : w.heap[gB]? = some (.cells (Array.replicate n (Value.slice none 0 0)) 38 (0, 0)))
    (hL : Kd.R (Kd.int .i64) 3 w w0.heap.size (fun _ => True) (.slice (some ⟨gL, 0, none⟩) n cL) (List.replicate n 0)) (hI : Kd.R (Kd.int .i64) 3 w w0.heap.size (fun _ => True) vI (List.replicate M (-1))) (hR : Kd.R (Kd.int .i64) 3 w w0.heap.size (fun _ => True) vR (List.replicate M (-1)))
    (n1 : gB ≠ g) (n2 : gL ≠ g) (n3 : some g ≠ vI.ownBlock) (n4 : some g ≠ vR.ownBlock) (n5 : some gL ≠ vI.ownBlock) (n6 : some gL ≠ vR.ownBlock) (n7 : ∀ k, vI.ownBlock = some k → vR.ownBlock ≠ some k) :
    ∃ f, Core w0 w f g gB (Array.replicate n (Value.slice none 0 0)) (.slice (some ⟨gL, 0, none⟩) n cL) vI vR (st0 n M) := by
  have t3 : ∀ {v : Value} {xs : List Int}, Kd.R (Kd.int .i64) 3 w w0.heap.size (fun _ => True) v xs → some gB ≠ v.ownBlock := fun h => Kd.R_ne h hB (by decide)
  have eB := t3 hL
  have eI := t3 hI
  have eR := t3 hR
  refine ⟨fun k => if k = g then 0 else if k = gB then 1 else if k = gL then 2 else if some k = vI.ownBlock then 3 else 4, hb, if_pos rfl, hg, hgl, ?_, hgB, hB, by simp [st0], fun j v b hv hbb => ?_, recol hL (fun k hk => ?_), recol hI (fun k hk => ?_), recol hR (fun k hk => ?_)⟩
  · simp [n1]
  · have hv' : v = .slice none 0 0 := by
      rw [Array.getElem?_replicate] at hv
      split at hv
      · exact (Option.some.inj hv).symm
      · cases hv
    have hb' : b = [] := by
      simp only [st0, List.getElem?_replicate] at hbb
      split at hbb
      · exact (Option.some.inj hbb).symm
      · cases hbb
    subst hv' hb'
    exact Kd.Q_nil _ _ _ _ _
  · have : gL = k := by simpa [Value.ownBlock] using hk
    subst this
    have e : gL ≠ gB := fun e => eB (by rw [e]; rfl)
    simp [n2, e]
  · have a1 : k ≠ g := fun e => n3 (by rw [hk, e])
    have a2 : k ≠ gB := fun e => eI (by rw [hk, e])
    have a3 : k ≠ gL := fun e => n5 (by rw [hk, e])
    simp [a1, a2, a3, hk]
  · have a1 : k ≠ g := fun e => n4 (by rw [hk, e])
    have a2 : k ≠ gB := fun e => eR (by rw [hk, e])
    have a3 : k ≠ gL := fun e => n6 (by rw [hk, e])
    have a4 : ¬ some k = vI.ownBlock := fun e => n7 k e.symm hk
    simp [a1, a2, a3, a4]
theorem Is74.of_new {w0 w : World} {g gB gL n cL cB M cI cR : Nat} {aI aR : Option Addr} {A : Option Addr} {c : Nat} {room : Int} {ow : Bool} {ms : List S60} (hG : w.heap[g]? = some (.cells #[.int .i64 n, .int .i64 room, .bool ow, .slice A ms.length c, .int .i64 0, .slice (some ⟨gB, 0, none⟩) n cB, .slice (some ⟨gL, 0, none⟩) n cL, .slice aI M cI, .slice aR M cR, .int .i64 0] 74 (0, 0)))
    (h : ∃ f, Core w0 w f g gB (Array.replicate n (Value.slice none 0 0)) (.slice (some ⟨gL, 0, none⟩) n cL) (.slice aI M cI) (.slice aR M cR) (st0 n ms.length)) (hC : Kd.C k60 w0 A ms.length ms) (hc : ms.length ≤ c) :
    Is74 w0 w g gB cB (.slice (some ⟨gL, 0, none⟩) n cL) (.slice aI M cI) (.slice aR M cR) A c n room ow ms 0 (st0 n ms.length) := by
  obtain ⟨f, hf⟩ := h
  exact ⟨f, _, hf, by simpa [st0] using hG, hC, hc⟩
/-- What the making comes to. -/
def NewPost (w0 : World) (n : Nat) (room : Int) (ow : Bool) (A : Option Addr) (c : Nat) (ms : List S60) (e : Ending) (w' : World) : Prop :=
  ∃ g gB cB vL vI vR, e = .returned (.pointer (some ⟨g, 0, none⟩)) ∧ Is74 w0 w' g gB cB vL vI vR A c n room ow ms 0 (st0 n ms.length)
theorem new_post {w0 w : World} {g gB gL n cL cB M cI cR : Nat} {aI aR : Option Addr} {A : Option Addr} {c : Nat} {room : Int} {ow : Bool} {ms : List S60} (hG : w.heap[g]? = some (.cells #[.int .i64 n, .int .i64 room, .bool ow, .slice A ms.length c, .int .i64 0, .slice (some ⟨gB, 0, none⟩) n cB, .slice (some ⟨gL, 0, none⟩) n cL, .slice aI M cI, .slice aR M cR, .int .i64 0] 74 (0, 0)))
    (h : ∃ f, Core w0 w f g gB (Array.replicate n (Value.slice none 0 0)) (.slice (some ⟨gL, 0, none⟩) n cL) (.slice aI M cI) (.slice aR M cR) (st0 n ms.length)) (hC : Kd.C k60 w0 A ms.length ms) (hc : ms.length ≤ c) :
    NewPost w0 n room ow A c ms (.returned (.pointer (some ⟨g, 0, none⟩))) w := ⟨g, gB, cB, _, _, _, rfl, Is74.of_new hG h hC hc⟩
theorem blk_new_at {W : World} {k : Nat} (o : Obj) (h : k = W.heap.size) : (W.alloc o).heap[k]? = some o := h ▸ blk_new W o
theorem info38 : (Try.prog.info? 38).map (fun i => (i.zero, i.size, i.bytes)) = some (some (.slice none 0 0), 1, 24) := by kernel_rfl
theorem make_rows (m : Nat) (hm : m ≤ 12) : ∀ W : World, (Instr.makeSlice 45 (.int .i64 (m : Int)) (.int .i64 (m : Int))).run Try.prog W = .ok (.slice (some ⟨W.heap.size, 0, none⟩) m m) (W.alloc (.cells (Array.replicate m (Value.slice none 0 0)) 38)) := by
  intro W
  have h := run_make_row' (P := Try.prog) 45 38 (.slice none 0 0) 24 Try.underlying45 info38 rfl .i64 .i64 m (by omega) (by omega) W
  have e : madeCells #[Value.slice none 0 0] m = (Array.replicate m (Value.slice none 0 0)) := by
    apply Array.ext
    · simp [size_madeCells]
    · intro i h1 h2
      simp [madeCells, Nat.mod_one]
  rw [h, e]
theorem make_ints (m : Nat) (hm : m ≤ 12) : ∀ W : World, (Instr.makeSlice 38 (.int .i64 (m : Int)) (.int .i64 (m : Int))).run Try.prog W = .ok (.slice (some ⟨W.heap.size, 0, none⟩) m m) (W.alloc (.cells (Array.replicate m (Value.int .i64 0)) 3)) := by
  intro W
  have h := print_make (P := Try.prog) 38 3 .i64 8 Try.underlying38 info3 (by omega) m (by omega) W
  have e : madeCells #[Value.int .i64 0] m = (Array.replicate m (Value.int .i64 0)) := by
    apply Array.ext
    · simp [size_madeCells]
    · intro i h1 h2
      simp [madeCells, Nat.mod_one]
  rw [h, e]
theorem ints_row (W : World) (base m : Nat) (hb : base ≤ W.heap.size) (hm : m ≤ 12) : Kd.R (Kd.int .i64) 3 (W.alloc (.cells (Array.replicate m (Value.int .i64 0)) 3)) base (fun _ => True) (.slice (some ⟨W.heap.size, 0, none⟩) m m) (List.replicate m 0) := by
  refine Kd.R_of_own (enc := Value.int .i64) ⟨by simp [encs], .inr ⟨W.heap.size, m, _, by simp, hb, blk_new _ _, by simp, by simp only [maxLen]; omega, by simp, ?_⟩⟩ (fun _ _ => trivial)
  simp [encs]
theorem ints_row_at {W : World} {k base m : Nat} (hk : k = W.heap.size) (hb : base ≤ W.heap.size) (hm : m ≤ 12) : Kd.R (Kd.int .i64) 3 (W.alloc (.cells (Array.replicate m (Value.int .i64 0)) 3)) base (fun _ => True) (.slice (some ⟨k, 0, none⟩) m m) (List.replicate m 0) := hk ▸ ints_row W base m hb hm
theorem clone_minus (M gN base : Nat) (W : World) (hM : M ≤ 20) (h : Kd.R (Kd.int .i64) 3 W base (fun _ => True) (.slice (some ⟨gN, 0, none⟩) M M) (List.replicate M (-1))) :
    Calls Try.prog 75 #[.slice (some ⟨gN, 0, none⟩) M M] W fun e w' => ∃ Ac cc, e = .returned (.slice Ac M cc) ∧ Kd.R (Kd.int .i64) 3 w' W.heap.size (fun _ => True) (.slice Ac M cc) (List.replicate M (-1)) ∧ Below W.heap.size W w' := by
  have hr := Kd.R_reads' h
  have hl : (List.replicate M (-1 : Int)).length = M := by simp
  have := slices_Clone_.calls ⟨gN, 0, none⟩ M (List.replicate M (-1)) (List.replicate M (-1)) W hr.2.2 (by rw [hl]; exact Nat.le_refl _) (by simp only [slices_Clone_.f, Option.bind_some, List.length_nil, hl]; rw [if_pos (by omega)]; rfl)
  rw [hl] at this
  refine this.mono fun e w' ⟨v, he, hR, hb⟩ => ?_
  obtain ⟨Ac, cc, ev⟩ := Kd.R_slice hR
  rw [hl] at ev
  subst ev
  exact ⟨Ac, cc, he, hR, hb⟩
set_option maxHeartbeats 4000000 in
set_option maxRecDepth 100000 in
theorem new_calls (w : World) (n : Nat) (room : Int) (ow : Bool) (A : Option Addr) (c : Nat) (ms : List S60) (h2 : 2 ≤ n) (h12 : n ≤ 12) (hM : ms.length ≤ 20) (hC : Kd.C k60 w A ms.length ms) (hc : ms.length ≤ c) :
    Calls Try.prog 66 #[.agg #[.int .i64 n, .int .i64 room, .bool ow], .slice A ms.length c] w (NewPost w n room ow A c ms) := by
  have HC := Aside0.mk hC
  have HM := Aside0.mk hM
  have HN := Aside0.mk (And.intro h2 h12)
  have Hc := Aside0.mk hc
  have mr := make_rows n h12
  have mi := make_ints n h12
  have hm8 : (ms.length : Int) ≤ 20 := by omega
  clear hC hM h2 h12 hc
  go_enter Try.func66, Try.ntmps66
  go_wp2_with (first
    | ((with_reducible refine gate_dst (N := 2) rfl ?_); refine box_event ?hg (N := 2) ?hd (cs := #[.int .i64 n, .int .i64 room, .bool ow]) (t := 28) ?hr ?_; (case hd => rfl); (case hg => rfl); (case hr => first | (go_simp; done) | (go_simp; rfl)); intro gb hgb w1 hbox hb; have HB1 := Aside0.mk hb; have HX := Aside0.mk hbox; have HG := Aside0.mk hgb; clear hb hbox hgb)
    | (go_at_call 88; (refine (repeat_calls ms.length w1.heap.size (w1.alloc (.cells #[.int .i64 (-1)] 3)) HM.out ((blk_cell (blk_new _ _) 0).trans rfl)).mono ?_); rintro e w2 ⟨gN, rfl, hR, hb⟩; have HB2 := Aside0.mk hb; have HR := Aside0.mk hR; clear hb hR))
  have hXb := blk_below (blk_alloc HX.out _) HB2.out
  have x0 : w2.cell? ⟨gb, 0, none⟩ = some (.int .i64 n) := (blk_cell hXb 0).trans rfl
  have x1 : w2.cell? ⟨gb, 1, none⟩ = some (.int .i64 room) := (blk_cell hXb 1).trans rfl
  have x2 : w2.cell? ⟨gb, 2, none⟩ = some (.bool ow) := (blk_cell hXb 2).trans rfl
  have y0 := World.new_ne w2 _ x0
  have y1 := World.new_ne w2 _ x1
  have y2 := World.new_ne w2 _ x2
  clear hXb
  go_region_held3 (fun w' => w'.cell? ⟨gb, 0, none⟩ = some (.int .i64 n) ∧ w'.cell? ⟨gb, 1, none⟩ = some (.int .i64 room) ∧ w'.cell? ⟨gb, 2, none⟩ = some (.bool ow))
    (go_keep)
    ((go_at_call 75; (refine (clone_minus ms.length gN _ _ HM.out (Kd.R_below HR.out (by repeat (first | exact Below.refl _ _ | apply below_drew | apply pw_below_drewN | apply below_alloc)))).mono ?_); rintro e w3 ⟨Ac, cc, rfl, hRC, hbC⟩; have hq : Below w2.heap.size w2 w3 := below_then (by repeat (first | exact Below.refl _ _ | apply below_drew | apply pw_below_drewN | apply below_alloc)) (Below.size (w := w2) (B := w2.heap.size) (by repeat (first | exact Below.refl _ _ | apply below_drew | apply pw_below_drewN | apply below_alloc))) hbC; have s0 := pw_cell_below hq x0; have s1 := pw_cell_below hq x1; have s2 := pw_cell_below hq x2; have z0 := World.new_ne w3 _ s0; have z1 := World.new_ne w3 _ s1; have z2 := World.new_ne w3 _ s2; have Hq := Aside0.mk hq; have HRC := Aside0.mk hRC; have HbC := Aside0.mk hbC; clear hq hRC hbC))
  all_goals
    have HI3 := Aside0.mk (Kd.R_below (Kd.R_lower HR.out (show w.heap.size ≤ _ by have := HB1.out.size; simp; omega)) Hq.out)
    have HR3 := Aside0.mk (Kd.R_lower HRC.out (show w.heap.size ≤ _ by have := HB1.out.size; have := HB2.out.size; simp at this ⊢; omega))
    have hN := Kd.R_lt HR.out gN rfl
    have hvC := Aside0.mk (fun k (hk : (Value.slice Ac ms.length cc).ownBlock = some k) => (show (_ ≤ k ∧ k < w3.heap.size) from ⟨Kd.R_base HRC.out k hk, Kd.R_lt HRC.out k hk⟩))
    have hz1 := HB1.out.size
    have hz2 := HB2.out.size
    have hz3 := Hq.out.size
    have hn12 := HN.out.2
    have HBB : Below w.heap.size w w3 := below_then (below_then (below_alloc HB1.out _) (by simp; omega) HB2.out) (by simp at hz2; omega) Hq.out
    simp only [World.size_alloc, World.size_drew] at hz2
    have hz4 := HbC.out.size
    simp only [World.size_alloc, World.size_drew] at hz4
    go_wp2
    go_ret
    refine new_post (blk_new_at _ ?_) ?_ HC.out Hc.out
    · simp
    refine Core.new ?_ ?_ ?_ ?_ ?_ ?_ ?_ ?_ ?_ ?_ ?_ ?_ ?_ ?_ ?_
    · repeat (first | exact HBB | apply below_alloc | apply below_drew)
    · omega
    · simp
    · omega
    · repeat (first | with_reducible exact blk_new_at _ (by simp; done) | with_reducible refine blk_alloc ?_ _ | with_reducible refine blk_drew ?_ | with_reducible refine blk_below ?_ HbC.out)
    · repeat (first | with_reducible exact ints_row_at (by simp; done) (by (try simp only [World.size_alloc, World.size_drew]); omega) hn12 | with_reducible refine Kd.R_alloc ?_ _ | with_reducible refine Kd.R_drew ?_ | with_reducible refine Kd.R_below ?_ HbC.out)
    · repeat (first | exact HI3.out | apply Kd.R_alloc | apply Kd.R_drew)
    · repeat (first | exact HR3.out | apply Kd.R_alloc | apply Kd.R_drew)
    · omega
    · omega
    · simp only [Value.ownBlock, ne_eq, Option.some.injEq]; omega
    · exact fun e => by have := hvC.out _ e.symm; simp only [World.size_alloc, World.size_drew] at this; omega
    · simp only [Value.ownBlock, ne_eq, Option.some.injEq]; omega
    · exact fun e => by have := hvC.out _ e.symm; simp only [World.size_alloc, World.size_drew] at this; omega
    · exact fun k hk e => by have h1 := hvC.out _ e; have h2 : gN = k := (by simpa [Value.ownBlock] using hk); simp only [World.size_alloc, World.size_drew] at h1; omega
end Ins
end Go.Proofs.Ytkfghiofmamdnaa.PA
