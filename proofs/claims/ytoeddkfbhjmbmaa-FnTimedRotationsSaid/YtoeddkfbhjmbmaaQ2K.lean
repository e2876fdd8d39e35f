/- The short codes are the given functions; no condition. -/
import Derived.Test.YtoeddkfbhjmbmaaProg
import Derived.Test.YtoeddkfbhjmbmaaQ2C
set_option linter.unusedVariables false
set_option linter.unusedSimpArgs false
set_option maxRecDepth 100000
set_option maxHeartbeats 4000000
set_option linter.unusedVariables false
namespace Go.Proofs.Ytoeddkfbhjmbmaa.Ev.Q2
open Go
theorem ok_12 : OkFn Try.prog 12 k12 := chkFn_ok (by decide +kernel)
theorem ok_15 : OkFn Try.prog 15 k15 := chkFn_ok (by decide +kernel)
theorem ok_17 : OkFn Try.prog 17 k17 := chkFn_ok (by decide +kernel)
theorem ok_19 : OkFn Try.prog 19 k19 := chkFn_ok (by decide +kernel)
theorem ok_20 : OkFn Try.prog 20 k20 := chkFn_ok (by decide +kernel)
theorem ok_21 : OkFn Try.prog 21 k21 := chkFn_ok (by decide +kernel)
theorem ok_22 : OkFn Try.prog 22 k22 := chkFn_ok (by decide +kernel)
theorem ok_35 : OkFn Try.prog 35 k35 := chkFn_ok (by decide +kernel)
theorem ok_37 : OkFn Try.prog 37 k37 := chkFn_ok (by decide +kernel)
theorem ok_39 : OkFn Try.prog 39 k39 := chkFn_ok (by decide +kernel)
theorem ok_40 : OkFn Try.prog 40 k40 := chkFn_ok (by decide +kernel)
theorem ok_44 : OkFn Try.prog 44 k44 := chkFn_ok (by decide +kernel)
theorem ok_45 : OkFn Try.prog 45 k45 := chkFn_ok (by decide +kernel)
theorem ok_46 : OkFn Try.prog 46 k46 := chkFn_ok (by decide +kernel)
theorem ok_47 : OkFn Try.prog 47 k47 := chkFn_ok (by decide +kernel)
theorem ok_48 : OkFn Try.prog 48 k48 := chkFn_ok (by decide +kernel)
theorem ok_49 : OkFn Try.prog 49 k49 := chkFn_ok (by decide +kernel)
theorem ok_50 : OkFn Try.prog 50 k50 := chkFn_ok (by decide +kernel)
theorem ok_51 : OkFn Try.prog 51 k51 := chkFn_ok (by decide +kernel)
theorem ok_52 : OkFn Try.prog 52 k52 := chkFn_ok (by decide +kernel)
theorem ok_72 : OkFn Try.prog 72 k72 := chkFn_ok (by decide +kernel)
theorem ok_73 : OkFn Try.prog 73 k73 := chkFn_ok (by decide +kernel)
theorem ok_74 : OkFn Try.prog 74 k74 := chkFn_ok (by decide +kernel)
theorem ok_75 : OkFn Try.prog 75 k75 := chkFn_ok (by decide +kernel)
theorem ok_76 : OkFn Try.prog 76 k76 := chkFn_ok (by decide +kernel)
theorem ok_79 : OkFn Try.prog 79 k79 := chkFn_ok (by decide +kernel)
theorem ok_82 : OkFn Try.prog 82 k82 := chkFn_ok (by decide +kernel)
theorem ok_83 : OkFn Try.prog 83 k83 := chkFn_ok (by decide +kernel)
theorem ok_84 : OkFn Try.prog 84 k84 := chkFn_ok (by decide +kernel)
theorem ok_85 : OkFn Try.prog 85 k85 := chkFn_ok (by decide +kernel)
theorem ok_86 : OkFn Try.prog 86 k86 := chkFn_ok (by decide +kernel)
theorem ok_87 : OkFn Try.prog 87 k87 := chkFn_ok (by decide +kernel)
theorem ok_88 : OkFn Try.prog 88 k88 := chkFn_ok (by decide +kernel)
theorem ok_89 : OkFn Try.prog 89 k89 := chkFn_ok (by decide +kernel)
theorem ok_90 : OkFn Try.prog 90 k90 := chkFn_ok (by decide +kernel)
theorem ok_91 : OkFn Try.prog 91 k91 := chkFn_ok (by decide +kernel)
theorem ok_92 : OkFn Try.prog 92 k92 := chkFn_ok (by decide +kernel)
theorem ok_93 : OkFn Try.prog 93 k93 := chkFn_ok (by decide +kernel)
theorem ok_105 : OkFn Try.prog 105 k105 := chkFn_ok (by decide +kernel)
theorem ok_107 : OkFn Try.prog 107 k107 := chkFn_ok (by decide +kernel)
theorem ok_108 : OkFn Try.prog 108 k108 := chkFn_ok (by decide +kernel)
theorem ok_113 : OkFn Try.prog 113 k113 := chkFn_ok (by decide +kernel)
theorem ok_114 : OkFn Try.prog 114 k114 := chkFn_ok (by decide +kernel)
theorem ok_115 : OkFn Try.prog 115 k115 := chkFn_ok (by decide +kernel)
theorem ok_116 : OkFn Try.prog 116 k116 := chkFn_ok (by decide +kernel)
theorem ok_118 : OkFn Try.prog 118 k118 := chkFn_ok (by decide +kernel)
theorem look_ok {p : Nat → Fn → Prop} : ∀ (l : List (Nat × Fn)), (∀ q, q ∈ l → p q.1 q.2) → ∀ f F, look l f = some F → p f F := by
  intro l
  induction l with
  | nil => intro _ f F h; cases h
  | cons q l ih =>
    intro hq f F h
    obtain ⟨k, G⟩ := q
    simp only [look] at h
    split at h
    · rename_i e
      obtain rfl := Nat.eq_of_beq_eq_true e
      obtain rfl := Option.some.inj h
      exact hq (k, G) (by simp)
    · exact ih (fun q h => hq q (by simp [h])) f F h
theorem all_ok : ∀ q, q ∈ codes → OkFn Try.prog q.1 q.2 := List.forall_mem_cons.2 ⟨ok_12, List.forall_mem_cons.2 ⟨ok_15, List.forall_mem_cons.2 ⟨ok_17, List.forall_mem_cons.2 ⟨ok_19, List.forall_mem_cons.2 ⟨ok_20, List.forall_mem_cons.2 ⟨ok_21, List.forall_mem_cons.2 ⟨ok_22, List.forall_mem_cons.2 ⟨ok_35, List.forall_mem_cons.2 ⟨ok_37, List.forall_mem_cons.2 ⟨ok_39, List.forall_mem_cons.2 ⟨ok_40, List.forall_mem_cons.2 ⟨ok_44, List.forall_mem_cons.2 ⟨ok_45, List.forall_mem_cons.2 ⟨ok_46, List.forall_mem_cons.2 ⟨ok_47, List.forall_mem_cons.2 ⟨ok_48, List.forall_mem_cons.2 ⟨ok_49, List.forall_mem_cons.2 ⟨ok_50, List.forall_mem_cons.2 ⟨ok_51, List.forall_mem_cons.2 ⟨ok_52, List.forall_mem_cons.2 ⟨ok_72, List.forall_mem_cons.2 ⟨ok_73, List.forall_mem_cons.2 ⟨ok_74, List.forall_mem_cons.2 ⟨ok_75, List.forall_mem_cons.2 ⟨ok_76, List.forall_mem_cons.2 ⟨ok_79, List.forall_mem_cons.2 ⟨ok_82, List.forall_mem_cons.2 ⟨ok_83, List.forall_mem_cons.2 ⟨ok_84, List.forall_mem_cons.2 ⟨ok_85, List.forall_mem_cons.2 ⟨ok_86, List.forall_mem_cons.2 ⟨ok_87, List.forall_mem_cons.2 ⟨ok_88, List.forall_mem_cons.2 ⟨ok_89, List.forall_mem_cons.2 ⟨ok_90, List.forall_mem_cons.2 ⟨ok_91, List.forall_mem_cons.2 ⟨ok_92, List.forall_mem_cons.2 ⟨ok_93, List.forall_mem_cons.2 ⟨ok_105, List.forall_mem_cons.2 ⟨ok_107, List.forall_mem_cons.2 ⟨ok_108, List.forall_mem_cons.2 ⟨ok_113, List.forall_mem_cons.2 ⟨ok_114, List.forall_mem_cons.2 ⟨ok_115, List.forall_mem_cons.2 ⟨ok_116, List.forall_mem_cons.2 ⟨ok_118, List.forall_mem_nil _⟩⟩⟩⟩⟩⟩⟩⟩⟩⟩⟩⟩⟩⟩⟩⟩⟩⟩⟩⟩⟩⟩⟩⟩⟩⟩⟩⟩⟩⟩⟩⟩⟩⟩⟩⟩⟩⟩⟩⟩⟩⟩⟩⟩⟩⟩
theorem right : Right Try.prog RN := run_right (by kernel_rfl) (by intro f ts sto r h; cases h) fun f F h => look_ok codes all_ok f F h
end Go.Proofs.Ytoeddkfbhjmbmaa.Ev.Q2
