/- The short codes are the given functions; no condition. -/
import Derived.Test.YteeejellpcikkaaProg
import Derived.Test.YteeejellpcikkaaG5C
set_option linter.unusedVariables false
set_option linter.unusedSimpArgs false
set_option maxRecDepth 100000
set_option maxHeartbeats 4000000
set_option linter.unusedVariables false
namespace Go.Proofs.Yteeejellpcikkaa.Ev.G5
open Go
theorem ok_4 : OkFn Try.prog 4 k4 := chkFn_ok (by decide +kernel)
theorem ok_5 : OkFn Try.prog 5 k5 := chkFn_ok (by decide +kernel)
theorem ok_9 : OkFn Try.prog 9 k9 := chkFn_ok (by decide +kernel)
theorem ok_10 : OkFn Try.prog 10 k10 := chkFn_ok (by decide +kernel)
theorem ok_11 : OkFn Try.prog 11 k11 := chkFn_ok (by decide +kernel)
theorem ok_22 : OkFn Try.prog 22 k22 := chkFn_ok (by decide +kernel)
theorem ok_23 : OkFn Try.prog 23 k23 := chkFn_ok (by decide +kernel)
theorem ok_24 : OkFn Try.prog 24 k24 := chkFn_ok (by decide +kernel)
theorem ok_25 : OkFn Try.prog 25 k25 := chkFn_ok (by decide +kernel)
theorem ok_26 : OkFn Try.prog 26 k26 := chkFn_ok (by decide +kernel)
theorem ok_27 : OkFn Try.prog 27 k27 := chkFn_ok (by decide +kernel)
theorem ok_28 : OkFn Try.prog 28 k28 := chkFn_ok (by decide +kernel)
theorem ok_29 : OkFn Try.prog 29 k29 := chkFn_ok (by decide +kernel)
theorem ok_30 : OkFn Try.prog 30 k30 := chkFn_ok (by decide +kernel)
theorem ok_31 : OkFn Try.prog 31 k31 := chkFn_ok (by decide +kernel)
theorem ok_32 : OkFn Try.prog 32 k32 := chkFn_ok (by decide +kernel)
theorem ok_33 : OkFn Try.prog 33 k33 := chkFn_ok (by decide +kernel)
theorem ok_34 : OkFn Try.prog 34 k34 := chkFn_ok (by decide +kernel)
theorem ok_35 : OkFn Try.prog 35 k35 := chkFn_ok (by decide +kernel)
theorem ok_36 : OkFn Try.prog 36 k36 := chkFn_ok (by decide +kernel)
theorem ok_37 : OkFn Try.prog 37 k37 := chkFn_ok (by decide +kernel)
theorem ok_38 : OkFn Try.prog 38 k38 := chkFn_ok (by decide +kernel)
theorem ok_39 : OkFn Try.prog 39 k39 := chkFn_ok (by decide +kernel)
theorem ok_41 : OkFn Try.prog 41 k41 := chkFn_ok (by decide +kernel)
theorem ok_43 : OkFn Try.prog 43 k43 := chkFn_ok (by decide +kernel)
theorem ok_44 : OkFn Try.prog 44 k44 := chkFn_ok (by decide +kernel)
theorem ok_45 : OkFn Try.prog 45 k45 := chkFn_ok (by decide +kernel)
theorem ok_46 : OkFn Try.prog 46 k46 := chkFn_ok (by decide +kernel)
theorem ok_47 : OkFn Try.prog 47 k47 := chkFn_ok (by decide +kernel)
theorem ok_48 : OkFn Try.prog 48 k48 := chkFn_ok (by decide +kernel)
theorem ok_49 : OkFn Try.prog 49 k49 := chkFn_ok (by decide +kernel)
theorem ok_50 : OkFn Try.prog 50 k50 := chkFn_ok (by decide +kernel)
theorem ok_51 : OkFn Try.prog 51 k51 := chkFn_ok (by decide +kernel)
theorem ok_52 : OkFn Try.prog 52 k52 := chkFn_ok (by decide +kernel)
theorem ok_53 : OkFn Try.prog 53 k53 := chkFn_ok (by decide +kernel)
theorem ok_56 : OkFn Try.prog 56 k56 := chkFn_ok (by decide +kernel)
theorem ok_57 : OkFn Try.prog 57 k57 := chkFn_ok (by decide +kernel)
theorem ok_58 : OkFn Try.prog 58 k58 := chkFn_ok (by decide +kernel)
theorem ok_59 : OkFn Try.prog 59 k59 := chkFn_ok (by decide +kernel)
theorem ok_60 : OkFn Try.prog 60 k60 := chkFn_ok (by decide +kernel)
theorem ok_61 : OkFn Try.prog 61 k61 := chkFn_ok (by decide +kernel)
theorem ok_62 : OkFn Try.prog 62 k62 := chkFn_ok (by decide +kernel)
theorem ok_63 : OkFn Try.prog 63 k63 := chkFn_ok (by decide +kernel)
theorem ok_64 : OkFn Try.prog 64 k64 := chkFn_ok (by decide +kernel)
theorem ok_65 : OkFn Try.prog 65 k65 := chkFn_ok (by decide +kernel)
theorem ok_66 : OkFn Try.prog 66 k66 := chkFn_ok (by decide +kernel)
theorem ok_67 : OkFn Try.prog 67 k67 := chkFn_ok (by decide +kernel)
theorem ok_68 : OkFn Try.prog 68 k68 := chkFn_ok (by decide +kernel)
theorem ok_69 : OkFn Try.prog 69 k69 := chkFn_ok (by decide +kernel)
theorem ok_70 : OkFn Try.prog 70 k70 := chkFn_ok (by decide +kernel)
theorem ok_71 : OkFn Try.prog 71 k71 := chkFn_ok (by decide +kernel)
theorem ok_72 : OkFn Try.prog 72 k72 := chkFn_ok (by decide +kernel)
theorem ok_73 : OkFn Try.prog 73 k73 := chkFn_ok (by decide +kernel)
theorem ok_74 : OkFn Try.prog 74 k74 := chkFn_ok (by decide +kernel)
theorem ok_75 : OkFn Try.prog 75 k75 := chkFn_ok (by decide +kernel)
theorem ok_76 : OkFn Try.prog 76 k76 := chkFn_ok (by decide +kernel)
theorem ok_77 : OkFn Try.prog 77 k77 := chkFn_ok (by decide +kernel)
theorem ok_78 : OkFn Try.prog 78 k78 := chkFn_ok (by decide +kernel)
theorem ok_79 : OkFn Try.prog 79 k79 := chkFn_ok (by decide +kernel)
theorem ok_81 : OkFn Try.prog 81 k81 := chkFn_ok (by decide +kernel)
theorem ok_82 : OkFn Try.prog 82 k82 := chkFn_ok (by decide +kernel)
theorem look_ok {p : Nat → Fn → Prop} : ∀ (l : List (Nat × Fn)), (∀ q, q ∈ l → p q.1 q.2) → ∀ f F, look l f = some F → p f F := by
  intro l
  induction l with
  | nil => intro _ f F h; cases h
  | cons q l ih =>
    intro hq f F h
    obtain ⟨k, G⟩ := q
    simp only [look] at h
    split at h
    · rename_i e
      obtain rfl := Nat.eq_of_beq_eq_true e
      obtain rfl := Option.some.inj h
      exact hq (k, G) (by simp)
    · exact ih (fun q h => hq q (by simp [h])) f F h
theorem all_ok : ∀ q, q ∈ codes → OkFn Try.prog q.1 q.2 := List.forall_mem_cons.2 ⟨ok_4, List.forall_mem_cons.2 ⟨ok_5, List.forall_mem_cons.2 ⟨ok_9, List.forall_mem_cons.2 ⟨ok_10, List.forall_mem_cons.2 ⟨ok_11, List.forall_mem_cons.2 ⟨ok_22, List.forall_mem_cons.2 ⟨ok_23, List.forall_mem_cons.2 ⟨ok_24, List.forall_mem_cons.2 ⟨ok_25, List.forall_mem_cons.2 ⟨ok_26, List.forall_mem_cons.2 ⟨ok_27, List.forall_mem_cons.2 ⟨ok_28, List.forall_mem_cons.2 ⟨ok_29, List.forall_mem_cons.2 ⟨ok_30, List.forall_mem_cons.2 ⟨ok_31, List.forall_mem_cons.2 ⟨ok_32, List.forall_mem_cons.2 ⟨ok_33, List.forall_mem_cons.2 ⟨ok_34, List.forall_mem_cons.2 ⟨ok_35, List.forall_mem_cons.2 ⟨ok_36, List.forall_mem_cons.2 ⟨ok_37, List.forall_mem_cons.2 ⟨ok_38, List.forall_mem_cons.2 ⟨ok_39, List.forall_mem_cons.2 ⟨ok_41, List.forall_mem_cons.2 ⟨ok_43, List.forall_mem_cons.2 ⟨ok_44, List.forall_mem_cons.2 ⟨ok_45, List.forall_mem_cons.2 ⟨ok_46, List.forall_mem_cons.2 ⟨ok_47, List.forall_mem_cons.2 ⟨ok_48, List.forall_mem_cons.2 ⟨ok_49, List.forall_mem_cons.2 ⟨ok_50, List.forall_mem_cons.2 ⟨ok_51, List.forall_mem_cons.2 ⟨ok_52, List.forall_mem_cons.2 ⟨ok_53, List.forall_mem_cons.2 ⟨ok_56, List.forall_mem_cons.2 ⟨ok_57, List.forall_mem_cons.2 ⟨ok_58, List.forall_mem_cons.2 ⟨ok_59, List.forall_mem_cons.2 ⟨ok_60, List.forall_mem_cons.2 ⟨ok_61, List.forall_mem_cons.2 ⟨ok_62, List.forall_mem_cons.2 ⟨ok_63, List.forall_mem_cons.2 ⟨ok_64, List.forall_mem_cons.2 ⟨ok_65, List.forall_mem_cons.2 ⟨ok_66, List.forall_mem_cons.2 ⟨ok_67, List.forall_mem_cons.2 ⟨ok_68, List.forall_mem_cons.2 ⟨ok_69, List.forall_mem_cons.2 ⟨ok_70, List.forall_mem_cons.2 ⟨ok_71, List.forall_mem_cons.2 ⟨ok_72, List.forall_mem_cons.2 ⟨ok_73, List.forall_mem_cons.2 ⟨ok_74, List.forall_mem_cons.2 ⟨ok_75, List.forall_mem_cons.2 ⟨ok_76, List.forall_mem_cons.2 ⟨ok_77, List.forall_mem_cons.2 ⟨ok_78, List.forall_mem_cons.2 ⟨ok_79, List.forall_mem_cons.2 ⟨ok_81, List.forall_mem_cons.2 ⟨ok_82, List.forall_mem_nil _⟩⟩⟩⟩⟩⟩⟩⟩⟩⟩⟩⟩⟩⟩⟩⟩⟩⟩⟩⟩⟩⟩⟩⟩⟩⟩⟩⟩⟩⟩⟩⟩⟩⟩⟩⟩⟩⟩⟩⟩⟩⟩⟩⟩⟩⟩⟩⟩⟩⟩⟩⟩⟩⟩⟩⟩⟩⟩⟩⟩⟩
theorem right : Right Try.prog RN := run_right (by kernel_rfl) (by intro f ts sto r h; cases h) fun f F h => look_ok codes all_ok f F h
end Go.Proofs.Yteeejellpcikkaa.Ev.G5
