/- The short codes are the given functions; no condition. -/
import Derived.Test.YtdblfocadcgmaaaProg
import Derived.Test.YtdblfocadcgmaaaW7C
set_option linter.unusedVariables false
set_option linter.unusedSimpArgs false
set_option maxRecDepth 100000
set_option maxHeartbeats 4000000
set_option linter.unusedVariables false
namespace Go.Proofs.Ytdblfocadcgmaaa.Ev.W7
open Go
theorem ok_3 : OkFn Try.prog 3 k3 := chkFn_ok (by decide +kernel)
theorem ok_5 : OkFn Try.prog 5 k5 := chkFn_ok (by decide +kernel)
theorem ok_6 : OkFn Try.prog 6 k6 := chkFn_ok (by decide +kernel)
theorem ok_7 : OkFn Try.prog 7 k7 := chkFn_ok (by decide +kernel)
theorem ok_8 : OkFn Try.prog 8 k8 := chkFn_ok (by decide +kernel)
theorem ok_9 : OkFn Try.prog 9 k9 := chkFn_ok (by decide +kernel)
theorem ok_10 : OkFn Try.prog 10 k10 := chkFn_ok (by decide +kernel)
theorem ok_11 : OkFn Try.prog 11 k11 := chkFn_ok (by decide +kernel)
theorem ok_12 : OkFn Try.prog 12 k12 := chkFn_ok (by decide +kernel)
theorem ok_13 : OkFn Try.prog 13 k13 := chkFn_ok (by decide +kernel)
theorem ok_14 : OkFn Try.prog 14 k14 := chkFn_ok (by decide +kernel)
theorem ok_15 : OkFn Try.prog 15 k15 := chkFn_ok (by decide +kernel)
theorem ok_16 : OkFn Try.prog 16 k16 := chkFn_ok (by decide +kernel)
theorem ok_17 : OkFn Try.prog 17 k17 := chkFn_ok (by decide +kernel)
theorem ok_18 : OkFn Try.prog 18 k18 := chkFn_ok (by decide +kernel)
theorem ok_19 : OkFn Try.prog 19 k19 := chkFn_ok (by decide +kernel)
theorem ok_20 : OkFn Try.prog 20 k20 := chkFn_ok (by decide +kernel)
theorem ok_21 : OkFn Try.prog 21 k21 := chkFn_ok (by decide +kernel)
theorem ok_22 : OkFn Try.prog 22 k22 := chkFn_ok (by decide +kernel)
theorem ok_23 : OkFn Try.prog 23 k23 := chkFn_ok (by decide +kernel)
theorem ok_24 : OkFn Try.prog 24 k24 := chkFn_ok (by decide +kernel)
theorem ok_25 : OkFn Try.prog 25 k25 := chkFn_ok (by decide +kernel)
theorem ok_26 : OkFn Try.prog 26 k26 := chkFn_ok (by decide +kernel)
theorem ok_27 : OkFn Try.prog 27 k27 := chkFn_ok (by decide +kernel)
theorem ok_28 : OkFn Try.prog 28 k28 := chkFn_ok (by decide +kernel)
theorem ok_29 : OkFn Try.prog 29 k29 := chkFn_ok (by decide +kernel)
theorem ok_30 : OkFn Try.prog 30 k30 := chkFn_ok (by decide +kernel)
theorem ok_31 : OkFn Try.prog 31 k31 := chkFn_ok (by decide +kernel)
theorem ok_32 : OkFn Try.prog 32 k32 := chkFn_ok (by decide +kernel)
theorem ok_33 : OkFn Try.prog 33 k33 := chkFn_ok (by decide +kernel)
theorem ok_34 : OkFn Try.prog 34 k34 := chkFn_ok (by decide +kernel)
theorem ok_35 : OkFn Try.prog 35 k35 := chkFn_ok (by decide +kernel)
theorem ok_41 : OkFn Try.prog 41 k41 := chkFn_ok (by decide +kernel)
theorem ok_44 : OkFn Try.prog 44 k44 := chkFn_ok (by decide +kernel)
theorem ok_48 : OkFn Try.prog 48 k48 := chkFn_ok (by decide +kernel)
theorem ok_49 : OkFn Try.prog 49 k49 := chkFn_ok (by decide +kernel)
theorem ok_50 : OkFn Try.prog 50 k50 := chkFn_ok (by decide +kernel)
theorem ok_51 : OkFn Try.prog 51 k51 := chkFn_ok (by decide +kernel)
theorem ok_52 : OkFn Try.prog 52 k52 := chkFn_ok (by decide +kernel)
theorem ok_53 : OkFn Try.prog 53 k53 := chkFn_ok (by decide +kernel)
theorem ok_54 : OkFn Try.prog 54 k54 := chkFn_ok (by decide +kernel)
theorem ok_55 : OkFn Try.prog 55 k55 := chkFn_ok (by decide +kernel)
theorem ok_56 : OkFn Try.prog 56 k56 := chkFn_ok (by decide +kernel)
theorem ok_57 : OkFn Try.prog 57 k57 := chkFn_ok (by decide +kernel)
theorem ok_58 : OkFn Try.prog 58 k58 := chkFn_ok (by decide +kernel)
theorem ok_59 : OkFn Try.prog 59 k59 := chkFn_ok (by decide +kernel)
theorem ok_60 : OkFn Try.prog 60 k60 := chkFn_ok (by decide +kernel)
theorem ok_61 : OkFn Try.prog 61 k61 := chkFn_ok (by decide +kernel)
theorem ok_62 : OkFn Try.prog 62 k62 := chkFn_ok (by decide +kernel)
theorem ok_63 : OkFn Try.prog 63 k63 := chkFn_ok (by decide +kernel)
theorem ok_64 : OkFn Try.prog 64 k64 := chkFn_ok (by decide +kernel)
theorem ok_65 : OkFn Try.prog 65 k65 := chkFn_ok (by decide +kernel)
theorem ok_66 : OkFn Try.prog 66 k66 := chkFn_ok (by decide +kernel)
theorem ok_67 : OkFn Try.prog 67 k67 := chkFn_ok (by decide +kernel)
theorem ok_68 : OkFn Try.prog 68 k68 := chkFn_ok (by decide +kernel)
theorem ok_69 : OkFn Try.prog 69 k69 := chkFn_ok (by decide +kernel)
theorem ok_70 : OkFn Try.prog 70 k70 := chkFn_ok (by decide +kernel)
theorem ok_71 : OkFn Try.prog 71 k71 := chkFn_ok (by decide +kernel)
theorem ok_74 : OkFn Try.prog 74 k74 := chkFn_ok (by decide +kernel)
theorem ok_75 : OkFn Try.prog 75 k75 := chkFn_ok (by decide +kernel)
theorem ok_76 : OkFn Try.prog 76 k76 := chkFn_ok (by decide +kernel)
theorem ok_77 : OkFn Try.prog 77 k77 := chkFn_ok (by decide +kernel)
theorem ok_78 : OkFn Try.prog 78 k78 := chkFn_ok (by decide +kernel)
theorem ok_79 : OkFn Try.prog 79 k79 := chkFn_ok (by decide +kernel)
theorem ok_80 : OkFn Try.prog 80 k80 := chkFn_ok (by decide +kernel)
theorem ok_84 : OkFn Try.prog 84 k84 := chkFn_ok (by decide +kernel)
theorem ok_85 : OkFn Try.prog 85 k85 := chkFn_ok (by decide +kernel)
theorem ok_87 : OkFn Try.prog 87 k87 := chkFn_ok (by decide +kernel)
theorem ok_88 : OkFn Try.prog 88 k88 := chkFn_ok (by decide +kernel)
theorem ok_89 : OkFn Try.prog 89 k89 := chkFn_ok (by decide +kernel)
theorem ok_92 : OkFn Try.prog 92 k92 := chkFn_ok (by decide +kernel)
theorem look_ok {p : Nat → Fn → Prop} : ∀ (l : List (Nat × Fn)), (∀ q, q ∈ l → p q.1 q.2) → ∀ f F, look l f = some F → p f F := by
  intro l
  induction l with
  | nil => intro _ f F h; cases h
  | cons q l ih =>
    intro hq f F h
    obtain ⟨k, G⟩ := q
    simp only [look] at h
    split at h
    · rename_i e
      obtain rfl := Nat.eq_of_beq_eq_true e
      obtain rfl := Option.some.inj h
      exact hq (k, G) (by simp)
    · exact ih (fun q h => hq q (by simp [h])) f F h
theorem all_ok : ∀ q, q ∈ codes → OkFn Try.prog q.1 q.2 := List.forall_mem_cons.2 ⟨ok_3, List.forall_mem_cons.2 ⟨ok_5, List.forall_mem_cons.2 ⟨ok_6, List.forall_mem_cons.2 ⟨ok_7, List.forall_mem_cons.2 ⟨ok_8, List.forall_mem_cons.2 ⟨ok_9, List.forall_mem_cons.2 ⟨ok_10, List.forall_mem_cons.2 ⟨ok_11, List.forall_mem_cons.2 ⟨ok_12, List.forall_mem_cons.2 ⟨ok_13, List.forall_mem_cons.2 ⟨ok_14, List.forall_mem_cons.2 ⟨ok_15, List.forall_mem_cons.2 ⟨ok_16, List.forall_mem_cons.2 ⟨ok_17, List.forall_mem_cons.2 ⟨ok_18, List.forall_mem_cons.2 ⟨ok_19, List.forall_mem_cons.2 ⟨ok_20, List.forall_mem_cons.2 ⟨ok_21, List.forall_mem_cons.2 ⟨ok_22, List.forall_mem_cons.2 ⟨ok_23, List.forall_mem_cons.2 ⟨ok_24, List.forall_mem_cons.2 ⟨ok_25, List.forall_mem_cons.2 ⟨ok_26, List.forall_mem_cons.2 ⟨ok_27, List.forall_mem_cons.2 ⟨ok_28, List.forall_mem_cons.2 ⟨ok_29, List.forall_mem_cons.2 ⟨ok_30, List.forall_mem_cons.2 ⟨ok_31, List.forall_mem_cons.2 ⟨ok_32, List.forall_mem_cons.2 ⟨ok_33, List.forall_mem_cons.2 ⟨ok_34, List.forall_mem_cons.2 ⟨ok_35, List.forall_mem_cons.2 ⟨ok_41, List.forall_mem_cons.2 ⟨ok_44, List.forall_mem_cons.2 ⟨ok_48, List.forall_mem_cons.2 ⟨ok_49, List.forall_mem_cons.2 ⟨ok_50, List.forall_mem_cons.2 ⟨ok_51, List.forall_mem_cons.2 ⟨ok_52, List.forall_mem_cons.2 ⟨ok_53, List.forall_mem_cons.2 ⟨ok_54, List.forall_mem_cons.2 ⟨ok_55, List.forall_mem_cons.2 ⟨ok_56, List.forall_mem_cons.2 ⟨ok_57, List.forall_mem_cons.2 ⟨ok_58, List.forall_mem_cons.2 ⟨ok_59, List.forall_mem_cons.2 ⟨ok_60, List.forall_mem_cons.2 ⟨ok_61, List.forall_mem_cons.2 ⟨ok_62, List.forall_mem_cons.2 ⟨ok_63, List.forall_mem_cons.2 ⟨ok_64, List.forall_mem_cons.2 ⟨ok_65, List.forall_mem_cons.2 ⟨ok_66, List.forall_mem_cons.2 ⟨ok_67, List.forall_mem_cons.2 ⟨ok_68, List.forall_mem_cons.2 ⟨ok_69, List.forall_mem_cons.2 ⟨ok_70, List.forall_mem_cons.2 ⟨ok_71, List.forall_mem_cons.2 ⟨ok_74, List.forall_mem_cons.2 ⟨ok_75, List.forall_mem_cons.2 ⟨ok_76, List.forall_mem_cons.2 ⟨ok_77, List.forall_mem_cons.2 ⟨ok_78, List.forall_mem_cons.2 ⟨ok_79, List.forall_mem_cons.2 ⟨ok_80, List.forall_mem_cons.2 ⟨ok_84, List.forall_mem_cons.2 ⟨ok_85, List.forall_mem_cons.2 ⟨ok_87, List.forall_mem_cons.2 ⟨ok_88, List.forall_mem_cons.2 ⟨ok_89, List.forall_mem_cons.2 ⟨ok_92, List.forall_mem_nil _⟩⟩⟩⟩⟩⟩⟩⟩⟩⟩⟩⟩⟩⟩⟩⟩⟩⟩⟩⟩⟩⟩⟩⟩⟩⟩⟩⟩⟩⟩⟩⟩⟩⟩⟩⟩⟩⟩⟩⟩⟩⟩⟩⟩⟩⟩⟩⟩⟩⟩⟩⟩⟩⟩⟩⟩⟩⟩⟩⟩⟩⟩⟩⟩⟩⟩⟩⟩⟩⟩⟩
theorem right : Right Try.prog RN := run_right (by kernel_rfl) (by intro f ts sto r h; cases h) fun f F h => look_ok codes all_ok f F h
end Go.Proofs.Ytdblfocadcgmaaa.Ev.W7
