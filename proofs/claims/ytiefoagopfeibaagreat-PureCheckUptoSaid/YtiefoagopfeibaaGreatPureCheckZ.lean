/- The law PureCheck returns true for every input, and leaves its arguments as they were; no condition beyond those of the statement itself. -/
import Derived.Test.YtiefoagopfeibaaGreatPureCheckL1
import Derived.Test.YtiefoagopfeibaaGreatPureCheckW
import Derived.Test.YtiefoagopfeibaaGreatPureCheckD
import Derived.Test.YtiefoagopfeibaaGreatChecked
import Derived.Test.YtiefoagopfeibaaGreatRows
namespace Go.Proofs.YtiefoagopfeibaaGreat
open Go.ChangeShapes Go.WideShapes Go.ChangeAt Go.RowKit Go.Abs
def bulk_Tryz (H : Type) : Bk H := { bk := Rows.uptoBulk, al := Rows.uptoBulkAll, str := fun s => by simp [Rows.uptoBulk], one := fun d => by (cases d <;> first | (simp [Rows.uptoBulk]; done) | (rename_i l; cases l <;> simp [Rows.uptoBulk])), sl := fun e s => by (simp only [Rows.uptoBulk]; omega), ag := fun l => by simp [Rows.uptoBulk], nil := by simp [Rows.uptoBulkAll], cons := fun _ _ => by simp [Rows.uptoBulkAll] }
set_option maxRecDepth 100000 in
theorem pureCheck_lifted (os : Os) (started : os.Started) (H : Type) (enc : TypeId × Value → H) (F : Stop.Interp) :
    ReturnsInHanded {} Tryz.checked os 3 .any ((Rows.OpenSpec.upto Rows.pureCheckSpec).pre6 enc Tryz.prog Tryz.f3 Rows.pureCheckUptoRow.domain false) (((Rows.OpenSpec.upto Rows.pureCheckSpec).at F).post enc Tryz.prog Tryz.f3 false true false false) := by
  refine law_upto (s := Rows.pureCheckSpec) (s2 := Rows.OpenSpec.upto Rows.pureCheckSpec) (k := Rows.uptoSmall) rfl (B := 4) own_Tryz started (by kernel_rfl) Tryz.func3 (OpenSpec.witness (enc := enc) (C := Tryz.checked) (s := Rows.OpenSpec.upto Rows.pureCheckSpec) (k := Rows.uptoSmall) rfl false ⟨#[], #[.slice none 0 0], []⟩ 8 (by kernel_rfl) (by kernel_rfl) (by kernel_rfl) (x := ([.nil], [], [])) (by kernel_rfl) rfl (by kernel_rfl)) laidOut_Tryz (by kernel_rfl) rfl rfl (by kernel_rfl) (by kernel_rfl) (fun ds h => ?_) (fun _ _ _ _ h => h) ?_
  · match ds, h with
    | [_], _ => rfl
  · intro W base args ds ps hval hA0 hkk
    have hA : DataW.TrodAll enc Tryz.prog W 0 (fun _ => true) true [22] args.toList ds ps := hA0
    have hval : ∀ (j : Nat) t v, (#[22] : Array TypeId)[j]? = some t → args[j]? = some v → Value.okWide Tryz.prog W .any base t v := hval
    obtain ⟨v0, l0, d0, e0, p0, q0, ea0, rfl, rfl, h0, hA⟩ := trodAll_cons hA
    obtain ⟨rfl, _, _⟩ := trodAll_nil hA
    subst_vars
    obtain ⟨a0, g0, b0, r0⟩ := decU_arg (K := bulk_Tryz H) (dec_t22) h0
    have k0 := hval 0 22 v0 rfl (by rw [← Array.getElem?_toList, ea0]; rfl)
    have hb : Rows.uptoBulkAll [d0] ≤ 1048576 := of_decide_eq_true hkk
    simp only [Rows.uptoBulkAll] at hb
    have b0 : (lsum uGClass a0 + 1) ≤ Rows.uptoBulk d0 := b0
    exact ⟨_, argsRd_all (xs := [.vs 7 (List.map eGClass a0)]) (by rw [ea0]; exact ⟨arg_one r0 k0 (by kernel_rfl), trivial⟩), law22_PureCheck_ok (law22_PureCheck_true g0 (by omega))⟩
theorem pureCheck_holds : Rows.PureCheckUptoSaid :=
  OpenClaim.holds_of_cond 3 Tryz.f3 rfl rfl rfl rfl rfl rfl rfl ⟨rfl, rfl, rfl, rfl, rfl⟩ rfl rfl rfl rfl rfl (by kernel_rfl) Tryz.func3 (by kernel_rfl)
    (of_decide_eq_true (by kernel_rfl)) (by unfold Func.isWrapper; rw [if_neg (by decide +kernel)]; exact ⟨rfl, rfl⟩)
    (fun os started H enc _ F => pureCheck_lifted os started H enc F)
end Go.Proofs.YtiefoagopfeibaaGreat
