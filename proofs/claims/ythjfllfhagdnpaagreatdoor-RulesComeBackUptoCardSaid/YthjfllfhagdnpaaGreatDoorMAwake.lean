/- By the machine: awake, of the package on rules. -/
import Derived.Test.YthjfllfhagdnpaaGreatDoorMTextM
set_option linter.unusedSimpArgs false
set_option linter.unusedVariables false
namespace Go.Proofs.YthjfllfhagdnpaaGreatDoor.M
open Go.AM Go.RowKit Go.Lib
open Reg (Rect Spans Band)

def r5 : Rules := ⟨0, 5, 0, 0, 0, [], []⟩
def T5 : ByteArray := ⟨#[114, 117, 108, 101, 115, 32, 48, 32, 53, 32, 48, 32, 48, 32, 48, 10]⟩
theorem ok5 : rulesOK r5 := ⟨(fun c h => by cases h), by decide, by decide⟩
theorem text5 : textR r5 = (T5, 0) := by kernel_rfl
theorem awake_yes : ACalls C 20 [] (.p (bool true)) [] := by
  refine fun_go hC Tryz.func20 rfl rfl 14 rfl (by decide) (by kernel_rfl) fun _ _ _ _ _ => ?_
  have h := house_Text r5 ok5
  rw [text5] at h
  (refine yS (yA rfl (yU (yP rfl (yn rfl (zqX zI ?_))))); refine ⟨_, _, h, ?_⟩)
  ((refine zkn rfl rfl (zst_tu (yq rfl (zq1 zI (zkq (zst_tu (yP rfl (yP rfl (yA rfl (yA rfl (yU (yP rfl (yP rfl (yP rfl ?_))))))))))))); refine y1 rfl (y1 rfl (yP rfl (yA rfl (yR zi ?_))))); refine And.intro ?_ trivial)
  exact congrArg (fun z => PV.im (Value.bool z)) (show decide (T5 = T5) = true from decide_eq_true rfl)
end Go.Proofs.YthjfllfhagdnpaaGreatDoor.M
