/- What all walks of this claim share: the facts on the world that Go's library asks, and small lemmas on results. -/
import Derived.Test.YtneggmggiepnoaaDoorPlainDigits
import Derived.Test.YtneggmggiepnoaaDoorShelf
import Derived.WalkKit
import Derived.WalkSpells
import Derived.WalkLawsBesides
import Derived.Lib.Hide
import Derived.Lib.AppendIntMem
import Derived.Lib.SmallJoins
namespace Go.Proofs.YtneggmggiepnoaaDoor
open Go.RowKit

theorem ret_int {k : IntKind} {a b : Int} (h : a = b) : Ending.returned (.int k a) = .returned (.int k b) := by rw [h]
theorem ret_str {a b : ByteArray} (h : a.data.toList = b.data.toList) : Ending.returned (.string a) = .returned (.string b) := by rw [Plain.ext_list h]
theorem wrap_in (x : Int) (h0 : -9223372036854775808 ≤ x) (h1 : x ≤ 9223372036854775807) : wrap64 x = x := IntWalk.wrap64_in x ⟨h0, h1⟩
theorem results_tmp4 {fn : Func} {t u v x : Tmp} (h : fn.results = #[.tmp t, .tmp u, .tmp v, .tmp x]) (tmps : Array Value) (P : Program) (w : World) :
    (results fn tmps).run P w = .ok (.tuple #[tmps.getD t undef, tmps.getD u undef, tmps.getD v undef, tmps.getD x undef]) w := by simp [results, h]

theorem gPow : Tryd.prog.globalNamed "internal/strconv.uint64pow10" = some 3 := by kernel_rfl

/-- what the walks ask of the world: the library's variables that are read -/
def Env (w : World) : Prop := (∃ m : Int, w.cell? ⟨0, 0, none⟩ = some (.int .i64 m)) ∧ Lib.TabIs Tryd.prog w "internal/strconv.uint64pow10" .u64 Lib.pow10Tab
theorem Env.lt0 {w : World} (h : Env w) : 0 < w.heap.size := by
  obtain ⟨m, hm⟩ := h.1
  exact block_lt_of_cell hm
theorem Env.lt1 {w : World} (h : Env w) : 3 < w.heap.size := block_lt_of_cell (h.2.cell gPow 0 (by decide))
theorem Env.below {w w' : World} (h : Env w) (hb : Below w.heap.size w w') : Env w' := by
  have h0 := h.lt0
  have h1 := h.lt1
  obtain ⟨⟨m, hm⟩, ht⟩ := h
  exact ⟨⟨m, (hb.cell (by exact h0)).trans hm⟩, var?_below hb gPow h1 ht⟩
theorem Env.alloc {w : World} (h : Env w) (o : Obj) : Env (w.alloc o) := h.below ((Below.refl _ _).alloc (Nat.le_refl _) o)
theorem Env.drew {w : World} (h : Env w) : Env w.drew := h.below ((Below.refl _ _).drew)
end Go.Proofs.YtneggmggiepnoaaDoor
