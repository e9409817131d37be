/- Words for settings. -/
import Derived.Test.YtjdgckamjgldmaaEngD
import Derived.Test.YtjdgckamjgldmaaSpecC
import Derived.Test.YtjdgckamjgldmaaW22
import Derived.Test.YtjdgckamjgldmaaW24
namespace Go.Proofs.Ytjdgckamjgldmaa
open Go.RowKit Go.Eng
theorem pl24 : ∀ w, (isAgg 24).run Try.prog w = .ok false w := fun _ => by kernel_rfl
theorem pl26 : ∀ w, (isAgg 26).run Try.prog w = .ok false w := fun _ => by kernel_rfl
theorem pl5 : ∀ w, (isAgg 5).run Try.prog w = .ok false w := fun _ => by kernel_rfl
theorem pl70 : ∀ w, (isAgg 70).run Try.prog w = .ok false w := fun _ => by kernel_rfl
theorem info24 : (Try.prog.info? 24).map (fun i => (i.zero, i.size, i.bytes)) = some (some (.int .u32 0), 1, 4) := by kernel_rfl
theorem info70 : (Try.prog.info? 70).map (fun i => (i.zero, i.size, i.bytes)) = some (some (.pointer none), 1, 8) := by kernel_rfl
theorem ty66 : ElemT Try.prog 66 24 4 (.int .u32 0) := ⟨Try.underlying66, info_parts info24, rfl, fun _ => by kernel_rfl⟩
theorem ty67 : ElemT Try.prog 67 70 8 (.pointer none) := ⟨Try.underlying67, info_parts info70, rfl, fun _ => by kernel_rfl⟩
theorem bodied14 : Bodied Try.prog 14 := bodied Try.func14 rfl rfl
theorem bodied15 : Bodied Try.prog 15 := bodied Try.func15 rfl rfl
theorem bodied16 : Bodied Try.prog 16 := bodied Try.func16 rfl rfl
theorem bodied17 : Bodied Try.prog 17 := bodied Try.func17 rfl rfl
theorem bodied18 : Bodied Try.prog 18 := bodied Try.func18 rfl rfl
theorem bodied20 : Bodied Try.prog 20 := bodied Try.func20 rfl rfl
theorem bodied21 : Bodied Try.prog 21 := bodied Try.func21 rfl rfl
theorem bodied22 : Bodied Try.prog 22 := bodied Try.func22 rfl rfl
theorem bodied23 : Bodied Try.prog 23 := bodied Try.func23 rfl rfl
theorem bodied24 : Bodied Try.prog 24 := bodied Try.func24 rfl rfl
theorem bodied49 : Bodied Try.prog 49 := bodied Try.func49 rfl rfl
theorem bodied50 : Bodied Try.prog 50 := bodied Try.func50 rfl rfl
theorem bodied51 : Bodied Try.prog 51 := bodied Try.func51 rfl rfl
def cfL (va vs : Value) (c : Cf) : List Value :=
  [va, .int .u32 c.kt, .int .u32 c.pr, .int .u32 c.dt, .int .u32 c.dp, .int .u32 c.va, .int .u32 c.le, .int .u32 c.ga, .int .u32 c.mt, vs, .int .u16 c.it, .int .i64 c.h, .int .u16 c.sz]
/-- v is the settings c. -/
structure CfV (w : World) (v : Value) (va vs : Value) (c : Cf) : Prop where
  val : v = .agg (cfL va vs c).toArray
  apex : Nm w va c.apex
  salt : Bs w vs c.salt
  ok : c.ok
theorem CfV.keep {w w' : World} {v va vs : Value} {c : Cf} (h : CfV w v va vs c) (hb : Below w.heap.size w w') : CfV w' v va vs c := ⟨h.val, h.apex.keep hb, h.salt.keep hb, h.ok⟩
theorem cfL_cells (va vs : Value) (c : Cf) : (Value.agg (cfL va vs c).toArray).cells = (cfL va vs c).toArray := by
  simp [Value.cells]
theorem sl_cells {w : World} {v : Value} {xs : List Value} (h : Sl w v xs) : v.cells = #[v] := by
  obtain ⟨A, c, rfl, -⟩ := h
  rfl
end Go.Proofs.Ytjdgckamjgldmaa
