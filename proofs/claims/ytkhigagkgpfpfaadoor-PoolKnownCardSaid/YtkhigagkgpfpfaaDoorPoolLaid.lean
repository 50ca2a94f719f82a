/- The three listed variables, laid: what they give the walks, and a world that holds them. -/
import Derived.Test.YtkhigagkgpfpfaaDoorPoolOpen
import Derived.Deep.DeepHandedRow
import Derived.Deep.DeepWitnessRowRef
import Derived.PinnedBridge
import Derived.Lay
import Derived.LaidOnce
import Derived.SevenTiedAt
import Derived.Lib.LaidU8T
import Derived.SizedLaws
set_option linter.unusedVariables false
set_option linter.unusedSimpArgs false
namespace Go.Proofs.YtkhigagkgpfpfaaDoor.Ext
open Go.ChangeShapes Go.WideShapes Go.ChangeAt Go.RowKit Go.Shelf Go.Lib

def poolLaid : List (String × DataW Unit) := [("unicode/utf8.acceptRanges", Rows.laid_unicode_utf8_acceptRanges), ("warpbeam/pool.reads", Rows.laid_warpbeam_pool_reads), ("unicode/utf8.first", Rows.laid_unicode_utf8_first)]
def plainLaid : List (String × DataW Unit) := [("unicode/utf8.acceptRanges", Rows.laid_unicode_utf8_acceptRanges), ("unicode/utf8.first", Rows.laid_unicode_utf8_first)]
theorem accept_eq : (Rows.laid_unicode_utf8_acceptRanges : DataW Unit) = acceptData := by kernel_rfl
theorem filt_none : (poolLaid.filter fun x => x.2.handleName?.isNone) = plainLaid := by kernel_rfl
theorem filt_some : (poolLaid.filter fun x => x.2.handleName?.isSome) = [("warpbeam/pool.reads", Rows.laid_warpbeam_pool_reads)] := by kernel_rfl
theorem plain_of {W : World} (h : laidMetH Tryd.prog poolLaid W) : laidMet Tryd.prog plainLaid W := by
  unfold laidMetH at h
  rw [filt_some, filt_none] at h
  exact h.1
theorem tabs_of {W : World} (h : laidMetH Tryd.prog poolLaid W) : Tabs W := by
  have hL := plain_of h
  have h3 := Lib.laidMet.reads hL (.tail _ (.head _))
  have h4 := Lib.laidMet.reads hL (.head _)
  exact utf8Tabs_of_readsT (U8Types.of196 Tryd.lays196) ⟨by kernel_rfl, by kernel_rfl, by kernel_rfl, by kernel_rfl, by kernel_rfl, by kernel_rfl, by kernel_rfl⟩ (Pinned.utf8First_eq ▸ h3) (accept_eq ▸ h4)
theorem rdsL {W : World} (h : laidMetH Tryd.prog poolLaid W) : Rds W := rds_of h (.tail _ (.head _))
noncomputable def startWorld (os : Os) : World := ((((((World.holding Tryd.prog os ⟨#[], #[], []⟩).setCell ⟨0, 1, none⟩ (.func (.func 108) #[] #[])).setCell ⟨0, 2, none⟩ (.func (.func 109) #[] #[])).setCell ⟨0, 3, none⟩ (.func (.func 109) #[] #[])).setCell ⟨0, 4, none⟩ (.func (.func 106) #[] #[])).setCell ⟨0, 5, none⟩ (.func (.func 110) #[] #[])).setCell ⟨0, 6, none⟩ (.func (.func 110) #[] #[])
noncomputable def laidWorld (os : Os) : World := (startWorld os).layVars Tryd.prog plainLaid
theorem laidWorld_os (os : Os) : (laidWorld os).os = os := by
  unfold laidWorld
  rw [World.layVars_os]
  rfl
theorem plain_met (os : Os) (args : Array Value) : laidMet Tryd.prog plainLaid ((laidWorld os).forCall (fun _ _ => 0) ⟨#[], args, []⟩).memory := by
  have e1 : (plainLaid.filter fun x => (plainLaid.map (·.1)).contains x.1) = plainLaid := List.filter_eq_self.2 fun x hx => List.contains_iff_mem.2 (List.mem_map.2 ⟨x, hx, rfl⟩)
  have e2 : (plainLaid.filter fun x => !(plainLaid.map (·.1)).contains x.1) = [] := List.filter_eq_nil_iff.2 fun x hx => by rw [List.contains_iff_mem.2 (List.mem_map.2 ⟨x, hx, rfl⟩)]; simp
  have h : laidMet Tryd.prog plainLaid (laidWorld os) := laidMet_layVars (w0 := startWorld os) (plainLaid.map (·.1)) [] (by rw [e1]; rfl) (by rw [e1]; kernel_rfl) (by rw [e1]; kernel_rfl) (by rw [e2]; exact LaidIn.none)
  exact h.of_heap (by simp [World.memory, World.forCall, Input.heap])
theorem funcs_met (os : Os) (args : Array Value) : funcsRun Tryd.prog ((laidWorld os).forCall (fun _ _ => 0) ⟨#[], args, []⟩).memory 8 ((funcsListed poolLaid).map (·.1)) = some ((funcsListed poolLaid).map (·.2.funcsOut)) := by kernel_rfl
theorem handles_met (os : Os) (args : Array Value) : (poolLaid.filter fun x => x.2.handleName?.isSome && x.2.funcsIn?.isNone).all (handleAtB Tryd.prog ((laidWorld os).forCall (fun _ _ => 0) ⟨#[], args, []⟩).memory) = true := by kernel_rfl
theorem laid_met (os : Os) (args : Array Value) : laidMetH Tryd.prog poolLaid ((laidWorld os).forCall (fun _ _ => 0) ⟨#[], args, []⟩).memory :=
  laidMetH_of_parts3 (fuel := 8) (by rw [filt_none]; exact plain_met os args) (handles_met os args) (funcs_met os args)
end Go.Proofs.YtkhigagkgpfpfaaDoor.Ext
