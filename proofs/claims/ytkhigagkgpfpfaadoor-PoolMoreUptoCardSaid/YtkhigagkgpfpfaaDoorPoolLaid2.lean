/- The six listed variables of PoolMore, laid: what they give the walk, and a world that holds them. -/
import Derived.Test.YtkhigagkgpfpfaaDoorPoolLaid
import Derived.Lib.LaidTab
import Derived.Lib.ItoaNum
import Derived.WalkSmall
set_option linter.unusedVariables false
set_option linter.unusedSimpArgs false
namespace Go.Proofs.YtkhigagkgpfpfaaDoor.Ext
open Go.ChangeShapes Go.WideShapes Go.ChangeAt Go.RowKit Go.Shelf Go.Lib

def moreLaid : List (String × DataW Unit) := [("math/bits.deBruijn32tab", Rows.laid_math_bits_deBruijn32tab), ("math/bits.deBruijn64tab", Rows.laid_math_bits_deBruijn64tab), ("internal/strconv.uint64pow10", Rows.laid_internal_strconv_uint64pow10), ("unicode/utf8.acceptRanges", Rows.laid_unicode_utf8_acceptRanges), ("warpbeam/pool.reads", Rows.laid_warpbeam_pool_reads), ("unicode/utf8.first", Rows.laid_unicode_utf8_first)]
def plainMore : List (String × DataW Unit) := [("math/bits.deBruijn32tab", Rows.laid_math_bits_deBruijn32tab), ("math/bits.deBruijn64tab", Rows.laid_math_bits_deBruijn64tab), ("internal/strconv.uint64pow10", Rows.laid_internal_strconv_uint64pow10), ("unicode/utf8.acceptRanges", Rows.laid_unicode_utf8_acceptRanges), ("unicode/utf8.first", Rows.laid_unicode_utf8_first)]
theorem filt_none2 : (moreLaid.filter fun x => x.2.handleName?.isNone) = plainMore := by kernel_rfl
theorem filt_some2 : (moreLaid.filter fun x => x.2.handleName?.isSome) = [("warpbeam/pool.reads", Rows.laid_warpbeam_pool_reads)] := by kernel_rfl
theorem plain_of2 {W : World} (h : laidMetH Tryd.prog moreLaid W) : laidMet Tryd.prog plainMore W := by
  unfold laidMetH at h
  rw [filt_some2, filt_none2] at h
  exact h.1
theorem tabs_of2 {W : World} (h : laidMetH Tryd.prog moreLaid W) : Tabs W := by
  have hL := plain_of2 h
  have h3 := Lib.laidMet.reads hL (.tail _ (.tail _ (.tail _ (.tail _ (.head _)))))
  have h4 := Lib.laidMet.reads hL (.tail _ (.tail _ (.tail _ (.head _))))
  exact utf8Tabs_of_readsT (U8Types.of196 Tryd.lays196) ⟨by kernel_rfl, by kernel_rfl, by kernel_rfl, by kernel_rfl, by kernel_rfl, by kernel_rfl, by kernel_rfl⟩ (Pinned.utf8First_eq ▸ h3) (accept_eq ▸ h4)
theorem rdsL2 {W : World} (h : laidMetH Tryd.prog moreLaid W) : Rds W := rds_of h (.tail _ (.tail _ (.tail _ (.tail _ (.head _)))))
def Pow (W : World) : Prop := TabIs Tryd.prog W "internal/strconv.uint64pow10" .u64 pow10Tab
theorem pow_eq : (Rows.laid_internal_strconv_uint64pow10 : DataW Unit) = tabData .u64 pow10Tab := by kernel_rfl
theorem pow_glob : Tryd.prog.globalNamed "internal/strconv.uint64pow10" = some 3 := by kernel_rfl
theorem pow_of {W : World} (h : laidMetH Tryd.prog moreLaid W) : Pow W := by
  have h3 := Lib.laidMet.reads (plain_of2 h) (.tail _ (.tail _ (.head _)))
  rw [pow_eq] at h3
  obtain ⟨g', t', cs, fuel, p, hg', ht', hvar, hd⟩ := h3
  obtain rfl := Option.some.inj (pow_glob.symm.trans hg')
  obtain rfl := Option.some.inj ((show (Tryd.prog.globals[3]?).map (·.type) = some 107 by kernel_rfl).symm.trans ht')
  unfold Pow TabIs
  rw [hvar, ← cells_of_tab (k := .u64) (zs := pow10Tab) Tryd.underlying107 Tryd.underlying76 (by kernel_rfl) (by kernel_rfl) hd]
theorem Pow.below {W W1 : World} (h : Pow W) (hb : Below W.heap.size W W1) : Pow W1 := by
  refine var?_below hb pow_glob ?_ h
  rcases Nat.lt_or_ge 3 W.heap.size with hg | hg
  · exact hg
  · exfalso
    unfold Pow TabIs World.var? at h
    rw [pow_glob, Option.bind_some, Array.getElem?_eq_none hg] at h
    cases h
noncomputable def laidWorld2 (os : Os) : World := (startWorld os).layVars Tryd.prog plainMore
theorem laidWorld2_os (os : Os) : (laidWorld2 os).os = os := by
  unfold laidWorld2
  rw [World.layVars_os]
  rfl
theorem plain_met2 (os : Os) (args : Array Value) : laidMet Tryd.prog plainMore ((laidWorld2 os).forCall (fun _ _ => 0) ⟨#[], args, []⟩).memory := by
  have e1 : (plainMore.filter fun x => (plainMore.map (·.1)).contains x.1) = plainMore := List.filter_eq_self.2 fun x hx => List.contains_iff_mem.2 (List.mem_map.2 ⟨x, hx, rfl⟩)
  have e2 : (plainMore.filter fun x => !(plainMore.map (·.1)).contains x.1) = [] := List.filter_eq_nil_iff.2 fun x hx => by rw [List.contains_iff_mem.2 (List.mem_map.2 ⟨x, hx, rfl⟩)]; simp
  have h : laidMet Tryd.prog plainMore (laidWorld2 os) := laidMet_layVars (w0 := startWorld os) (plainMore.map (·.1)) [] (by rw [e1]; rfl) (by rw [e1]; kernel_rfl) (by rw [e1]; kernel_rfl) (by rw [e2]; exact LaidIn.none)
  exact h.of_heap (by simp [World.memory, World.forCall, Input.heap])
theorem funcs_met2 (os : Os) (args : Array Value) : funcsRun Tryd.prog ((laidWorld2 os).forCall (fun _ _ => 0) ⟨#[], args, []⟩).memory 8 ((funcsListed moreLaid).map (·.1)) = some ((funcsListed moreLaid).map (·.2.funcsOut)) := by kernel_rfl
theorem handles_met2 (os : Os) (args : Array Value) : (moreLaid.filter fun x => x.2.handleName?.isSome && x.2.funcsIn?.isNone).all (handleAtB Tryd.prog ((laidWorld2 os).forCall (fun _ _ => 0) ⟨#[], args, []⟩).memory) = true := by kernel_rfl
theorem laid_met2 (os : Os) (args : Array Value) : laidMetH Tryd.prog moreLaid ((laidWorld2 os).forCall (fun _ _ => 0) ⟨#[], args, []⟩).memory :=
  laidMetH_of_parts3 (fuel := 8) (by rw [filt_none2]; exact plain_met2 os args) (handles_met2 os args) (funcs_met2 os args)
end Go.Proofs.YtkhigagkgpfpfaaDoor.Ext
