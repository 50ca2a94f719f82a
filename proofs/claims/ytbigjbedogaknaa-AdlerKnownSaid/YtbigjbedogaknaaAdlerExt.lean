/- The Go functions of package adler (rest, take, On), walked by hand: what they compute is 'adlV', the plain sum of bytes, whatever the bytes. -/
import Derived.Test.YtbigjbedogaknaaProg
import Derived.Test.YtbigjbedogaknaaWMore
import Derived.Test.YtbigjbedogaknaaAdlerMath
import Derived.WalkKit
import Derived.RegionTactic
import Derived.BigRegion
import Derived.Deep.QuietTactic
import Derived.BigQuiet
import Derived.WalkLawsBesides
import Derived.WalkSpells
import Derived.Lib.SlBytesConst
set_option linter.unusedVariables false
set_option linter.unusedSimpArgs false
namespace Go.Proofs.Ytbigjbedogaknaa.Ext
open Go.RowKit Go.Proofs.YtbigjbedogaknaaW.PrintWords Go.Proofs.YtbigjbedogaknaaW.PrintLast Go.Proofs.YtbigjbedogaknaaW.PrintMore
attribute [local go_sem] max2_int min2_int max_two min_two max_three min_three max_four min_four

theorem info5 : (Try.prog.info? 5).map (fun i => (i.zero, i.size, i.bytes)) = some (some (.int .u8 0), 1, 1) := by kernel_rfl

set_option maxHeartbeats 1000000 in
set_option maxRecDepth 100000 in
theorem rest_calls (B g : Nat) (lo hi : Int) (w0 w : World) (hlo : 0 ≤ lo ∧ lo < 4294967296) (hhi : 0 ≤ hi ∧ hi < 4294967296)
    (hb : w.heap[g]? = some (.cells #[.int .u32 lo, .int .u32 hi] 37 (0, 0))) (hB : Below B w0 w) (hg : B ≤ g) :
    Calls Try.prog 17 #[.pointer (some ⟨g, 0, none⟩)] w fun e w' => e = .returned (.tuple #[]) ∧ w'.heap[g]? = some (.cells #[.int .u32 (lo % 65521), .int .u32 (hi % 65521)] 37 (0, 0)) ∧ Below B w0 w' := by
  have HB := Aside0.mk hB
  have HBK := Aside0.mk hb
  have hc0 : w.cell? ⟨g, 0, none⟩ = some (.int .u32 lo) := blk_cell hb 0
  have hc1 : w.cell? ⟨g, 1, none⟩ = some (.int .u32 hi) := blk_cell hb 1
  have hf0 : w.frozen? ⟨g, 0, none⟩ = false := blk_frozen hb 0
  have hf1 : w.frozen? ⟨g, 1, none⟩ = false := blk_frozen hb 1
  obtain ⟨hl0, hl1⟩ := hlo
  obtain ⟨hh0, hh1⟩ := hhi
  clear hb hB
  go_enter Try.func17, Try.ntmps17
  go_wp2
  go_region
  all_goals go_end0
  all_goals exact ⟨rfl, blk_set (blk_set HBK.out 0 (.int .u32 (lo % 65521))) 1 (.int .u32 (hi % 65521)), ((HB.out.setCell hg _).setCell hg _).drew⟩

set_option maxHeartbeats 4000000 in
set_option maxRecDepth 100000 in
theorem take_calls (g : Nat) (lo hi : Int) (l : List Int) (n : Nat) (A : Option Addr) (c : Nat) (w0 w : World) (hn : l.length = n) (hl : n ≤ 5000) (hby : ∀ x ∈ l, 0 ≤ x ∧ x ≤ 255)
    (hlo : 0 ≤ lo ∧ lo < 65521) (hhi : 0 ≤ hi ∧ hi < 65521)
    (hb : w.heap[g]? = some (.cells #[.int .u32 lo, .int .u32 hi] 37 (0, 0))) (hB : Below w0.heap.size w0 w) (hg : w0.heap.size ≤ g) (hr : Kd.C (Kd.int .u8) w0 A l.length l) :
    Calls Try.prog 18 #[.pointer (some ⟨g, 0, none⟩), .slice A n c] w fun e w' => e = .returned (.tuple #[]) ∧ w'.heap[g]? = some (.cells #[.int .u32 (adl lo hi l).1, .int .u32 (adl lo hi l).2] 37 (0, 0)) ∧ Below w0.heap.size w0 w' := by
  subst hn
  have HB := Aside0.mk hB
  have HBK := Aside0.mk hb
  have HR := Aside0.mk hr
  have HBY := Aside0.mk hby
  have HLO := Aside0.mk hlo
  have HHI := Aside0.mk hhi
  clear hb hB hr hby hlo hhi
  go_enter Try.func18, Try.ntmps18
  go_wp2
  go_loopw [8] (fun iv wr => ∃ (i x y : Int), 0 ≤ i ∧ i ≤ l.length ∧ iv = .int .i64 i ∧ Aside0 (wr.heap[g]? = some (.cells #[.int .u32 x, .int .u32 y] 37 (0, 0))) ∧ Aside0 (Below w0.heap.size w0 wr) ∧ Aside0 (AdlInv l lo hi x y i))
    (fun iv _ => l.length - (intOf iv).toNat)
  case atStart => exact ⟨0, lo, hi, Int.le_refl _, Int.natCast_nonneg _, rfl, HBK, HB, ⟨AdlInv.start l lo hi HLO.out HHI.out⟩⟩
  case round =>
    obtain ⟨i, x, y, hi0, hi1, rfl, HBK', HB', HI⟩ := hrel
    obtain ⟨hx0, hx1, hy0, hy1⟩ := HI.out.bounds hi0 (by omega)
    by_cases hlt : i < (l.length : Int)
    · obtain ⟨ad, e, hcell⟩ := Kd.at_int (Kd.C_below HR.out HB'.out) i hi0 hlt
      cases e
      have hz : 0 ≤ rd l i ∧ rd l i ≤ 255 := by
        have hi' : i.toNat < l.length := by omega
        unfold rd
        rw [List.getD_eq_getElem?_getD, List.getElem?_eq_getElem hi']; exact HBY.out _ (List.getElem_mem hi')
      obtain ⟨hz0, hz1⟩ := hz
      have hc0 : wr.cell? ⟨g, 0, none⟩ = some (.int .u32 x) := blk_cell HBK'.out 0
      have hc1 : wr.cell? ⟨g, 1, none⟩ = some (.int .u32 y) := blk_cell HBK'.out 1
      have hf0 : wr.frozen? ⟨g, 0, none⟩ = false := blk_frozen HBK'.out 0
      have hf1 : wr.frozen? ⟨g, 1, none⟩ = false := blk_frozen HBK'.out 1
      go_wp2
      go_region
      go_wp2
      go_roundw
      case rel =>
        refine ⟨i + 1, x + rd l i, y + (x + rd l i), by omega, by omega, by go_num, ⟨?_⟩, ⟨((HB'.out.setCell hg _).setCell hg _).drew⟩, ⟨HI.out.step hi0 hlt HBY.out⟩⟩
        exact blk_set (blk_set HBK'.out 0 (.int .u32 (x + rd l i))) 1 (.int .u32 (y + (x + rd l i)))
      case measure => simp [intOf]; omega
    · go_wp2_with fail
      refine (rest_calls w0.heap.size g x y w0 _ ⟨hx0, by omega⟩ ⟨hy0, by omega⟩ HBK'.out HB'.out hg).mono ?_
      rintro e w' ⟨rfl, hb', hB'⟩
      go_wp2
      go_end0
      have F := HI.out.finish (by omega) HLO.out HHI.out
      rw [F.1, F.2] at hb'
      exact ⟨rfl, hb', hB'⟩

theorem cut_read {P : Program} (t e : TypeId) {i : TypeInfo} (ht : P.underlying t = some (.slice e)) (hi : P.info? e = some i) (hsz : i.size = 1) (k : IntKind) (A : Option Addr) (n c m : Nat) (xs : List Int) (hn : xs.length = n) (hm : m ≤ n) (hc : n ≤ c) (w : World) (h : (Kd.int k).C w A n xs) :
    ∃ A1 : Option Addr, (∀ W : World, (Instr.slice t (.slice A n c) (some (.int .i64 (m : Int))) none none).run P W = .ok (.slice A1 (n - m) (c - m)) W) ∧ (Kd.int k).C w A1 (xs.drop m).length (xs.drop m) := by
  subst hn
  refine ⟨_, cut_from t e .i64 ht hi 1 hsz A xs.length c (m : Int) (Int.natCast_nonneg _) (by omega), ?_⟩
  exact Kd.C_drop h hm hc
theorem slice3_run {P : Program} (t e : TypeId) {i : TypeInfo} (ht : P.underlying t = some (.slice e)) (hi : P.info? e = some i) (A : Option Addr) (n c m : Nat) (hm : m ≤ n) (hc : n ≤ c) (W : World) :
    (Instr.slice t (.slice A n c) none (some (.int .i64 (m : Int))) (some (.int .i64 (m : Int)))).run P W = .ok (.slice A m m) W := by
  have hel : P.elem t = e := by simp [Program.elem, ht]
  have hu : P.underlying t = some (.slice (P.elem t)) := by rw [hel]; exact ht
  have ha : (A.map fun x => x.add 0) = A := by cases A <;> simp [Addr.add]
  rw [run_slice_hm W t A n c hu .i64 .i64 (m : Int) (m : Int) (Int.natCast_nonneg _) (Int.le_refl _) (by omega), hel]
  simp [sizeOf, typeInfo, hi, sliced, Result.andThen, ha]

def sliceLen : Value → Nat
  | .slice _ n _ => n
  | _ => 0

set_option maxHeartbeats 4000000 in
set_option maxRecDepth 100000 in
theorem On_calls (f : Int) (l : List Int) (A : Option Addr) (c : Nat) (w : World) (hf : 0 ≤ f ∧ f < 4294967296) (hby : ∀ x ∈ l, 0 ≤ x ∧ x ≤ 255) (hr : Kd.C (Kd.int .u8) w A l.length l) (hc : l.length ≤ c) :
    Calls Try.prog 12 #[.int .u32 f, .slice A l.length c] w fun e w' => e = .returned (.int .u32 (adlV f l)) ∧ Below w.heap.size w w' := by
  obtain ⟨hf0, hf1⟩ := hf
  have HBY := Aside0.mk hby
  have HR := Aside0.mk hr
  have HC := Aside0.mk hc
  clear hby hr hc
  have hmf : ∀ (fn : Fn) (first cap : Array Value) (w : World), (Instr.makeFunc fn first cap).run Try.prog w = .ok (.func fn first cap) w := fun _ _ _ _ => rfl
  obtain ⟨i0, hi, hz0, hz1, hz2⟩ := info_parts info5
  have HI0 := Aside0.mk hi
  have HZ1 := Aside0.mk hz1
  clear hi hz0 hz1 hz2
  go_enter Try.func12, Try.ntmps12
  go_wp2_with fail
  refine (rest_calls w.heap.size w.heap.size (f % 65536) (f / 65536) w _ (by omega) (by omega) (heap_alloc_new w _) ((Below.refl _ _).alloc (Nat.le_refl _) _) (Nat.le_refl _)).mono ?_
  rintro e w1 ⟨rfl, hb1, hB1⟩
  have HB1 := Aside0.mk hB1
  have HBK1 := Aside0.mk hb1
  clear hb1 hB1
  go_wp2
  go_loopw [1] (fun bv wr => ∃ (A' : Option Addr) (l' : List Int) (c' : Nat) (x y : Int), bv = .slice A' l'.length c' ∧ Aside0 (l'.length ≤ c') ∧ Aside0 (Kd.C (Kd.int .u8) w A' l'.length l') ∧ Aside0 (wr.heap[w.heap.size]? = some (.cells #[.int .u32 x, .int .u32 y] 37 (0, 0))) ∧ Aside0 (Below w.heap.size w wr) ∧ Aside0 ((0 ≤ x ∧ x < 65521) ∧ (0 ≤ y ∧ y < 65521)) ∧ Aside0 (adl x y l' = adl (f % 65536 % 65521) (f / 65536 % 65521) l) ∧ Aside0 (∀ z ∈ l', 0 ≤ z ∧ z ≤ 255))
    (fun bv _ => sliceLen bv)
  case atStart => exact ⟨A, l, c, f % 65536 % 65521, f / 65536 % 65521, rfl, HC, HR, HBK1, HB1, ⟨by omega⟩, ⟨rfl⟩, HBY⟩
  case round =>
    obtain ⟨A', l', c', x, y, rfl, HC', HR', HBK', HB', HXY, HE, HBY'⟩ := hrel
    by_cases hpos : 0 < l'.length
    · have hmax : l'.length ≤ 9223372036854775807 := HR'.out.2.1
      by_cases hle : l'.length ≤ 5000
      · obtain ⟨A1, hcut, hread⟩ := cut_read (P := Try.prog) 23 5 Try.underlying23 HI0.out HZ1.out .u8 A' l'.length c' l'.length l' rfl (Nat.le_refl _) HC'.out w HR'.out
        have h3 := slice3_run (P := Try.prog) 23 5 Try.underlying23 HI0.out A' l'.length c' l'.length (Nat.le_refl _) HC'.out
        have HREAD := Aside0.mk hread
        clear hread
        go_wp2_with fail
        refine (take_calls w.heap.size x y l' l'.length A' l'.length w _ rfl hle HBY'.out HXY.out.1 HXY.out.2 HBK'.out HB'.out (Nat.le_refl _) HR'.out).mono ?_
        rintro e w' ⟨rfl, hb2, hB2⟩
        have HBK2 := Aside0.mk hb2
        have HB2 := Aside0.mk hB2
        clear hb2 hB2
        go_wp2
        go_roundw
        case rel =>
          have hbd := adl_bounds l' x y HXY.out.1.1 HXY.out.1.2 HXY.out.2.1 HXY.out.2.2
          refine ⟨A1, l'.drop l'.length, c' - l'.length, (adl x y l').1, (adl x y l').2, by simp, ⟨by simp⟩, HREAD, HBK2, HB2, ⟨⟨hbd.1, hbd.2.1⟩, hbd.2.2⟩, ⟨?_⟩, ⟨fun z hz => HBY'.out z (List.mem_of_mem_drop hz)⟩⟩
          rw [← HE.out]; simp [adl]
        case measure => simp [sliceLen]; omega
      · obtain ⟨A1, hcut, hread⟩ := cut_read (P := Try.prog) 23 5 Try.underlying23 HI0.out HZ1.out .u8 A' l'.length c' 5000 l' rfl (by omega) HC'.out w HR'.out
        have h3 := slice3_run (P := Try.prog) 23 5 Try.underlying23 HI0.out A' l'.length c' 5000 (by omega) HC'.out
        have hcut5 : ∀ W : World, (Instr.slice 23 (.slice A' l'.length c') (some (.int .i64 5000)) none none).run Try.prog W = .ok (.slice A1 (l'.length - 5000) (c' - 5000)) W := fun W => hcut W
        have h35 : ∀ W : World, (Instr.slice 23 (.slice A' l'.length c') none (some (.int .i64 5000)) (some (.int .i64 5000))).run Try.prog W = .ok (.slice A' 5000 5000) W := fun W => h3 W
        clear hcut h3
        have hgt : 5000 < l'.length := by omega
        have ht5 : (l'.take 5000).length = 5000 := by rw [List.length_take]; omega
        have HT5 := Aside0.mk ht5
        have HREAD := Aside0.mk hread
        clear hread ht5 hle
        go_wp2_with fail
        refine (take_calls w.heap.size x y (l'.take 5000) 5000 A' 5000 w _ HT5.out (Nat.le_refl _) (fun z hz => HBY'.out z (List.mem_of_mem_take hz)) HXY.out.1 HXY.out.2 HBK'.out HB'.out (Nat.le_refl _) (Kd.C_take HR'.out (by omega))).mono ?_
        rintro e w' ⟨rfl, hb2, hB2⟩
        have HBK2 := Aside0.mk hb2
        have HB2 := Aside0.mk hB2
        clear hb2 hB2
        go_wp2
        go_roundw
        case rel =>
          have hbd := adl_bounds (l'.take 5000) x y HXY.out.1.1 HXY.out.1.2 HXY.out.2.1 HXY.out.2.2
          refine ⟨A1, l'.drop 5000, c' - 5000, (adl x y (l'.take 5000)).1, (adl x y (l'.take 5000)).2, by simp, ⟨by have := HC'.out; simp; omega⟩, HREAD, HBK2, HB2, ⟨⟨hbd.1, hbd.2.1⟩, hbd.2.2⟩, ⟨?_⟩, ⟨fun z hz => HBY'.out z (List.mem_of_mem_drop hz)⟩⟩
          rw [← HE.out, ← adl_split]
        case measure => simp [sliceLen]; omega
    · have hc0 : wr.cell? ⟨w.heap.size, 0, none⟩ = some (.int .u32 x) := blk_cell HBK'.out 0
      have hc1 : wr.cell? ⟨w.heap.size, 1, none⟩ = some (.int .u32 y) := blk_cell HBK'.out 1
      obtain ⟨⟨hx0, hx1⟩, hy0, hy1⟩ := HXY.out
      go_wp2
      go_quiet (fail)
      go_wp2
      go_ret
      have hnil : l' = [] := List.eq_nil_of_length_eq_zero (by omega)
      have e := HE.out
      rw [hnil] at e
      simp only [adl] at e
      refine ⟨?_, by first | exact HB'.out | exact HB'.out.drew | exact pw_below_drewN HB'.out _⟩
      unfold adlV
      rw [← e]; rfl

/-- 'adler.On', in the form of the print. -/
def adler_On.f (a0 : Int) (l1 : List Int) : Option (Int) := if (0 ≤ a0 ∧ a0 < 4294967296) ∧ ∀ x ∈ l1, 0 ≤ x ∧ x ≤ 255 then some (adlV a0 l1) else none
theorem adler_On.calls (a0 : Int) (A1 : Option Addr) (c1 : Nat) (l1 : List Int) (r : Int) (w : World) (hr1 : Kd.C (Kd.int .u8) w A1 l1.length l1) (hc1 : l1.length ≤ c1) (h : adler_On.f a0 l1 = some r) :
    Calls Try.prog 12 #[.int .u32 a0, .slice A1 l1.length c1] w fun e w' => e = .returned (.int .u32 r) ∧ Below w.heap.size w w' := by
  unfold adler_On.f at h
  split at h
  · rename_i hg
    obtain rfl := Option.some.inj h
    exact On_calls a0 l1 A1 c1 w hg.1 hg.2 hr1 hc1
  · cases h

set_option maxHeartbeats 1000000 in
set_option maxRecDepth 100000 in
theorem Of_lit (l : List Int) (v : Int) (A : Option Addr) (n c : Nat) (w : World) (hv : adlV 1 l = v) (hn : l.length = n) (hby : ∀ x ∈ l, 0 ≤ x ∧ x ≤ 255) (hr : Kd.C (Kd.int .u8) w A l.length l) (hc : l.length ≤ c) :
    Calls Try.prog 10 #[.slice A n c] w fun e w' => e = .returned (.int .u32 v) ∧ Below w.heap.size w w' := by
  subst hn
  subst hv
  go_enter Try.func10, Try.ntmps10
  go_wp2_with fail
  refine (On_calls 1 l A c w (by omega) hby hr hc).mono ?_
  rintro e w' ⟨rfl, hb⟩
  go_wp2
  go_ret
  exact ⟨rfl, hb⟩
theorem lit_C (l : List Int) (n : Nat) (hn : l.length = n) (W : World) (C : Array Value) (hC : C.toList = nums .u8 l) (fr : Nat × Nat) (hm : l.length ≤ 9223372036854775807) : Kd.C (Kd.int .u8) (W.alloc (.cells C 5 fr)) (some ⟨W.heap.size, 0, none⟩) l.length l := by
  refine Kd.C_of_reads (d := (0 : Int)) (h1 := fun _ => rfl) ⟨rfl, hm, fun _ => ⟨_, rfl, fun j hj => ?_⟩⟩
  rw [add_plain, cell_of_row _ W.heap.size j C 5 fr (heap_alloc_new W _), ← Array.getElem?_toList, hC]
  simp [nums, List.getElem?_eq_getElem hj, List.getD_eq_getElem?_getD]

set_option maxHeartbeats 4000000 in
set_option maxRecDepth 100000 in
theorem works_calls (w : World) : Calls Try.prog 15 #[] w fun e w' => e = .returned (.bool true) ∧ Below w.heap.size w w' := by
  have kc := fun (w : World) (C : Array Value) (n c : Nat) => Lib.run_convert_bytes_const (P := Try.prog) w 23 5 C n c Try.underlying23 Try.underlying5
  have HB := Aside0.mk (Below.refl w.heap.size w)
  go_enter Try.func15, Try.ntmps15
  go_wp2_with fail
  refine (Of_lit [] 1 none 0 0 w (by decide) rfl (by simp) (Kd.C_nil _ _) (Nat.le_refl _)).mono ?_
  rintro e w1 ⟨rfl, hb⟩
  have n0_ := Aside0.mk (below_step HB.out hb); clear HB hb; have HB := n0_; clear n0_
  go_wp2_with fail
  refine (Of_lit [97] 6422626 _ 1 1 _ (by decide +kernel) rfl (by decide) (lit_C [97] 1 rfl w1 _ rfl _ (by decide)) (Nat.le_refl _)).mono ?_
  rintro e w2 ⟨rfl, hb⟩
  have n0_ := Aside0.mk (below_step (below_alloc HB.out _) hb); clear HB hb; have HB := n0_; clear n0_
  go_wp2_with fail
  refine (Of_lit [97, 98, 99] 38600999 _ 3 3 _ (by decide +kernel) rfl (by decide) (lit_C [97, 98, 99] 3 rfl w2 _ rfl _ (by decide)) (Nat.le_refl _)).mono ?_
  rintro e w3 ⟨rfl, hb⟩
  have n0_ := Aside0.mk (below_step (below_alloc HB.out _) hb); clear HB hb; have HB := n0_; clear n0_
  go_wp2_with fail
  refine (Of_lit [87, 105, 107, 105, 112, 101, 100, 105, 97] 300286872 _ 9 9 _ (by decide +kernel) rfl (by decide) (lit_C [87, 105, 107, 105, 112, 101, 100, 105, 97] 9 rfl w3 _ rfl _ (by decide)) (Nat.le_refl _)).mono ?_
  rintro e w4 ⟨rfl, hb⟩
  have n0_ := Aside0.mk (below_step (below_alloc HB.out _) hb); clear HB hb; have HB := n0_; clear n0_
  go_wp2_with fail
  refine (Of_lit [87, 105, 107, 105] 64618901 _ 4 4 _ (by decide +kernel) rfl (by decide) (lit_C [87, 105, 107, 105] 4 rfl w4 _ rfl _ (by decide)) (Nat.le_refl _)).mono ?_
  rintro e w5 ⟨rfl, hb⟩
  have n0_ := Aside0.mk (below_step (below_alloc HB.out _) hb); clear HB hb; have HB := n0_; clear n0_
  go_wp2_with fail
  refine (On_calls 64618901 [112, 101, 100, 105, 97] _ 5 _ (by omega) (by decide) (lit_C [112, 101, 100, 105, 97] 5 rfl w5 _ rfl _ (by decide)) (Nat.le_refl _)).mono ?_
  rintro e w6 ⟨rfl, hb⟩
  have n0_ := Aside0.mk (below_step (below_alloc HB.out _) hb); clear HB hb; have HB := n0_; clear n0_
  have hv : adlV 64618901 [112, 101, 100, 105, 97] = 300286872 := by decide +kernel
  rw [hv]
  go_wp2
  go_ret
  exact ⟨rfl, HB.out⟩
/-- 'works', in the form of the print. -/
def warpbeamlaw03_works.f : Option (Bool) := some true
theorem warpbeamlaw03_works.calls (r : Bool) (w : World) (h : warpbeamlaw03_works.f = some r) :
    Calls Try.prog 15 #[] w fun e w' => e = .returned (.bool r) ∧ Below w.heap.size w w' := by
  obtain rfl := Option.some.inj h
  exact works_calls w
end Go.Proofs.Ytbigjbedogaknaa.Ext
