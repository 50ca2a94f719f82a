/- What a law's arguments and listed variables give the walks: a list of constants laid open, the table of what reads. -/
import Derived.Test.YtkhigagkgpfpfaaDoorRows
import Derived.Test.YtkhigagkgpfpfaaDoorPoolWorks
import Derived.ChangeSlices
import Derived.OpenShut
import Derived.LaidMore
import Derived.LaidHandle
set_option linter.unusedVariables false
set_option linter.unusedSimpArgs false
namespace Go.Proofs.YtkhigagkgpfpfaaDoor.Ext
open Go.ChangeShapes Go.WideShapes Go.RowKit Go.Lib Go.Proofs.YtkhigagkgpfpfaaDoorW.PrintWords Go.Proofs.YtkhigagkgpfpfaaDoorW.PrintLast Go.Proofs.YtkhigagkgpfpfaaDoorW.PrintMore Go.Proofs.YtkhigagkgpfpfaaDoor.PLeb

theorem cellsInt : Tryd.prog.cellsOf 3 = 1 := by kernel_rfl
theorem cellsStr : Tryd.prog.cellsOf 9 = 1 := by kernel_rfl
theorem cellsConst : Tryd.prog.cellsOf 35 = 6 := by kernel_rfl
section
variable {H : Type} {enc : TypeId × Value → H} {w : World} {base : Nat} {spare : Nat → Bool} {held : Bool}
set_option maxRecDepth 100000 in
theorem open_const {fuel : Nat} {cs : List Value} {x : DataW H × List MemPlace} (h : DataW.trod enc Tryd.prog w base spare held fuel 35 cs = some x) :
    ∃ c : S35, cs = cells35 c ∧ (-9223372036854775808 ≤ c.f2 ∧ c.f2 ≤ 9223372036854775807) ∧ c.f1.size < Rows.uptoBulk x.1 := by
  obtain ⟨xs, n, rfl, rfl, hl, hlen, hf⟩ := DataW.trod_struct Tryd.underlying35 h
  rw [cellsConst] at hl
  match cs, hl with
  | [c0, c1, c2, c3, c4, c5], _ =>
    match xs, hlen with
    | [x0, x1, x2, x3, x4, x5], _ =>
      have g0 : DataW.trod enc Tryd.prog w base spare held n 3 (([c0, c1, c2, c3, c4, c5].drop 0).take (Tryd.prog.cellsOf 3)) = some x0 := hf 0 _ rfl
      have g1 : DataW.trod enc Tryd.prog w base spare held n 9 (([c0, c1, c2, c3, c4, c5].drop 1).take (Tryd.prog.cellsOf 9)) = some x1 := hf 1 _ rfl
      have g2 : DataW.trod enc Tryd.prog w base spare held n 3 (([c0, c1, c2, c3, c4, c5].drop 2).take (Tryd.prog.cellsOf 3)) = some x2 := hf 2 _ rfl
      have g3 : DataW.trod enc Tryd.prog w base spare held n 3 (([c0, c1, c2, c3, c4, c5].drop 3).take (Tryd.prog.cellsOf 3)) = some x3 := hf 3 _ rfl
      have g4 : DataW.trod enc Tryd.prog w base spare held n 3 (([c0, c1, c2, c3, c4, c5].drop 4).take (Tryd.prog.cellsOf 3)) = some x4 := hf 4 _ rfl
      have g5 : DataW.trod enc Tryd.prog w base spare held n 3 (([c0, c1, c2, c3, c4, c5].drop 5).take (Tryd.prog.cellsOf 3)) = some x5 := hf 5 _ rfl
      rw [cellsInt] at g0 g2 g3 g4 g5
      rw [cellsStr] at g1
      obtain ⟨k, e0, -, -⟩ := DataW.trod_int (k := .i64) Tryd.underlying3 g0
      obtain ⟨s, e1, hx1, -⟩ := DataW.trod_string Tryd.underlying9 g1
      obtain ⟨n2, e2, -, w2⟩ := DataW.trod_int (k := .i64) Tryd.underlying3 g2
      obtain ⟨n3, e3, -, -⟩ := DataW.trod_int (k := .i64) Tryd.underlying3 g3
      obtain ⟨n4, e4, -, -⟩ := DataW.trod_int (k := .i64) Tryd.underlying3 g4
      obtain ⟨n5, e5, -, -⟩ := DataW.trod_int (k := .i64) Tryd.underlying3 g5
      have d0 : [c0] = [Value.int .i64 k] := e0
      have d1 : [c1] = [Value.string s] := e1
      have d2 : [c2] = [Value.int .i64 n2] := e2
      have d3 : [c3] = [Value.int .i64 n3] := e3
      have d4 : [c4] = [Value.int .i64 n4] := e4
      have d5 : [c5] = [Value.int .i64 n5] := e5
      injection d0 with d0
      injection d1 with d1
      injection d2 with d2
      injection d3 with d3
      injection d4 with d4
      injection d5 with d5
      subst d0; subst d1; subst d2; subst d3; subst d4; subst d5
      refine ⟨⟨k, s, n2, n3, n4, n5⟩, rfl, ?_, ?_⟩
      · have hb := bounds_i64 w2
        exact hb
      · have hx : x1 = (.lit (.string s.data.toList), []) := hx1
        subst hx
        show s.size < Rows.uptoBulkAll _ + 1
        simp only [List.map_cons, List.map_nil, Rows.uptoBulkAll, Rows.uptoBulk]
        have hs : s.data.toList.length = s.size := Array.length_toList ..
        omega
theorem all_get {α : Type} [Inhabited α] {n : Nat} {Q : Nat → α → Prop} (h : ∀ i, i < n → ∃ c, Q i c) : ∃ l : List α, l.length = n ∧ ∀ i c, l[i]? = some c → Q i c := by
  induction n with
  | zero => exact ⟨[], rfl, fun i c hc => by simp at hc⟩
  | succ n ih =>
    obtain ⟨l, hl, hq⟩ := ih (fun i hi => h i (by omega))
    obtain ⟨c, hc⟩ := h n (by omega)
    refine ⟨l ++ [c], by rw [List.length_append, hl]; rfl, fun i x hx => ?_⟩
    by_cases hi : i < n
    · rw [List.getElem?_append_left (by omega)] at hx; exact hq i x hx
    · have hlt := (List.getElem?_eq_some_iff.1 hx).1
      rw [List.length_append, hl] at hlt
      have hi' : i = n := by simp at hlt; omega
      subst hi'
      rw [List.getElem?_append_right (by omega), hl, Nat.sub_self] at hx
      have : c = x := by simpa using hx
      exact this ▸ hc
instance : Inhabited S35 := ⟨z35⟩
theorem one_bulk (d : DataW H) : 1 ≤ Rows.uptoBulk d := by
  cases d with
  | lit l => cases l <;> simp [Rows.uptoBulk]
  | nil => simp [Rows.uptoBulk]
  | ptr d => simp [Rows.uptoBulk]
  | slice elems spare => simp [Rows.uptoBulk]
  | agg parts => simp [Rows.uptoBulk]
  | iface t d => simp [Rows.uptoBulk]
  | map entries => simp [Rows.uptoBulk]
  | held h => simp [Rows.uptoBulk]
theorem bulk_mem {d : DataW H} {l : List (DataW H)} (h : d ∈ l) : Rows.uptoBulk d ≤ Rows.uptoBulkAll l := by
  induction l with
  | nil => cases h
  | cons x r ih =>
    simp only [Rows.uptoBulkAll]
    cases List.mem_cons.1 h with
    | inl e => subst e; omega
    | inr e => have := ih e; omega
theorem bulk_len (l : List (DataW H)) (h : ∀ d ∈ l, 1 ≤ Rows.uptoBulk d) : l.length ≤ Rows.uptoBulkAll l := by
  induction l with
  | nil => simp [Rows.uptoBulkAll]
  | cons x r ih =>
    have h1 := h x List.mem_cons_self
    have h2 := ih (fun d hd => h d (List.mem_cons_of_mem _ hd))
    simp only [Rows.uptoBulkAll, List.length_cons]; omega
/-- a list of constants, laid open -/
theorem open_consts {fuel : Nat} {a : Option Addr} {len cap : Nat} {x : DataW H × List MemPlace} (h : DataW.trod enc Tryd.prog w base spare held fuel 24 [.slice a len cap] = some x) :
    ∃ l : List S35, l.length = len ∧ len ≤ cap ∧ cap ≤ maxLen ∧ Kd.C k35 w a l.length l ∧ Ints l ∧ (len ≤ Rows.uptoBulk x.1) ∧ ∀ c ∈ l, c.f1.size ≤ Rows.uptoBulk x.1 := by
  rcases DataW.trod_slice Tryd.underlying24 h with ⟨hc, rfl⟩ | ⟨ad, len', cap', elems, rest, n, rfl, hc, rfl, hb, hl, hm, hlen, hel, -, -⟩
  · injection hc with hc
    injection hc with h1 h2 h3
    subst h1; subst h2; subst h3
    exact ⟨[], rfl, Nat.le_refl _, Nat.zero_le _, ⟨rfl, by decide, fun h => absurd h (by decide)⟩, fun x hx => (by cases hx), Nat.zero_le _, fun x hx => (by cases hx)⟩
  · injection hc with hc
    injection hc with h1 h2 h3
    subst h1; subst h2; subst h3
    have each : ∀ i, i < len → ∃ c : S35, (∀ j u, (cells35 c)[j]? = some u → w.cell? (ad.add (i * 6 + j)) = some u) ∧ (-9223372036854775808 ≤ c.f2 ∧ c.f2 ≤ 9223372036854775807) ∧ ∃ y ∈ elems, c.f1.size < Rows.uptoBulk y.1 := by
      intro i hi
      have hy := hel i hi
      obtain ⟨y, hy'⟩ : ∃ y, elems[i]? = some y := ⟨elems[i]'(by omega), List.getElem?_eq_getElem (by omega)⟩
      rw [hy', cellsConst, Option.bind_eq_some_iff] at hy
      obtain ⟨cs, hcs, ht⟩ := hy
      obtain ⟨c, rfl, hi2, hsz⟩ := open_const ht
      refine ⟨c, fun j u hu => ?_, hi2, y, List.mem_of_getElem? hy', hsz⟩
      have hj : j < 6 := (List.getElem?_eq_some_iff.1 hu).1
      rw [← Addr.add_add, (World.cells?_some hcs).2.2 j hj, hu]
    obtain ⟨l, hll, hq⟩ := all_get each
    have hbulk : ∀ c ∈ l, ∃ y ∈ elems, c.f1.size < Rows.uptoBulk y.1 := by
      intro c hc
      obtain ⟨i, hi⟩ := List.getElem?_of_mem hc
      exact (hq i c hi).2.2
    refine ⟨l, hll, hl, hm, ⟨rfl, ?_, fun _ => ⟨ad, rfl, fun j p hp => ⟨cells35 p, rfl, k35_mk _ p, (hq j p hp).1⟩⟩⟩, ?_, ?_, ?_⟩
    · have : maxLen ≤ 9223372036854775807 := by decide
      omega
    · intro c hc
      obtain ⟨i, hi⟩ := List.getElem?_of_mem hc
      exact (hq i c hi).2.1
    · show len ≤ Rows.uptoBulk (.slice (elems.map (·.1)) (rest.map (·.1)))
      simp only [Rows.uptoBulk]
      have h1 := bulk_len (elems.map (·.1)) (fun d hd => by
        obtain ⟨y, hy, rfl⟩ := List.mem_map.1 hd
        exact one_bulk y.1)
      rw [List.length_map, hlen] at h1
      omega
    · intro c hc
      obtain ⟨y, hy, hlt⟩ := hbulk c hc
      show c.f1.size ≤ Rows.uptoBulk (.slice (elems.map (·.1)) (rest.map (·.1)))
      simp only [Rows.uptoBulk]
      have := bulk_mem (List.mem_map_of_mem (f := (·.1)) hy)
      omega
end
set_option maxRecDepth 100000 in
/-- the table of what reads, of the condition -/
theorem rds_of {W : World} {l : List (String × DataW Unit)} (h : laidMetH Tryd.prog l W) (hx : ("warpbeam/pool.reads", Rows.laid_warpbeam_pool_reads) ∈ l) : Rds W := by
  obtain ⟨g, t, cs, fuel, p, hg, ht, hv, hd⟩ := laidMetH.funcs h hx
  obtain rfl := Option.some.inj ((show Tryd.prog.globalNamed "warpbeam/pool.reads" = some 0 by kernel_rfl).symm.trans hg)
  obtain rfl := Option.some.inj ((show (Tryd.prog.globals[0]?).map (·.type) = some 80 by kernel_rfl).symm.trans ht)
  have hd' : DataW.trod (funcToken Tryd.prog) Tryd.prog W 0 (fun _ => true) true fuel 80 cs.toList = some (_, p) := hd
  obtain ⟨xs, m, rfl, hxs, hl, hlen, hel⟩ := DataW.trod_array Tryd.underlying80 hd'
  rw [show Tryd.prog.cellsOf 80 = 7 by kernel_rfl] at hl
  rw [show Tryd.prog.cellsOf 79 = 1 by kernel_rfl] at hel
  obtain ⟨cl⟩ := cs
  match cl, hl with
  | [v0, v1, v2, v3, v4, v5, v6], _ =>
    match xs, hlen with
    | [x0, x1, x2, x3, x4, x5, x6], _ =>
      have hx1 := congrArg Prod.fst hxs
      simp only [List.map_cons, List.map_nil] at hx1
      injection hx1 with hx1
      have g0 : DataW.trod (funcToken Tryd.prog) Tryd.prog W 0 (fun _ => true) true m 79 [v0] = some x0 := hel 0 (by decide)
      have g1 : DataW.trod (funcToken Tryd.prog) Tryd.prog W 0 (fun _ => true) true m 79 [v1] = some x1 := hel 1 (by decide)
      have g2 : DataW.trod (funcToken Tryd.prog) Tryd.prog W 0 (fun _ => true) true m 79 [v2] = some x2 := hel 2 (by decide)
      have g3 : DataW.trod (funcToken Tryd.prog) Tryd.prog W 0 (fun _ => true) true m 79 [v3] = some x3 := hel 3 (by decide)
      have g4 : DataW.trod (funcToken Tryd.prog) Tryd.prog W 0 (fun _ => true) true m 79 [v4] = some x4 := hel 4 (by decide)
      have g5 : DataW.trod (funcToken Tryd.prog) Tryd.prog W 0 (fun _ => true) true m 79 [v5] = some x5 := hel 5 (by decide)
      have g6 : DataW.trod (funcToken Tryd.prog) Tryd.prog W 0 (fun _ => true) true m 79 [v6] = some x6 := hel 6 (by decide)
      have q0 : x0.1 = .nil := by injection hx1 with h _; exact h.symm
      injection hx1 with _ hy0
      have q1 : x1.1 = .held [40, 42, 119, 97, 114, 112, 98, 101, 97, 109, 47, 112, 111, 111, 108, 46, 114, 101, 97, 100, 101, 114, 41, 46, 116, 101, 120, 116] := by injection hy0 with h _; exact h.symm
      injection hy0 with _ hy1
      have q2 : x2.1 = .held [40, 42, 119, 97, 114, 112, 98, 101, 97, 109, 47, 112, 111, 111, 108, 46, 114, 101, 97, 100, 101, 114, 41, 46, 110, 117, 109, 98, 101, 114] := by injection hy1 with h _; exact h.symm
      injection hy1 with _ hy2
      have q3 : x3.1 = .held [40, 42, 119, 97, 114, 112, 98, 101, 97, 109, 47, 112, 111, 111, 108, 46, 114, 101, 97, 100, 101, 114, 41, 46, 110, 117, 109, 98, 101, 114] := by injection hy2 with h _; exact h.symm
      injection hy2 with _ hy3
      have q4 : x4.1 = .held [40, 42, 119, 97, 114, 112, 98, 101, 97, 109, 47, 112, 111, 111, 108, 46, 114, 101, 97, 100, 101, 114, 41, 46, 99, 108, 97, 115, 115] := by injection hy3 with h _; exact h.symm
      injection hy3 with _ hy4
      have q5 : x5.1 = .held [40, 42, 119, 97, 114, 112, 98, 101, 97, 109, 47, 112, 111, 111, 108, 46, 114, 101, 97, 100, 101, 114, 41, 46, 114, 101, 102] := by injection hy4 with h _; exact h.symm
      injection hy4 with _ hy5
      have q6 : x6.1 = .held [40, 42, 119, 97, 114, 112, 98, 101, 97, 109, 47, 112, 111, 111, 108, 46, 114, 101, 97, 100, 101, 114, 41, 46, 114, 101, 102] := by injection hy5 with h _; exact h.symm
      injection hy5 with _ hy6
      have e0 : v0 = .nilFunc := by
        obtain ⟨y, z⟩ := x0
        simp only at q0
        subst q0
        cases m with
        | zero => simp [DataW.trod] at g0
        | succ m => cases v0 <;> simp [DataW.trod, Tryd.underlying79] at g0 <;> rfl
      have e1 : v1 = .func (.func 108) #[] #[] := by
        obtain ⟨y, z⟩ := x1
        simp only at q1
        subst q1
        exact func_of_trod Tryd.underlying79 (by kernel_rfl) g1
      have e2 : v2 = .func (.func 109) #[] #[] := by
        obtain ⟨y, z⟩ := x2
        simp only at q2
        subst q2
        exact func_of_trod Tryd.underlying79 (by kernel_rfl) g2
      have e3 : v3 = .func (.func 109) #[] #[] := by
        obtain ⟨y, z⟩ := x3
        simp only at q3
        subst q3
        exact func_of_trod Tryd.underlying79 (by kernel_rfl) g3
      have e4 : v4 = .func (.func 106) #[] #[] := by
        obtain ⟨y, z⟩ := x4
        simp only at q4
        subst q4
        exact func_of_trod Tryd.underlying79 (by kernel_rfl) g4
      have e5 : v5 = .func (.func 110) #[] #[] := by
        obtain ⟨y, z⟩ := x5
        simp only at q5
        subst q5
        exact func_of_trod Tryd.underlying79 (by kernel_rfl) g5
      have e6 : v6 = .func (.func 110) #[] #[] := by
        obtain ⟨y, z⟩ := x6
        simp only at q6
        subst q6
        exact func_of_trod Tryd.underlying79 (by kernel_rfl) g6
      subst e0; subst e1; subst e2; subst e3; subst e4; subst e5; subst e6
      exact ⟨World.var?_cell hg hv 0, World.var?_cell hg hv 1, World.var?_cell hg hv 2, World.var?_cell hg hv 3, World.var?_cell hg hv 4, World.var?_cell hg hv 5, World.var?_cell hg hv 6⟩
end Go.Proofs.YtkhigagkgpfpfaaDoor.Ext
