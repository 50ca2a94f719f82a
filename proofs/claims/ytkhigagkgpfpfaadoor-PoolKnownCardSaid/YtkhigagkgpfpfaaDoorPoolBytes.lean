/- pool.Bytes, walked. -/
import Derived.Test.YtkhigagkgpfpfaaDoorPoolPut
set_option linter.unusedVariables false
set_option linter.unusedSimpArgs false
namespace Go.Proofs.YtkhigagkgpfpfaaDoor.Ext
open Go.RowKit Go.Lib Go.Proofs.YtkhigagkgpfpfaaDoorW.PrintWords Go.Proofs.YtkhigagkgpfpfaaDoorW.PrintLast Go.Proofs.YtkhigagkgpfpfaaDoorW.PrintMore Go.Proofs.YtkhigagkgpfpfaaDoor.PLeb
attribute [local go_sem] max2_int min2_int max_two min_two max_three min_three max_four min_four

open Classical in
/-- a text's characters -/
noncomputable def chars (s : ByteArray) : List Int := if h : ∃ cs : List Int, (∀ c ∈ cs, VR c) ∧ s.data.toList = us cs then h.choose else []
/-- a text's bytes -/
noncomputable def mBytes (s : ByteArray) : List Int := muts (chars s)
theorem chars_eq {s : ByteArray} {cs : List Int} (h : ∀ c ∈ cs, VR c) (he : s.data.toList = us cs) : chars s = cs := by
  have hx : ∃ cs : List Int, (∀ c ∈ cs, VR c) ∧ s.data.toList = us cs := ⟨cs, h, he⟩
  unfold chars
  rw [dif_pos hx]
  exact us_inj hx.choose_spec.1 h (hx.choose_spec.2.symm.trans he)
theorem chars_ok {s : ByteArray} (h : tOK s = true) : (∀ c ∈ chars s, VR c) ∧ s.data.toList = us (chars s) := by
  obtain ⟨cs, hcs, he⟩ := us_of_valid _ _ (Nat.le_refl _) h
  rw [chars_eq hcs he]; exact ⟨hcs, he⟩
theorem mBytes_len {s : ByteArray} (h : tOK s = true) : (mBytes s).length ≤ 6 * s.size := by
  have h1 := chars_ok h
  have h2 := muts_len (chars s)
  have h3 := us_len (chars s)
  have h4 := size_us h1.2
  unfold mBytes; omega
/-- no text is longer than that -/
def Tiny (l : List S35) : Prop := ∀ x ∈ l, x.f1.size ≤ 8388608
theorem Tiny.small {l : List S35} (h : Tiny l) : Small l := fun x hx => Nat.le_trans (h x hx) (by decide)
/-- a constant's bytes -/
noncomputable def constL (c : S35) : List Int :=
  c.f0 :: (if c.f0 = 1 then ub (mBytes c.f1).length ++ mBytes c.f1 else if c.f0 = 2 ∨ c.f0 = 3 then sb c.f2 else if c.f0 = 4 then ub c.f3.toNat else ub c.f3.toNat ++ (ub c.f4.toNat ++ ub c.f5.toNat))
/-- a list's bytes -/
noncomputable def bytesL (l : List S35) : List Int := ub l.length ++ (l.drop 1).flatMap constL
theorem enc_any (s : ByteArray) (w : World) (hs : s.size ≤ 17592186044416) (hT : Tabs w) (hv : tOK s = true) :
    Calls Tryd.prog 49 #[.string s] w fun e w' => ∃ (A : Option Addr) (c : Nat), e = .returned (.tuple #[.slice A (mBytes s).length c, .int .i64 0]) ∧ (mBytes s).length ≤ c ∧ w'.ownsRow w.heap.size 5 1 (.slice A (mBytes s).length c) (mBytes s).length (nums .u8 (mBytes s)) ∧ Below w.heap.size w w' := by
  obtain ⟨hcs, he⟩ := chars_ok hv
  have h1 := us_len (chars s)
  have h2 := size_us he
  refine (enc_good (chars s) s w hcs he (by omega) hT).mono ?_
  rintro e w' ⟨A, c, rfl, hl, hC, ho, hb⟩
  exact ⟨A, c, rfl, hl, Kd.own_of_R ho, hb⟩
theorem put1_end {base P Q n : Nat} {w0 w w5 : World} {v v1 : Value} {z : List Int} {xs : List Value} (hpq : P ≠ Q) (hbp : base ≤ P) (hbq : base ≤ Q) (hO : w.ownsRow base 5 1 v n xs)
    (hP : w.heap[P]? = some (.cells #[v] 22 (0, 0))) (hQ : w.heap[Q]? = some (.cells #[.int .i64 0] 25 (0, 0)))
    (hO1 : w5.ownsRow base 5 1 v1 z.length (nums .u8 z)) (hB1 : Below base w0 w5) (hg : w.grownBy w5 v.ownBlock) :
    PutSt base P Q (w5.setCell ⟨P, 0, none⟩ v1) z ∧ Below base w0 (w5.setCell ⟨P, 0, none⟩ v1) ∧ OthersKept 5 (some P) w (w5.setCell ⟨P, 0, none⟩ v1) := by
  have hP1 := (hg.block P (lt_of_block hP) (fun h => own_ne hO hP (by decide) h.symm)).trans hP
  have hQ1 := (hg.block Q (lt_of_block hQ) (fun h => own_ne hO hQ (by decide) h.symm)).trans hQ
  have hP2 := one_setCell (u := v1) hP1
  have hQ2 : (w5.setCell ⟨P, 0, none⟩ v1).heap[Q]? = some (.cells #[.int .i64 0] 25 (0, 0)) := by rw [Below.heap_setCell _ _ _ _ (fun e => hpq e.symm)]; exact hQ1
  have hO2 := ownsRow_setCell_other hO1 (a := ⟨P, 0, none⟩) (own_ne hO1 hP1 (by decide)) v1
  refine ⟨⟨hpq, hbp, hbq, v1, hP2, hQ2, hO2⟩, hB1.setCell (p := ⟨P, 0, none⟩) hbp v1, ?_⟩
  have k1 : OthersKept 5 (some P) w w5 := (OthersKept.refl _ _ w).grown hg (fun g hg1 => by
    rcases hO.2 with ⟨rfl, -⟩ | ⟨g', cap, cur, rfl, hg', hh, r⟩
    · simp [Value.ownBlock] at hg1
    · simp only [Value.ownBlock, Option.some.injEq] at hg1
      subst hg1
      exact ⟨_, _, hh⟩)
  exact k1.setCell ⟨P, 0, none⟩ rfl v1
theorem own_slice {w : World} {base : Nat} {v : Value} {z : List Int} (h : w.ownsRow base 5 1 v z.length (nums .u8 z)) : ∃ A c, v = .slice A z.length c := by
  obtain ⟨A, c, rfl, _⟩ := Kd.R_reads (Kd.R_of_own (enc := Value.int .u8) (h1 := fun _ => rfl) (ok := fun _ => True) h (fun _ _ => trivial))
  exact ⟨A, c, rfl⟩
theorem flat_snoc (l : List S35) (k : Nat) (h : k < l.length) : (l.take (k + 1)).flatMap constL = (l.take k).flatMap constL ++ constL l[k] := by
  rw [List.take_succ_eq_append_getElem h, List.flatMap_append]; simp
/-- the state at the loop -/
def LoopSt (base P Q Z : Nat) (w0 w : World) (out : List Int) : Prop :=
  PutSt base P Q w out ∧ Below base w0 w ∧ Z ≠ P ∧ base ≤ w.heap.size ∧ w.heap[Z]? = some (.cells #[.func (.func 46) #[] #[.pointer (some ⟨P, 0, none⟩), .pointer (some ⟨Q, 0, none⟩)]] 68 (0, 0))
end Go.Proofs.YtkhigagkgpfpfaaDoor.Ext
