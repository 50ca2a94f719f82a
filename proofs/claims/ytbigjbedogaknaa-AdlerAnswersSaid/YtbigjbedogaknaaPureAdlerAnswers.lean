/- Of and On answer as the document's definition does, of all sums and bytes, and leave what is handed in. -/
import Derived.Test.YtbigjbedogaknaaPAdlerAnswersx1
import Derived.OpenShut
set_option linter.unusedVariables false
namespace Go.Proofs.Ytbigjbedogaknaa.Pure
open Go.RowKit Go.Proofs.Ytbigjbedogaknaa.PAdlerAnswers Go.Proofs.YtbigjbedogaknaaW.PrintWords Go.Proofs.YtbigjbedogaknaaW.PrintLast Go.Proofs.Ytbigjbedogaknaa.Ext

theorem works_ok : warpbeamlaw03_works.f = some true := rfl
theorem bytes_of {l : List Int} (h : ∀ x ∈ l, (Lit.int .u8 x).wf = true) : ∀ x ∈ l, 0 ≤ x ∧ x ≤ 255 := fun x hx => bounds_u8 (h x hx)
theorem on_f (a0 : Int) (l : List Int) (h0 : 0 ≤ a0) (h1 : a0 < 4294967296) (h : ∀ x ∈ l, 0 ≤ x ∧ x ≤ 255) : adler_On.f a0 l = some (adlV a0 l) := by
  unfold adler_On.f; rw [if_pos ⟨⟨h0, h1⟩, h⟩]
theorem of_f (l : List Int) (h : ∀ x ∈ l, 0 ≤ x ∧ x ≤ 255) : adler_Of.f l = some (adlV 1 l) := by
  unfold adler_Of.f; rw [on_f 1 l (by omega) (by omega) h]; rfl
theorem rd_byte {l : List Int} (h : ∀ x ∈ l, 0 ≤ x ∧ x ≤ 255) (i : Int) : 0 ≤ rd l i ∧ rd l i ≤ 255 := by
  unfold rd
  rw [List.getD_eq_getElem?_getD]
  by_cases hi : i.toNat < l.length
  · rw [List.getElem?_eq_getElem hi]; exact h _ (List.getElem_mem hi)
  · rw [List.getElem?_eq_none (by omega)]; simp
theorem step64 (i : Int) (n : Nat) (h0 : 0 ≤ i) (h : i < (n : Int)) (hn : n ≤ 140737488351232) : wrap64 (i + 1) = i + 1 := by unfold wrap64; omega
theorem copy_f (l : List Int) (h : l.length ≤ 140737488351232) : warpbeamref00_CopyBytes.f l = some l := by
  unfold warpbeamref00_CopyBytes.f
  rw [if_pos (by simp only [List.length_nil]; omega)]; rfl
theorem eq_l0 (l : List Int) (hl : l.length ≤ 140737488351232) (d : Nat) : ∀ (k : Nat) (i : Int), 0 ≤ i → i ≤ l.length → (l.length : Int) - i = d → d < k → warpbeamref00_EqBytes.l0 k l l i = some true := by
  induction d with
  | zero =>
    intro k i h0 h1 hd hk
    obtain ⟨k, rfl⟩ : ∃ m, k = m + 1 := ⟨k - 1, by omega⟩
    simp only [warpbeamref00_EqBytes.l0]; rw [if_neg (by omega)]
  | succ d ih =>
    intro k i h0 h1 hd hk
    obtain ⟨k, rfl⟩ : ∃ m, k = m + 1 := ⟨k - 1, by omega⟩
    simp only [warpbeamref00_EqBytes.l0]
    rw [if_pos (by omega), if_pos h0, if_pos (by omega)]; simp only [if_true]; rw [step64 i l.length h0 (by omega) hl]
    exact ih k (i + 1) (by omega) (by omega) (by omega) (by omega)
theorem eq_f (l : List Int) (hl : l.length ≤ 140737488351232) (k : Nat) (hk : l.length < k) : warpbeamref00_EqBytes.f k l l = some true := by
  unfold warpbeamref00_EqBytes.f
  rw [if_pos rfl]
  exact eq_l0 l hl l.length k 0 (by omega) (by omega) (by omega) hk

theorem ref_l0 (l : List Int) (hl : l.length ≤ 140737488351232) (hb : ∀ x ∈ l, 0 ≤ x ∧ x ≤ 255) (d : Nat) : ∀ (k : Nat) (i x y : Int), 0 ≤ i → i ≤ l.length → (l.length : Int) - i = d → d < k → (0 ≤ x ∧ x < 65521) → (0 ≤ y ∧ y < 65521) →
    warpbeamref03_On.l0 k l x y i = some ((adl x y (l.drop i.toNat)).2 * 65536 + (adl x y (l.drop i.toNat)).1) := by
  induction d with
  | zero =>
    intro k i x y h0 h1 hd hk hx hy
    obtain ⟨k, rfl⟩ : ∃ m, k = m + 1 := ⟨k - 1, by omega⟩
    simp only [warpbeamref03_On.l0]
    rw [if_neg (by omega), List.drop_eq_nil_of_le (by omega)]
    simp only [adl]
    congr 1; omega
  | succ d ih =>
    intro k i x y h0 h1 hd hk hx hy
    obtain ⟨k, rfl⟩ : ∃ m, k = m + 1 := ⟨k - 1, by omega⟩
    simp only [warpbeamref03_On.l0]
    have hr := rd_byte hb i
    rw [if_pos (by omega), if_pos h0, step64 i l.length h0 (by omega) hl]
    rw [show ((x + rd l i % 4294967296) % 4294967296) % 65521 = (x + rd l i) % 65521 by omega]
    rw [show (y + (x + rd l i) % 65521) % 4294967296 % 65521 = (y + (x + rd l i) % 65521) % 65521 by omega]
    rw [ih k (i + 1) _ _ (by omega) (by omega) (by omega) (by omega) (by omega) (by omega)]
    rw [drop_cons l i h0 (by omega)]
    rfl
theorem ref_f (a : Int) (l : List Int) (ha : 0 ≤ a ∧ a < 4294967296) (hl : l.length ≤ 140737488351232) (hb : ∀ x ∈ l, 0 ≤ x ∧ x ≤ 255) (k : Nat) (hk : l.length < k) : warpbeamref03_On.f k a l = some (adlV a l) := by
  unfold warpbeamref03_On.f
  rw [Int.tmod_eq_emod_of_nonneg ha.1, Int.tmod_eq_emod_of_nonneg (by omega), Int.tdiv_eq_ediv_of_nonneg ha.1, show a / 65536 % 4294967296 = a / 65536 by omega]
  rw [ref_l0 l hl hb l.length k 0 _ _ (by omega) (by omega) (by omega) hk (by omega) (by omega)]
  rfl

theorem AdlerAnswers : warpbeamlaw03_AdlerAnswers.Pure := by
  intro a l ha _ hl hw
  have hb := bytes_of hw
  have ha := bounds_u32 ha
  have hl' : l.length ≤ 140737488351232 := by omega
  refine ⟨l.length + 1, ?_⟩
  unfold warpbeamlaw03_AdlerAnswers.f warpbeamref03_Of.f
  rw [copy_f l hl', Option.bind_some, of_f l hb, Option.bind_some, ref_f 1 l (by omega) hl' hb _ (by omega), Option.bind_some, Option.bind_some, if_pos rfl,
    on_f a l ha.1 (by omega) hb, Option.bind_some, ref_f a l (by omega) hl' hb _ (by omega), Option.bind_some, if_pos rfl, eq_f l hl' _ (by omega), Option.bind_some, if_pos rfl, works_ok]
  rfl

end Go.Proofs.Ytbigjbedogaknaa.Pure
