/- If one byte is another one, the sum is another one. -/
import Derived.Test.YtbigjbedogaknaaPAdlerOnex1
import Derived.OpenShut
set_option linter.unusedVariables false
namespace Go.Proofs.Ytbigjbedogaknaa.Pure
open Go.RowKit Go.Proofs.Ytbigjbedogaknaa.PAdlerOne Go.Proofs.YtbigjbedogaknaaW.PrintWords Go.Proofs.YtbigjbedogaknaaW.PrintLast Go.Proofs.Ytbigjbedogaknaa.Ext

theorem works_ok : warpbeamlaw03_works.f = some true := rfl
theorem bytes_of {l : List Int} (h : ∀ x ∈ l, (Lit.int .u8 x).wf = true) : ∀ x ∈ l, 0 ≤ x ∧ x ≤ 255 := fun x hx => bounds_u8 (h x hx)
theorem on_f (a0 : Int) (l : List Int) (h0 : 0 ≤ a0) (h1 : a0 < 4294967296) (h : ∀ x ∈ l, 0 ≤ x ∧ x ≤ 255) : adler_On.f a0 l = some (adlV a0 l) := by
  unfold adler_On.f; rw [if_pos ⟨⟨h0, h1⟩, h⟩]
theorem of_f (l : List Int) (h : ∀ x ∈ l, 0 ≤ x ∧ x ≤ 255) : adler_Of.f l = some (adlV 1 l) := by
  unfold adler_Of.f; rw [on_f 1 l (by omega) (by omega) h]; rfl
theorem rd_byte {l : List Int} (h : ∀ x ∈ l, 0 ≤ x ∧ x ≤ 255) (i : Int) : 0 ≤ rd l i ∧ rd l i ≤ 255 := by
  unfold rd
  rw [List.getD_eq_getElem?_getD]
  by_cases hi : i.toNat < l.length
  · rw [List.getElem?_eq_getElem hi]; exact h _ (List.getElem_mem hi)
  · rw [List.getElem?_eq_none (by omega)]; simp
theorem step64 (i : Int) (n : Nat) (h0 : 0 ≤ i) (h : i < (n : Int)) (hn : n ≤ 140737488351232) : wrap64 (i + 1) = i + 1 := by unfold wrap64; omega
theorem copy_f (l : List Int) (h : l.length ≤ 140737488351232) : warpbeamref00_CopyBytes.f l = some l := by
  unfold warpbeamref00_CopyBytes.f
  rw [if_pos (by simp only [List.length_nil]; omega)]; rfl
theorem bring_f (a : Int) (n : Nat) (ha : -9223372036854775808 ≤ a ∧ a ≤ 9223372036854775807) (hn : 0 < n) (hm : n ≤ 140737488351232) : ∃ t : Int, warpbeamref00_Bring.f a n = some t ∧ 0 ≤ t ∧ t < n := by
  unfold warpbeamref00_Bring.f
  rw [if_neg (by omega), if_neg (by omega)]
  have h1 : Int.tmod a n < n := Int.tmod_lt_of_pos a (by omega)
  have h2 : -(n : Int) < Int.tmod a n := by
    have := Int.tmod_lt_of_pos (-a) (show (0 : Int) < n by omega)
    rw [Int.neg_tmod] at this; omega
  split
  · rw [show wrap64 (Int.tmod a n + n) = Int.tmod a n + n by unfold wrap64; omega]
    exact ⟨_, rfl, by omega, by omega⟩
  · exact ⟨_, rfl, by omega, by omega⟩

theorem AdlerOne : warpbeamlaw03_AdlerOne.Pure := by
  intro l a1 a2 _ hl hw h1 h2
  have hb := bytes_of hw
  have h1 := bounds_i64 h1
  have h2 := bounds_u8 h2
  have hl' : l.length ≤ 140737488351232 := by omega
  unfold warpbeamlaw03_AdlerOne.f
  rw [works_ok, Option.bind_some, if_pos rfl]
  by_cases h0 : (l.length : Int) = 0
  · rw [if_pos h0]
  · rw [if_neg h0, copy_f l hl', Option.bind_some]
    obtain ⟨t, ht, t0, t1⟩ := bring_f a1 l.length h1 (by omega) hl'
    rw [ht, Option.bind_some, if_pos t0, if_pos t1, of_f l hb, Option.bind_some]
    have hi : t.toNat < l.length := by omega
    have hr := rd_byte hb t
    have hv : 0 ≤ (rd l t + a2) % 256 ∧ (rd l t + a2) % 256 ≤ 255 := by omega
    rw [of_f (l.set t.toNat ((rd l t + a2) % 256)) (fun x hx => by rcases List.mem_or_eq_of_mem_set hx with h | h; exact hb x h; rw [h]; exact hv), Option.bind_some]
    have key := adl_one l 1 (by omega) t.toNat hi _ hv hb
    have e : (adlV 1 l == adlV 1 (l.set t.toNat ((rd l t + a2) % 256))) = (a2 == 0) := by
      rw [Bool.eq_iff_iff, beq_iff_eq, beq_iff_eq, key]
      show (rd l t + a2) % 256 = rd l t ↔ _
      omega
    rw [e]; simp

end Go.Proofs.Ytbigjbedogaknaa.Pure
