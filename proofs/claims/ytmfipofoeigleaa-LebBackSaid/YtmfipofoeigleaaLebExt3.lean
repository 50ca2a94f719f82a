/- The library functions bytes.Equal, bytes.HasPrefix and bytes.Compare, walked by hand, as plain functions on lists of bytes. -/
import Derived.Test.YtmfipofoeigleaaLebExt2
import Derived.Laws.Externs
import Derived.Lib.BytesEntry
set_option linter.unusedVariables false
set_option linter.unusedSimpArgs false
namespace Go.Proofs.Ytmfipofoeigleaa.Ext
open Go.RowKit Go.Proofs.YtmfipofoeigleaaW.PrintWords Go.Proofs.YtmfipofoeigleaaW.PrintLast Go.Proofs.YtmfipofoeigleaaW.PrintMore
attribute [local go_sem] max2_int min2_int max_two min_two max_three min_three max_four min_four

theorem byte_inj {a b : Int} (ha : 0 ≤ a ∧ a ≤ 255) (hb : 0 ≤ b ∧ b ≤ 255) (h : UInt8.ofNat a.toNat = UInt8.ofNat b.toNat) : a = b := by
  have := congrArg UInt8.toNat h
  simp only [UInt8.toNat_ofNat'] at this
  omega
theorem str_inj : ∀ {a b : List Int}, (∀ x ∈ a, 0 ≤ x ∧ x ≤ 255) → (∀ x ∈ b, 0 ≤ x ∧ x ≤ 255) → a.map (fun n : Int => UInt8.ofNat n.toNat) = b.map (fun n : Int => UInt8.ofNat n.toNat) → a = b
  | [], [], _, _, _ => rfl
  | [], _ :: _, _, _, h => by simp at h
  | _ :: _, [], _, _, h => by simp at h
  | x :: a, y :: b, ha, hb, h => by
    simp only [List.map_cons, List.cons.injEq] at h
    rw [byte_inj (ha x (by simp)) (hb y (by simp)) h.1, str_inj (fun z hz => ha z (by simp [hz])) (fun z hz => hb z (by simp [hz])) h.2]
theorem str_eq (a b : List Int) (ha : ∀ x ∈ a, 0 ≤ x ∧ x ≤ 255) (hb : ∀ x ∈ b, 0 ≤ x ∧ x ≤ 255) : ((strOfNums a).toList == (strOfNums b).toList) = decide (a = b) := by
  rw [Bool.eq_iff_iff, beq_iff_eq, decide_eq_true_iff]
  constructor
  · intro h
    have h2 : strOfNums a = strOfNums b := by
      have e : ∀ s : ByteArray, s.toList = s.data.toList := fun s => ByteArray.toList_eq s
      rw [e, e] at h
      exact ByteArray.ext (Array.toList_inj.1 h)
    exact str_inj ha hb (by have h3 := congrArg (fun s : ByteArray => s.data.toList) h2; simpa [strOfNums] using h3)
  · intro h; rw [h]

set_option maxHeartbeats 1000000 in
set_option maxRecDepth 100000 in
theorem equal_calls (A0 : Option Addr) (n0 c0 : Nat) (l0 : List Int) (A1 : Option Addr) (n1 c1 : Nat) (l1 : List Int) (w : World) (h0 : l0.length = n0) (h1 : l1.length = n1) (hr0 : Kd.C (Kd.int .u8) w A0 n0 l0) (hr1 : Kd.C (Kd.int .u8) w A1 n1 l1)
    (hb0 : ∀ x ∈ l0, 0 ≤ x ∧ x ≤ 255) (hb1 : ∀ x ∈ l1, 0 ≤ x ∧ x ≤ 255) :
    Calls Try.prog 41 #[.slice A0 n0 c0, .slice A1 n1 c1] w fun e w' => e = .returned (.bool (decide (l0 = l1))) ∧ w = w' := by
  obtain ⟨b, hb⟩ : ∃ b, decide (l0 = l1) = b := ⟨_, rfl⟩
  rw [hb]
  have he := str_eq l0 l1 hb0 hb1
  rw [hb] at he
  have hcv3 := Kd.C_string (P := Try.prog) (A := A0) (c := c0) Try.underlying22 Try.underlying5 Try.underlying9 hr0
  have hcv4 := Kd.C_string (P := Try.prog) (A := A1) (c := c1) Try.underlying22 Try.underlying5 Try.underlying9 hr1
  obtain ⟨s0, hs0⟩ : ∃ s, strOfNums l0 = s := ⟨_, rfl⟩
  obtain ⟨s1, hs1⟩ : ∃ s, strOfNums l1 = s := ⟨_, rfl⟩
  rw [hs0] at he hcv3
  rw [hs1] at he hcv4
  clear hb hs0 hs1 h0 h1 hr0 hr1 hb0 hb1
  have HE := Aside0.mk he
  clear he
  go_enter Try.func41, Try.ntmps41
  go_wp2
  go_ret
  refine ⟨?_, rfl⟩
  rw [← HE.out]
  first | rfl | simp

/-- 'bytes.HasPrefix', in the form of the print. -/
def bytes_HasPrefix.f (l0 : List Int) (l1 : List Int) : Option (Bool) := if (∀ x ∈ l0, 0 ≤ x ∧ x ≤ 255) ∧ (∀ x ∈ l1, 0 ≤ x ∧ x ≤ 255) then some (decide (l0.take l1.length = l1)) else none
set_option maxHeartbeats 2000000 in
set_option maxRecDepth 100000 in
theorem bytes_HasPrefix.calls (A0 : Option Addr) (c0 : Nat) (l0 : List Int) (A1 : Option Addr) (c1 : Nat) (l1 : List Int) (r : Bool) (w : World) (hr0 : Kd.C (Kd.int .u8) w A0 l0.length l0) (hc0 : l0.length ≤ c0) (hr1 : Kd.C (Kd.int .u8) w A1 l1.length l1) (hc1 : l1.length ≤ c1) (h : bytes_HasPrefix.f l0 l1 = some r) :
    Calls Try.prog 35 #[.slice A0 l0.length c0, .slice A1 l1.length c1] w fun e w' => e = .returned (.bool r) ∧ Drawn0 w w' := by
  unfold bytes_HasPrefix.f at h
  split at h
  · rename_i hg
    obtain ⟨hb0, hb1⟩ := hg
    have hr := Option.some.inj h
    have hm0 : l0.length ≤ 9223372036854775807 := hr0.2.1
    have hm1 : l1.length ≤ 9223372036854775807 := hr1.2.1
    by_cases hle : l1.length ≤ l0.length
    · obtain ⟨i0, hi0, hz0, hz1, hz2⟩ := info_parts info5
      have hcut0 : ∀ W : World, (Instr.slice 22 (.slice A0 l0.length c0) none (some (.int .i64 (l1.length : Int))) none).run Try.prog W = .ok (.slice A0 l1.length c0) W :=
        cut_to 22 5 .i64 Try.underlying22 hi0 A0 l0.length c0 (l1.length : Int) (Int.natCast_nonneg _) (by omega) hc0
      have lT : (l0.take l1.length).length = l1.length := by rw [List.length_take]; omega
      have RT : Kd.C (Kd.int .u8) w A0 l1.length (l0.take l1.length) := by have h := Kd.C_take hr0 hle; rw [lT] at h; exact h
      have HQ := Aside0.mk (equal_calls A0 l1.length c0 (l0.take l1.length) A1 l1.length c1 l1 w lT rfl RT hr1 (fun x hx => hb0 x (List.mem_of_mem_take hx)) hb1)
      rw [hr] at HQ
      have hq : (l1.length : Int) ≤ (l0.length : Int) := by omega
      clear hr0 hr1 hb0 hb1 lT RT hr hi0 hz0 hz1 hz2 h
      go_enter Try.func35, Try.ntmps35
      go_wp2_with fail
      refine HQ.out.mono ?_
      rintro e w' ⟨rfl, rfl⟩
      go_wp2
      go_ret
      exact ⟨by first | rfl | simp, Drawn0.refl _⟩
    · have e : decide (l0.take l1.length = l1) = false := decide_eq_false (fun h => by have := congrArg List.length h; rw [List.length_take] at this; omega)
      rw [e] at hr
      subst hr
      have hq : ¬ (l1.length : Int) ≤ (l0.length : Int) := by omega
      clear hr0 hr1 hb0 hb1 e h
      go_enter Try.func35, Try.ntmps35
      go_wp2
      go_ret
      exact ⟨by first | rfl | simp, Drawn0.refl _⟩
  · cases h

/- Compare -/
def cmpL : List Int → List Int → Int
  | [], [] => 0
  | [], _ :: _ => -1
  | _ :: _, [] => 1
  | a :: l, b :: m => if a < b then -1 else if b < a then 1 else cmpL l m
theorem cmpL_eq : ∀ (a b : List Int), (∀ x ∈ a, 0 ≤ x ∧ x ≤ 255) → (∀ x ∈ b, 0 ≤ x ∧ x ≤ 255) → Lib.compareBytes (Lib.bytesOf a) (Lib.bytesOf b) = cmpL a b
  | [], [], _, _ => rfl
  | [], _ :: _, _, _ => rfl
  | _ :: _, [], _, _ => rfl
  | x :: a, y :: b, ha, hb => by
    have hx := ha x (by simp)
    have hy := hb y (by simp)
    have ih := cmpL_eq a b (fun z hz => ha z (by simp [hz])) (fun z hz => hb z (by simp [hz]))
    have e1 : (x.toNat.toUInt8 < y.toNat.toUInt8) ↔ x < y := by
      rw [UInt8.lt_iff_toNat_lt]; simp [Nat.toUInt8]; omega
    have e2 : (y.toNat.toUInt8 < x.toNat.toUInt8) ↔ y < x := by
      rw [UInt8.lt_iff_toNat_lt]; simp [Nat.toUInt8]; omega
    simp only [Lib.bytesOf, List.map_cons, Lib.compareBytes, cmpL, e1, e2]
    split
    · rfl
    · split
      · rfl
      · exact ih
theorem run_bytes (A : Option Addr) (n c : Nat) (l : List Int) (w : World) (h : Kd.C (Kd.int .u8) w A n l) : (Extern.Bytes.bytesOf (.slice A n c)).run Try.prog w = .ok ⟨(Lib.bytesOf l).toArray⟩ w := by
  have hr := Kd.reads_of_C (enc := Value.int .u8) (d := (0 : Int)) (h1 := fun _ => rfl) h
  have hl : l.length = n := hr.1
  rcases Nat.eq_zero_or_pos n with hn | hn
  · obtain rfl : l = [] := List.eq_nil_of_length_eq_zero (by omega)
    subst hn
    cases A <;> simp [Extern.Bytes.bytesOf, Extern.Bytes.loadBytes, Lib.bytesOf] <;> rfl
  · obtain ⟨ad, rfl, hc⟩ := hr.2.2 hn
    have := Lib.run_loadBytesX (P := Try.prog) w l ad .empty (fun j x hj => by
      have hjl : j < l.length := (List.getElem?_eq_some_iff.1 hj).1
      rw [hc j (by omega)]
      simp [rdOf, List.getD_eq_getElem?_getD, hj])
    rw [hl] at this
    simp only [Extern.Bytes.bytesOf, this]
    simp [ByteArray.empty, ByteArray.emptyWithCapacity]
    try rfl
theorem run_compare (A0 : Option Addr) (n0 c0 : Nat) (l0 : List Int) (A1 : Option Addr) (n1 c1 : Nat) (l1 : List Int) (w : World) (hr0 : Kd.C (Kd.int .u8) w A0 n0 l0) (hr1 : Kd.C (Kd.int .u8) w A1 n1 l1)
    (hb0 : ∀ x ∈ l0, 0 ≤ x ∧ x ≤ 255) (hb1 : ∀ x ∈ l1, 0 ≤ x ∧ x ≤ 255) :
    (Extern.BytealgCompare.compare #[.slice A0 n0 c0, .slice A1 n1 c1]).run Try.prog w = .ok (.int .i64 (cmpL l0 l1)) w := by
  change Sem.run Try.prog (do pure (goInt (Extern.BytealgCompare.cmp (← Extern.Bytes.bytesOf (.slice A0 n0 c0)) (← Extern.Bytes.bytesOf (.slice A1 n1 c1))))) w = _
  simp only [Sem.run_bind, run_bytes A0 n0 c0 l0 w hr0, run_bytes A1 n1 c1 l1 w hr1, Sem.run_pure, Result.andThen]
  rw [Lib.cmp_eq, ← cmpL_eq l0 l1 hb0 hb1]
  rfl
/-- 'bytes.Compare', in the form of the print. -/
def bytes_Compare.f (l0 : List Int) (l1 : List Int) : Option (Int) := if (∀ x ∈ l0, 0 ≤ x ∧ x ≤ 255) ∧ (∀ x ∈ l1, 0 ≤ x ∧ x ≤ 255) then some (cmpL l0 l1) else none
set_option maxHeartbeats 2000000 in
set_option maxRecDepth 100000 in
theorem bytes_Compare.calls (A0 : Option Addr) (c0 : Nat) (l0 : List Int) (A1 : Option Addr) (c1 : Nat) (l1 : List Int) (r : Int) (w : World) (hr0 : Kd.C (Kd.int .u8) w A0 l0.length l0) (hc0 : l0.length ≤ c0) (hr1 : Kd.C (Kd.int .u8) w A1 l1.length l1) (hc1 : l1.length ≤ c1) (h : bytes_Compare.f l0 l1 = some r) :
    Calls Try.prog 34 #[.slice A0 l0.length c0, .slice A1 l1.length c1] w fun e w' => e = .returned (.int .i64 r) ∧ Drawn0 w w' := by
  unfold bytes_Compare.f at h
  split at h
  · rename_i hg
    obtain rfl := Option.some.inj h
    have HRC := Aside0.mk (run_compare A0 l0.length c0 l0 A1 l1.length c1 l1 w hr0 hr1 hg.1 hg.2)
    obtain ⟨v, hv⟩ : ∃ v, cmpL l0 l1 = v := ⟨_, rfl⟩
    rw [hv] at HRC ⊢
    clear hr0 hr1 hg hv h
    go_enter Try.func34, Try.ntmps34
    go_wp2
    rw [run_callFunc_extern Try.func40 (by kernel_rfl) (by kernel_rfl) (by kernel_rfl) (e := Extern.BytealgCompare.compare) (by kernel_rfl), HRC.out]
    simp only [Result.andThen]
    rw [Oper.upon_value]
    go_wp2
    go_ret
    exact ⟨rfl, Drawn0.refl _⟩
  · cases h
end Go.Proofs.Ytmfipofoeigleaa.Ext
