/- Plain laws of texts as bytes: characters, their bytes in the class format and in UTF-8, and how both are read. -/
import Derived.Lib.RuneBytes
import Derived.Lib.MapLaws
import Derived.Lib.ValidLaws
import Derived.Laws.Cover4
set_option linter.unusedVariables false
set_option linter.unusedSimpArgs false
namespace Go.Proofs.YtkhigagkgpfpfaaDoor.Ext
open Go.Lib

/-- a character -/
def VR (c : Int) : Prop := (0 ≤ c ∧ c < 55296) ∨ (57344 ≤ c ∧ c ≤ 1114111)
def Bytes (l : List Int) : Prop := ∀ x ∈ l, 0 ≤ x ∧ x ≤ 255
def m3 (c : Int) : List Int := [224 + c / 4096, 128 + c / 64 % 64, 128 + c % 64]
/-- a character's bytes -/
def mu6 (c : Int) : List Int :=
  if 1 ≤ c ∧ c ≤ 127 then [c] else if c ≤ 2047 then [192 + c / 64, 128 + c % 64] else if c ≤ 65535 then m3 c
  else m3 (55296 + (c - 65536) / 1024) ++ m3 (56320 + (c - 65536) % 1024)
def muts : List Int → List Int
  | [] => []
  | c :: t => mu6 c ++ muts t
/-- what is written in one to three bytes; 0 bytes: nothing is -/
def unitN (n : Nat) (x y z : Int) : Int × Int :=
  if n = 0 ∨ x = 0 then (0, 0)
  else if x ≤ 127 then (x, 1)
  else if x / 32 = 6 ∧ (1 < n ∧ y / 64 = 2) then (if x % 32 * 64 + y % 64 ≠ 0 ∧ x % 32 * 64 + y % 64 ≤ 127 then (0, 0) else (x % 32 * 64 + y % 64, 2))
  else if x / 16 = 14 ∧ (1 < n ∧ y / 64 = 2) ∧ (2 < n ∧ z / 64 = 2) then
    (if x % 16 * 4096 + y % 64 * 64 + z % 64 ≤ 2047 then (0, 0) else (x % 16 * 4096 + y % 64 * 64 + z % 64, 3))
  else (0, 0)
def unitL (b : List Int) : Int × Int := unitN b.length (b.getD 0 0) (b.getD 1 0) (b.getD 2 0)
/-- a character taken off -/
def takeL (b : List Int) : Int × Int :=
  if (unitL b).2 < 3 ∨ (unitL b).1 < 55296 ∨ (unitL b).1 > 57343 then unitL b
  else if (unitL b).1 ≥ 56320 then (0, 0)
  else if (unitL (b.drop 3)).2 < 3 ∨ (unitL (b.drop 3)).1 < 56320 ∨ (unitL (b.drop 3)).1 > 57343 then (0, 0)
  else (65536 + ((unitL b).1 - 55296) * 1024 + (unitL (b.drop 3)).1 - 56320, 6)

theorem unitN_shape (n : Nat) (x y z : Int) :
    unitN n x y z = (0, 0) ∨
    (1 ≤ n ∧ x ≠ 0 ∧ x ≤ 127 ∧ unitN n x y z = (x, 1)) ∨
    (127 < x ∧ x / 32 = 6 ∧ 1 < n ∧ y / 64 = 2 ∧ (x % 32 * 64 + y % 64 = 0 ∨ 127 < x % 32 * 64 + y % 64) ∧ unitN n x y z = (x % 32 * 64 + y % 64, 2)) ∨
    (127 < x ∧ x / 16 = 14 ∧ 2 < n ∧ y / 64 = 2 ∧ z / 64 = 2 ∧ 2047 < x % 16 * 4096 + y % 64 * 64 + z % 64 ∧ unitN n x y z = (x % 16 * 4096 + y % 64 * 64 + z % 64, 3)) := by
  unfold unitN
  repeat' split
  all_goals first
    | exact .inl rfl
    | exact .inr (.inl ⟨by omega, by omega, by omega, rfl⟩)
    | exact .inr (.inr (.inl ⟨by omega, by omega, by omega, by omega, by omega, rfl⟩))
    | exact .inr (.inr (.inr ⟨by omega, by omega, by omega, by omega, by omega, by omega, rfl⟩))
theorem unitL_size (b : List Int) : (unitL b).2 = 0 ∨ (unitL b).2 = 1 ∨ (unitL b).2 = 2 ∨ (unitL b).2 = 3 := by
  unfold unitL
  rcases unitN_shape b.length (b.getD 0 0) (b.getD 1 0) (b.getD 2 0) with h | ⟨_, _, _, h⟩ | ⟨_, _, _, _, _, h⟩ | ⟨_, _, _, _, _, _, h⟩ <;> rw [h] <;> simp
theorem unitL_len (b : List Int) : (unitL b).2 ≤ b.length := by
  unfold unitL
  rcases unitN_shape b.length (b.getD 0 0) (b.getD 1 0) (b.getD 2 0) with h | ⟨_, _, _, h⟩ | ⟨_, _, _, _, _, h⟩ | ⟨_, _, _, _, _, _, h⟩ <;> rw [h] <;> simp <;> omega
theorem unitL_range (b : List Int) (hb : Bytes b) : 0 ≤ (unitL b).1 ∧ (unitL b).1 ≤ 65535 ∧ ((unitL b).2 = 0 → (unitL b).1 = 0) := by
  have g : ∀ i, 0 ≤ b.getD i 0 ∧ b.getD i 0 ≤ 255 := by
    intro i
    rw [List.getD_eq_getElem?_getD]
    by_cases h : i < b.length
    · rw [List.getElem?_eq_getElem h]; exact hb _ (List.getElem_mem h)
    · rw [List.getElem?_eq_none (by omega)]; simp
  have g0 := g 0; have g1 := g 1; have g2 := g 2
  unfold unitL
  generalize b.getD 0 0 = x at *; generalize b.getD 1 0 = y at *; generalize b.getD 2 0 = z at *
  have hs := unitN_shape b.length x y z
  rcases hs with h | ⟨_, _, _, h⟩ | ⟨_, _, _, _, _, h⟩ | ⟨_, _, _, _, _, _, h⟩ <;> rw [h] <;> refine ⟨?_, ?_, fun h0 => ?_⟩ <;> simp only at * <;> omega
theorem unitL_nil : unitL [] = (0, 0) := rfl
theorem takeL_nil : takeL [] = (0, 0) := rfl

theorem getD_byte {b : List Int} (hb : Bytes b) (i : Nat) : 0 ≤ b.getD i 0 ∧ b.getD i 0 ≤ 255 := by
  rw [List.getD_eq_getElem?_getD]
  by_cases h : i < b.length
  · rw [List.getElem?_eq_getElem h]; exact hb _ (List.getElem_mem h)
  · rw [List.getElem?_eq_none (by omega)]; simp
theorem list1 : ∀ {b : List Int}, 1 ≤ b.length → b = [b.getD 0 0] ++ b.drop 1
  | _ :: _, _ => rfl
theorem list2 : ∀ {b : List Int}, 2 ≤ b.length → b = [b.getD 0 0, b.getD 1 0] ++ b.drop 2
  | [_], h => by simp at h
  | _ :: _ :: _, _ => rfl
theorem list3 : ∀ {b : List Int}, 3 ≤ b.length → b = [b.getD 0 0, b.getD 1 0, b.getD 2 0] ++ b.drop 3
  | [_], h => by simp at h
  | [_, _], h => by simp at h
  | _ :: _ :: _ :: _, _ => rfl
theorem Bytes.drop {b : List Int} (hb : Bytes b) (n : Nat) : Bytes (b.drop n) := fun x hx => hb x (List.mem_of_mem_drop hx)
theorem Bytes.take {b : List Int} (hb : Bytes b) (n : Nat) : Bytes (b.take n) := fun x hx => hb x (List.mem_of_mem_take hx)
theorem Bytes.append {b c : List Int} (hb : Bytes b) (hc : Bytes c) : Bytes (b ++ c) := fun x hx => (List.mem_append.1 hx).elim (hb x) (hc x)

/-- three bytes, read -/
theorem unitL_m3 (c : Int) (r : List Int) (h0 : 2048 ≤ c) (h1 : c ≤ 65535) : unitL (m3 c ++ r) = (c, 3) := by
  unfold unitL m3
  simp only [List.cons_append, List.nil_append, List.getD_cons_zero, List.getD_cons_succ, List.length_cons, unitN]
  rw [if_neg (by omega), if_neg (by omega), if_neg (by omega), if_pos (by omega), if_neg (by omega)]
  congr 1; omega
theorem unitL_three (b : List Int) (hb : Bytes b) (h : (unitL b).2 = 3) : 2048 ≤ (unitL b).1 ∧ b = m3 (unitL b).1 ++ b.drop 3 := by
  have g0 := getD_byte hb 0; have g1 := getD_byte hb 1; have g2 := getD_byte hb 2
  have hs := unitN_shape b.length (b.getD 0 0) (b.getD 1 0) (b.getD 2 0)
  have hl : 3 ≤ b.length := by have := unitL_len b; omega
  have e := list3 hl
  unfold unitL at h ⊢
  generalize b.getD 0 0 = x at *; generalize b.getD 1 0 = y at *; generalize b.getD 2 0 = z at *
  rcases hs with h' | ⟨_, _, _, h'⟩ | ⟨_, _, _, _, _, h'⟩ | ⟨_, _, _, _, _, _, h'⟩ <;> rw [h'] at h ⊢ <;> simp only at h <;> try omega
  refine ⟨by simp only; omega, ?_⟩
  unfold m3
  simp only
  rw [e]
  congr 1
  simp only [List.cons.injEq, and_true]
  omega

/-- a character's bytes, read -/
theorem takeL_mu6 (c : Int) (r : List Int) (hc : VR c) : takeL (mu6 c ++ r) = (c, ((mu6 c).length : Int)) := by
  unfold VR at hc
  unfold mu6
  by_cases h1 : 1 ≤ c ∧ c ≤ 127
  · rw [if_pos h1]
    have e : unitL ([c] ++ r) = (c, 1) := by
      unfold unitL unitN
      simp only [List.cons_append, List.nil_append, List.getD_cons_zero, List.length_cons]
      rw [if_neg (by omega), if_pos (by omega)]
    unfold takeL
    rw [e, if_pos (by simp)]; rfl
  · rw [if_neg h1]
    by_cases h2 : c ≤ 2047
    · rw [if_pos h2]
      have e : unitL ([192 + c / 64, 128 + c % 64] ++ r) = (c, 2) := by
        unfold unitL unitN
        simp only [List.cons_append, List.nil_append, List.getD_cons_zero, List.getD_cons_succ, List.length_cons]
        rw [if_neg (by omega), if_neg (by omega), if_pos (by omega), if_neg (by omega)]
        congr 1; omega
      unfold takeL
      rw [e, if_pos (by simp)]; rfl
    · rw [if_neg h2]
      by_cases h3 : c ≤ 65535
      · rw [if_pos h3]
        unfold takeL
        rw [unitL_m3 c r (by omega) h3, if_pos (by simp only; omega)]; rfl
      · rw [if_neg h3, List.append_assoc]
        unfold takeL
        rw [unitL_m3 _ _ (by omega) (by omega), show (m3 (55296 + (c - 65536) / 1024) ++ (m3 (56320 + (c - 65536) % 1024) ++ r)).drop 3 = m3 (56320 + (c - 65536) % 1024) ++ r from rfl, unitL_m3 _ _ (by omega) (by omega)]
        simp only
        rw [if_neg (by omega), if_neg (by omega), if_neg (by omega)]
        refine Prod.ext (by simp only; omega) (by simp [m3])
/-- what could be read is a character's bytes -/
theorem takeL_inv (b : List Int) (hb : Bytes b) (h : (takeL b).2 ≠ 0) : VR (takeL b).1 ∧ b = mu6 (takeL b).1 ++ b.drop (takeL b).2.toNat ∧ (takeL b).2 = ((mu6 (takeL b).1).length : Int) := by
  have key : (unitL b).2 ≠ 0 → ((unitL b).2 < 3 ∨ (unitL b).1 < 55296 ∨ (unitL b).1 > 57343) → VR (unitL b).1 ∧ b = mu6 (unitL b).1 ++ b.drop (unitL b).2.toNat ∧ (unitL b).2 = ((mu6 (unitL b).1).length : Int) := by
    intro h0 h1
    have g0 := getD_byte hb 0; have g1 := getD_byte hb 1
    by_cases h3 : (unitL b).2 = 3
    · obtain ⟨hlo, e⟩ := unitL_three b hb h3
      have hr := (unitL_range b hb).2.1
      have em : mu6 (unitL b).1 = m3 (unitL b).1 := by unfold mu6; rw [if_neg (by omega), if_neg (by omega), if_pos (by omega)]
      rw [em, h3]
      exact ⟨by unfold VR; omega, e, rfl⟩
    · have hl := unitL_len b
      have hs := unitN_shape b.length (b.getD 0 0) (b.getD 1 0) (b.getD 2 0)
      have e1 := @list1 b; have e2 := @list2 b
      unfold unitL at h0 h1 h3 hl ⊢
      generalize b.getD 0 0 = x at *; generalize b.getD 1 0 = y at *; generalize b.getD 2 0 = z at *
      rcases hs with h' | ⟨_, _, _, h'⟩ | ⟨_, _, _, _, _, h'⟩ | ⟨_, _, _, _, _, _, h'⟩ <;> rw [h'] at h0 h1 h3 hl ⊢ <;> simp only at h0 h1 h3 hl ⊢
      · omega
      · have em : mu6 x = [x] := by unfold mu6; rw [if_pos (by omega)]
        rw [em]
        exact ⟨by unfold VR; omega, e1 (by omega), rfl⟩
      · have em : mu6 (x % 32 * 64 + y % 64) = [x, y] := by
          unfold mu6; rw [if_neg (by omega), if_pos (by omega)]
          simp only [List.cons.injEq, and_true]; omega
        rw [em]
        exact ⟨by unfold VR; omega, e2 (by omega), rfl⟩
      · exact absurd trivial h3
  unfold takeL at h ⊢
  by_cases h1 : (unitL b).2 < 3 ∨ (unitL b).1 < 55296 ∨ (unitL b).1 > 57343
  · rw [if_pos h1] at h ⊢
    exact key h h1
  · rw [if_neg h1] at h ⊢
    by_cases h2 : (unitL b).1 ≥ 56320
    · rw [if_pos h2] at h; exact absurd rfl h
    · rw [if_neg h2] at h ⊢
      by_cases h3 : (unitL (b.drop 3)).2 < 3 ∨ (unitL (b.drop 3)).1 < 56320 ∨ (unitL (b.drop 3)).1 > 57343
      · rw [if_pos h3] at h; exact absurd rfl h
      · rw [if_neg h3]
        have s1 := unitL_size b
        have s2 := unitL_size (b.drop 3)
        obtain ⟨lo1, e1⟩ := unitL_three b hb (by omega)
        obtain ⟨lo2, e2⟩ := unitL_three (b.drop 3) (hb.drop 3) (by omega)
        generalize (unitL b).1 = u at *
        generalize (unitL (b.drop 3)).1 = v at *
        rw [List.drop_drop] at e2
        have em : mu6 (65536 + (u - 55296) * 1024 + v - 56320) = m3 u ++ m3 v := by
          unfold mu6
          rw [if_neg (by omega), if_neg (by omega), if_neg (by omega)]
          congr 2 <;> omega
        simp only
        rw [em]
        refine ⟨by unfold VR; omega, ?_, by simp [m3]⟩
        rw [List.append_assoc, show (6 : Int).toNat = 3 + 3 from rfl, ← e2]
        exact e1
theorem takeL_len (b : List Int) (hb : Bytes b) : 0 ≤ (takeL b).2 ∧ (takeL b).2 ≤ b.length := by
  by_cases h : (takeL b).2 = 0
  · omega
  · obtain ⟨_, e, e2⟩ := takeL_inv b hb h
    have := congrArg List.length e
    rw [List.length_append] at this
    omega
theorem mu6_pos (c : Int) : 1 ≤ (mu6 c).length ∧ (mu6 c).length ≤ 6 := by
  unfold mu6
  repeat' split
  all_goals simp [m3]
theorem mu6_bytes (c : Int) (hc : VR c) : Bytes (mu6 c) := by
  unfold VR at hc
  intro x hx
  unfold mu6 m3 at hx
  repeat' split at hx
  all_goals simp at hx
  all_goals omega
theorem mu6_plain (c : Int) (hc : VR c) : ∀ x ∈ mu6 c, x ≠ 0 := by
  unfold VR at hc
  intro x hx
  unfold mu6 m3 at hx
  repeat' split at hx
  all_goals simp at hx
  all_goals omega
theorem muts_append : ∀ a b : List Int, muts (a ++ b) = muts a ++ muts b
  | [], _ => rfl
  | c :: t, b => by simp [muts, muts_append t b, List.append_assoc]
theorem muts_bytes : ∀ {cs : List Int}, (∀ c ∈ cs, VR c) → Bytes (muts cs)
  | [], _ => fun x hx => by cases hx
  | c :: t, h => Bytes.append (mu6_bytes c (h c (by simp))) (muts_bytes fun d hd => h d (by simp [hd]))
theorem muts_len : ∀ cs : List Int, cs.length ≤ (muts cs).length ∧ (muts cs).length ≤ 6 * cs.length
  | [] => by simp [muts]
  | c :: t => by have := muts_len t; have := mu6_pos c; simp only [muts, List.length_append, List.length_cons]; omega

/-! ### all characters -/
def decGo : Nat → List Int → List Int × List Int
  | 0, b => ([], b)
  | k + 1, b => if (takeL b).2 = 0 then ([], b) else ((takeL b).1 :: (decGo k (b.drop (takeL b).2.toNat)).1, (decGo k (b.drop (takeL b).2.toNat)).2)
/-- the characters that can be taken off, one behind the other; what is left -/
def dec (b : List Int) : List Int × List Int := decGo b.length b
theorem takeL_stuck_zero {b : List Int} (h : b.length = 0) : (takeL b).2 = 0 := by
  rw [List.eq_nil_of_length_eq_zero h]; rfl
theorem decGo_inv : ∀ (k : Nat) (b : List Int), Bytes b → b.length ≤ k → b = muts (decGo k b).1 ++ (decGo k b).2 ∧ (∀ c ∈ (decGo k b).1, VR c) ∧ (takeL (decGo k b).2).2 = 0
  | 0, b, hb, hk => ⟨rfl, (fun _ h => by cases h), takeL_stuck_zero (b := b) (by omega)⟩
  | k + 1, b, hb, hk => by
    by_cases h : (takeL b).2 = 0
    · simp only [decGo, if_pos h]; exact ⟨rfl, (fun _ h => by cases h), h⟩
    · obtain ⟨hv, e, el⟩ := takeL_inv b hb h
      have hp := mu6_pos (takeL b).1
      obtain ⟨h1, h2, h3⟩ := decGo_inv k (b.drop (takeL b).2.toNat) (hb.drop _) (by rw [List.length_drop]; omega)
      simp only [decGo, if_neg h]
      refine ⟨?_, ?_, h3⟩
      · simp only [muts, List.append_assoc]; rw [← h1]; exact e
      · intro c hc
        rcases List.mem_cons.1 hc with rfl | hc
        · exact hv
        · exact h2 c hc
theorem dec_inv (b : List Int) (hb : Bytes b) : b = muts (dec b).1 ++ (dec b).2 ∧ (∀ c ∈ (dec b).1, VR c) ∧ (takeL (dec b).2).2 = 0 := decGo_inv _ b hb (Nat.le_refl _)
theorem decGo_eq : ∀ (cs r : List Int), (∀ c ∈ cs, VR c) → (takeL r).2 = 0 → ∀ k, (muts cs ++ r).length ≤ k → decGo k (muts cs ++ r) = (cs, r)
  | [], r, _, hr, 0, _ => rfl
  | [], r, _, hr, k + 1, _ => by
    show decGo (k + 1) r = ([], r)
    simp only [decGo]; rw [if_pos hr]
  | c :: t, r, hv, hr, 0, hk => by have := mu6_pos c; simp only [muts, List.length_append] at hk; omega
  | c :: t, r, hv, hr, k + 1, hk => by
    have hp := mu6_pos c
    have e := takeL_mu6 c (muts t ++ r) (hv c (by simp))
    simp only [muts, List.append_assoc] at hk ⊢
    simp only [decGo, e]
    rw [if_neg (by omega), Int.toNat_natCast, List.drop_left]
    rw [List.length_append] at hk
    rw [decGo_eq t r (fun d hd => hv d (by simp [hd])) hr k (by omega)]
theorem dec_eq (cs r : List Int) (hv : ∀ c ∈ cs, VR c) (hr : (takeL r).2 = 0) : dec (muts cs ++ r) = (cs, r) := decGo_eq cs r hv hr _ (Nat.le_refl _)
theorem dec_muts (cs : List Int) (hv : ∀ c ∈ cs, VR c) : dec (muts cs) = (cs, []) := by
  have := dec_eq cs [] hv rfl
  rwa [List.append_nil] at this
/-- behind so many bytes nothing can mend it -/
theorem unitL_far (r m : List Int) (h : 3 ≤ r.length) : unitL (r ++ m) = unitL r := by
  have e := list3 h
  generalize r.drop 3 = d at e
  rw [e]
  unfold unitL unitN
  simp only [List.cons_append, List.nil_append, List.append_assoc, List.getD_cons_zero, List.getD_cons_succ, List.length_cons]
  have a1 : (d ++ m).length + 1 + 1 + 1 = 0 ↔ d.length + 1 + 1 + 1 = 0 := by omega
  simp only [show ¬ ((d ++ m).length + 1 + 1 + 1 = 0) by omega, show ¬ (d.length + 1 + 1 + 1 = 0) by omega, show 1 < (d ++ m).length + 1 + 1 + 1 by omega, show 1 < d.length + 1 + 1 + 1 by omega, show 2 < (d ++ m).length + 1 + 1 + 1 by omega, show 2 < d.length + 1 + 1 + 1 by omega]
theorem takeL_far (r m : List Int) (h : 6 ≤ r.length) : takeL (r ++ m) = takeL r := by
  have e : (r ++ m).drop 3 = r.drop 3 ++ m := by rw [List.drop_append_of_le_length (by omega)]
  unfold takeL
  rw [e, unitL_far r m (by omega), unitL_far (r.drop 3) m (by rw [List.length_drop]; omega)]

/-! ### UTF-8 -/
/-- characters as UTF-8 -/
def us : List Int → List UInt8
  | [] => []
  | c :: t => encodeRune c ++ us t
theorem us_append : ∀ a b : List Int, us (a ++ b) = us a ++ us b
  | [], _ => rfl
  | c :: t, b => by simp [us, us_append t b, List.append_assoc]
theorem enc_pos (c : Int) : 1 ≤ (encodeRune c).length ∧ (encodeRune c).length ≤ 4 := by
  have := encodeRuneZ_length c
  simpa [encodeRune] using this
theorem us_len : ∀ cs : List Int, cs.length ≤ (us cs).length ∧ (us cs).length ≤ 4 * cs.length
  | [] => by simp [us]
  | c :: t => by have := us_len t; have := enc_pos c; simp only [us, List.length_append, List.length_cons]; omega
theorem u8_of (n : Nat) (h : n < 256) : (n.toUInt8).toNat = n := by
  simp [Nat.toUInt8, UInt8.toNat_ofNat, Nat.mod_eq_of_lt h]
theorem dec_enc (c : Int) (r : List UInt8) (hc : VR c) : decodeL (encodeRune c ++ r) = (c.toNat, (encodeRune c).length) := by
  unfold VR at hc
  rw [decodeL_N]
  obtain ⟨n, rfl⟩ : ∃ n : Nat, c = (n : Int) := ⟨c.toNat, by omega⟩
  unfold encodeRune
  by_cases h1 : n ≤ 127
  · rw [encodeRuneZ_one (by omega) (by omega)]
    simp only [List.map_cons, List.map_nil, List.cons_append, List.nil_append, List.getD_cons_zero, Int.toNat_natCast, List.length_cons, List.length_nil]
    rw [u8_of n (by omega)]
    unfold decodeN
    rw [if_pos (by omega)]
  · by_cases h2 : n ≤ 2047
    · rw [encodeRuneZ_two (by omega) (by omega)]
      simp only [List.map_cons, List.map_nil, List.cons_append, List.nil_append, List.getD_cons_zero, List.getD_cons_succ, Int.toNat_natCast, List.length_cons, List.length_nil]
      rw [show (192 + (n : Int) / 64).toNat = 192 + n / 64 by omega, show (128 + (n : Int) % 64).toNat = 128 + n % 64 by omega, u8_of (192 + n / 64) (by omega), u8_of (128 + n % 64) (by omega)]
      unfold decodeN
      rw [if_neg (by omega), if_pos (by omega), if_pos (by omega)]
      congr 1; omega
    · by_cases h3 : n ≤ 65535
      · rw [encodeRuneZ_three (by omega)]
        simp only [List.map_cons, List.map_nil, List.cons_append, List.nil_append, List.getD_cons_zero, List.getD_cons_succ, Int.toNat_natCast, List.length_cons, List.length_nil]
        rw [show (224 + (n : Int) / 4096).toNat = 224 + n / 4096 by omega, show (128 + (n : Int) / 64 % 64).toNat = 128 + n / 64 % 64 by omega, show (128 + (n : Int) % 64).toNat = 128 + n % 64 by omega,
          u8_of (224 + n / 4096) (by omega), u8_of (128 + n / 64 % 64) (by omega), u8_of (128 + n % 64) (by omega)]
        unfold decodeN
        rw [if_neg (by omega), if_neg (by omega), if_pos (by omega), if_pos (by omega)]
        congr 1; omega
      · rw [encodeRuneZ_four (by omega) (by omega)]
        simp only [List.map_cons, List.map_nil, List.cons_append, List.nil_append, List.getD_cons_zero, List.getD_cons_succ, Int.toNat_natCast, List.length_cons, List.length_nil]
        rw [show (240 + (n : Int) / 262144).toNat = 240 + n / 262144 by omega, show (128 + (n : Int) / 4096 % 64).toNat = 128 + n / 4096 % 64 by omega, show (128 + (n : Int) / 64 % 64).toNat = 128 + n / 64 % 64 by omega, show (128 + (n : Int) % 64).toNat = 128 + n % 64 by omega,
          u8_of (240 + n / 262144) (by omega), u8_of (128 + n / 4096 % 64) (by omega), u8_of (128 + n / 64 % 64) (by omega), u8_of (128 + n % 64) (by omega)]
        unfold decodeN
        rw [if_neg (by omega), if_neg (by omega), if_neg (by omega), if_pos (by omega), if_pos (by omega)]
        congr 1; omega
theorem dec_good (l : List UInt8) (hne : l ≠ []) (hv : ¬ ((decodeL l).1 = 65533 ∧ (decodeL l).2 = 1)) : VR ((decodeL l).1 : Int) ∧ l = encodeRune ((decodeL l).1 : Int) ++ l.drop (decodeL l).2 := by
  refine ⟨?_, by rw [encode_decode l hne hv, List.take_append_drop]⟩
  rw [decodeL_N] at hv ⊢
  have k0 := (l.getD 0 0).toNat_lt; have k1 := (l.getD 1 0).toNat_lt; have k2 := (l.getD 2 0).toNat_lt; have k3 := (l.getD 3 0).toNat_lt
  generalize (l.getD 0 0).toNat = b0 at *; generalize (l.getD 1 0).toNat = b1 at *; generalize (l.getD 2 0).toNat = b2 at *; generalize (l.getD 3 0).toNat = b3 at *
  unfold VR
  rcases decodeN_shape l.length b0 b1 b2 b3 with ⟨_, h⟩ | ⟨_, _, _, _, h⟩ | ⟨_, _, _, _, _, _, h⟩ | ⟨_, _, _, _, _, _, _, h⟩ | h <;> rw [h] at hv ⊢ <;> simp only at hv ⊢ <;> omega
/-- valid: characters' UTF-8 -/
theorem valid_us : ∀ cs : List Int, (∀ c ∈ cs, VR c) → validD (us cs) = true
  | [], _ => rfl
  | c :: t, h => by
    have hc := h c (by simp)
    have hp := enc_pos c
    have e := dec_enc c (us t) hc
    have ih := valid_us t (fun d hd => h d (by simp [hd]))
    have hne : encodeRune c ++ us t ≠ [] := by
      intro h0; have := congrArg List.length h0; rw [List.length_append, List.length_nil] at this; omega
    simp only [us]
    rw [validD_step _ hne, e]
    simp only
    rw [List.drop_left, ih, if_neg]
    rintro ⟨h1, h2⟩
    have hc' : c = 65533 := by unfold VR at hc; omega
    subst hc'
    simp [encodeRune, encodeRuneZ_three (show (2048 ≤ (65533 : Int) ∧ (65533 : Int) < 55296) ∨ (57343 < (65533 : Int) ∧ (65533 : Int) ≤ 65535) by omega)] at h2
theorem us_of_valid : ∀ (k : Nat) (l : List UInt8), l.length ≤ k → validD l = true → ∃ cs, (∀ c ∈ cs, VR c) ∧ l = us cs
  | 0, l, hk, _ => ⟨[], (fun _ h => by cases h), List.eq_nil_of_length_eq_zero (by omega)⟩
  | k + 1, l, hk, hv => by
    by_cases hne : l = []
    · exact ⟨[], (fun _ h => by cases h), hne⟩
    · have hl : 0 < l.length := List.length_pos_iff.2 hne
      have hw := decodeL_width l
      rw [validD_step l hne] at hv
      by_cases hb : (decodeL l).1 = 65533 ∧ (decodeL l).2 = 1
      · rw [if_pos hb] at hv; cases hv
      · rw [if_neg hb] at hv
        obtain ⟨h1, h2⟩ := dec_good l hne hb
        obtain ⟨cs, h3, h4⟩ := us_of_valid k (l.drop (decodeL l).2) (by rw [List.length_drop]; omega) hv
        refine ⟨((decodeL l).1 : Int) :: cs, ?_, by simp only [us]; rw [← h4]; exact h2⟩
        intro c hc
        rcases List.mem_cons.1 hc with rfl | hc
        · exact h1
        · exact h3 c hc
theorem us_inj : ∀ {a b : List Int}, (∀ c ∈ a, VR c) → (∀ c ∈ b, VR c) → us a = us b → a = b
  | [], [], _, _, _ => rfl
  | [], d :: t, _, _, h => by have := congrArg List.length h; have := enc_pos d; simp only [us, List.length_nil, List.length_append] at *; omega
  | c :: t, [], _, _, h => by have := congrArg List.length h; have := enc_pos c; simp only [us, List.length_nil, List.length_append] at *; omega
  | c :: t, d :: s, ha, hb, h => by
    have e1 := dec_enc c (us t) (ha c (by simp))
    have e2 := dec_enc d (us s) (hb d (by simp))
    simp only [us] at h
    rw [h, e2] at e1
    have h1 := (Prod.mk.inj e1).1
    have hc := ha c (by simp); have hd := hb d (by simp)
    unfold VR at hc hd
    have : c = d := by omega
    subst this
    rw [us_inj (fun x hx => ha x (by simp [hx])) (fun x hx => hb x (by simp [hx])) (List.append_cancel_left h)]
/-- 'string' of characters -/
theorem encode_eq (r : Int) : (Utf8.encode r).data.toList = encodeRune r := by
  unfold encodeRune
  by_cases hv : (0 ≤ r ∧ r < 55296) ∨ (57344 ≤ r ∧ r ≤ 1114111)
  · obtain ⟨n, rfl⟩ : ∃ n : Nat, r = (n : Int) := ⟨r.toNat, by omega⟩
    have e : Utf8.valid (n : Int) = true := by
      simp only [Utf8.valid, Bool.or_eq_true, Bool.and_eq_true, decide_eq_true_eq]; omega
    unfold Utf8.encode
    simp only [e, if_true, Int.toNat_natCast]
    by_cases h1 : n ≤ 127
    · rw [encodeRuneZ_one (by omega) (by omega), if_pos (show n < 128 by omega)]
      simp only [List.map_cons, List.map_nil, Int.toNat_natCast]
    · rw [if_neg (show ¬ n < 128 by omega)]
      by_cases h2 : n ≤ 2047
      · rw [encodeRuneZ_two (by omega) (by omega), if_pos (show n < 2048 by omega)]
        simp only [List.map_cons, List.map_nil]
        rw [show (192 + (n : Int) / 64).toNat = 192 + n / 64 by omega, show (128 + (n : Int) % 64).toNat = 128 + n % 64 by omega]
      · rw [if_neg (show ¬ n < 2048 by omega)]
        by_cases h3 : n ≤ 65535
        · rw [encodeRuneZ_three (by omega), if_pos (show n < 65536 by omega)]
          simp only [List.map_cons, List.map_nil]
          rw [show (224 + (n : Int) / 4096).toNat = 224 + n / 4096 by omega, show (128 + (n : Int) / 64 % 64).toNat = 128 + n / 64 % 64 by omega, show (128 + (n : Int) % 64).toNat = 128 + n % 64 by omega]
        · rw [encodeRuneZ_four (by omega) (by omega), if_neg (show ¬ n < 65536 by omega)]
          simp only [List.map_cons, List.map_nil]
          rw [show (240 + (n : Int) / 262144).toNat = 240 + n / 262144 by omega, show (128 + (n : Int) / 4096 % 64).toNat = 128 + n / 4096 % 64 by omega, show (128 + (n : Int) / 64 % 64).toNat = 128 + n / 64 % 64 by omega, show (128 + (n : Int) % 64).toNat = 128 + n % 64 by omega]
  · have e : Utf8.valid r = false := by
      rw [Bool.eq_false_iff]; simp only [Utf8.valid, ne_eq, Bool.or_eq_true, Bool.and_eq_true, decide_eq_true_eq]; omega
    rw [encodeRuneZ_bad (by omega)]
    unfold Utf8.encode
    simp only [e, Bool.false_eq_true, if_false, Utf8.runeError]
    rfl
theorem foldl_us : ∀ (cs : List Int) (s : ByteArray), (cs.foldl (fun r n => r ++ Utf8.encode n) s).data.toList = s.data.toList ++ us cs
  | [], s => by simp [us]
  | c :: t, s => by
    rw [List.foldl_cons, foldl_us t, us]
    simp [ByteArray.data_append, encode_eq]
theorem runesBytes_us (cs : List Int) : (runesBytes cs).data.toList = us cs := by
  unfold runesBytes
  rw [foldl_us]; rfl
theorem ba_ext {s t : ByteArray} (h : s.data.toList = t.data.toList) : s = t := by
  cases s; cases t; simp at h; subst h; rfl
/-- 'string' of characters, as the list that it is -/
theorem runesBytes_eq (cs : List Int) : runesBytes cs = ⟨(us cs).toArray⟩ := ba_ext (by rw [runesBytes_us])
end Go.Proofs.YtkhigagkgpfpfaaDoor.Ext
