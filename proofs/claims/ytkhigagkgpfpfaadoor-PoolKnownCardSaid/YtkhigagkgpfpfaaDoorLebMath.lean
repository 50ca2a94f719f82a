/- Numbers as rows of bytes, seven bits a byte: plain lists of integers; no program in sight. -/
set_option linter.unusedVariables false
namespace Go.Proofs.YtkhigagkgpfpfaaDoor.Ext
/-- what a row of bytes tells, its lowest seven bits first -/
def val : List Int → Int
  | [] => 0
  | c :: t => c % 128 + 128 * val t
/-- a row: each byte but the last from 128 on -/
inductive Form : List Int → Prop
  | one (c : Int) (h0 : 0 ≤ c) (h1 : c < 128) : Form [c]
  | more (c : Int) (t : List Int) (h0 : 128 ≤ c) (h1 : c < 256) (h : Form t) : Form (c :: t)
def lastOf : List Int → Int
  | [] => 0
  | [c] => c
  | _ :: t => lastOf t
def ub (n : Nat) : List Int := if n < 128 then [(n : Int)] else ((n % 128 + 128 : Nat) : Int) :: ub (n / 128)
termination_by n
decreasing_by omega
def sb (n : Int) : List Int := if -64 ≤ n ∧ n < 64 then [n % 128] else (n % 128 + 128) :: sb (n / 128)
termination_by n.natAbs
decreasing_by omega
/-- the signed value -/
def sval : List Int → Int
  | [] => 0
  | [c] => if c % 128 < 64 then c % 128 else c % 128 - 128
  | c :: t => c % 128 + 128 * sval t
def rowL : List Int → Nat → Nat → Int → Int × Int × Int
  | _, 0, _, _ => (0, 0, 4)
  | [], _ + 1, _, _ => (0, 0, 3)
  | c :: t, m + 1, s, n => if c < 128 then ((n + c * 2 ^ (7 * s)) % 18446744073709551616, (s : Int) + 1, 0) else rowL t m (s + 1) ((n + (c - 128) * 2 ^ (7 * s)) % 18446744073709551616)

theorem Form.ne {p : List Int} (h : Form p) : p ≠ [] := by cases h <;> simp
theorem Form.pos {p : List Int} (h : Form p) : 0 < p.length := by cases h <;> simp
theorem Form.bytes {p : List Int} (h : Form p) : ∀ c ∈ p, 0 ≤ c ∧ c ≤ 255 := by
  induction h with
  | one c h0 h1 => simp; omega
  | more c t h0 h1 h ih => simp only [List.mem_cons]; rintro x (rfl | hx); · omega
                           · exact ih x hx
theorem Form.val_nn {p : List Int} (h : Form p) : 0 ≤ val p := by
  induction h with
  | one c h0 h1 => simp [val]; omega
  | more c t h0 h1 h ih => simp only [val]; omega
theorem Form.val_lt {p : List Int} (h : Form p) : val p < 128 ^ p.length := by
  induction h with
  | one c h0 h1 => simp [val]; omega
  | more c t h0 h1 h ih => simp only [val, List.length_cons, Int.pow_succ]; omega
theorem Form.last {p : List Int} (h : Form p) : 0 ≤ lastOf p ∧ lastOf p < 128 := by
  induction h with
  | one c h0 h1 => simp [lastOf]; omega
  | more c t h0 h1 h ih => cases t with
    | nil => exact absurd rfl h.ne
    | cons d u => simpa [lastOf] using ih
theorem lastOf_cons (c : Int) (t : List Int) (h : t ≠ []) : lastOf (c :: t) = lastOf t := by
  cases t with
  | nil => exact absurd rfl h
  | cons d u => simp [lastOf]
theorem sval_cons (c : Int) (t : List Int) (h : t ≠ []) : sval (c :: t) = c % 128 + 128 * sval t := by
  cases t with
  | nil => exact absurd rfl h
  | cons d u => simp [sval]
theorem Form.sval_val {p : List Int} (h : Form p) : sval p = if lastOf p < 64 then val p else val p - 128 ^ p.length := by
  induction h with
  | one c h0 h1 =>
    simp only [sval, lastOf, val, List.length_cons, List.length_nil]
    rw [show c % 128 = c by omega]
    split <;> simp <;> omega
  | more c t h0 h1 h ih =>
    rw [sval_cons c t h.ne, lastOf_cons c t h.ne, ih]
    simp only [val, List.length_cons, Int.pow_succ]
    split <;> omega
theorem ub_form (n : Nat) : Form (ub n) := by
  induction n using Nat.strongRecOn with
  | _ n ih =>
    rw [ub]; split
    · exact .one _ (by omega) (by omega)
    · exact .more _ _ (by omega) (by omega) (ih _ (by omega))
theorem ub_val (n : Nat) : val (ub n) = n := by
  induction n using Nat.strongRecOn with
  | _ n ih =>
    rw [ub]; split
    · simp [val]; omega
    · simp only [val]; rw [ih _ (by omega)]; omega
theorem ub_len (m : Nat) : ∀ n : Nat, n < 128 ^ (m + 1) → (ub n).length ≤ m + 1 := by
  induction m with
  | zero => intro n h; rw [ub, if_pos (by simpa using h)]; simp
  | succ m ih =>
    intro n h; rw [ub]; split
    · simp
    · have := ih (n / 128) (by rw [Nat.pow_succ] at h; omega)
      simp only [List.length_cons]; omega
theorem ub_last (n : Nat) : (ub n).length = 1 ∨ lastOf (ub n) ≠ 0 := by
  induction n using Nat.strongRecOn with
  | _ n ih =>
    rw [ub]; split
    · left; rfl
    · right
      rw [lastOf_cons _ _ (ub_form _).ne]
      rcases ih (n / 128) (by omega) with h | h
      · rw [ub] at h ⊢
        split at h
        · rename_i hlt; rw [if_pos hlt]; simp only [lastOf]; omega
        · have := (ub_form (n / 128 / 128)).pos; rw [List.length_cons] at h; omega
      · exact h
theorem Form.ub_of {p : List Int} (h : Form p) (hl : p.length = 1 ∨ lastOf p ≠ 0) : ub (val p).toNat = p := by
  induction h with
  | one c h0 h1 => rw [ub, if_pos (by simp only [val]; omega)]; simp only [val]; rw [show ((c % 128 + 128 * 0).toNat : Int) = c by omega]
  | more c t h0 h1 h ih =>
    have hp := h.pos
    rcases hl with hl | hl
    · rw [List.length_cons] at hl; omega
    rw [lastOf_cons _ _ h.ne] at hl
    have hv := h.val_nn
    have hv1 : 1 ≤ val t := by
      clear ih
      induction h with
      | one c h0 h1 => simp only [val, lastOf] at *; omega
      | more d u g0 g1 g ih2 => rw [lastOf_cons _ _ g.ne] at hl; have := ih2 g.pos hl g.val_nn; simp only [val]; omega
    have e := ih (.inr hl)
    rw [ub, if_neg (by simp only [val]; omega)]
    simp only [val]
    rw [show (c % 128 + 128 * val t).toNat / 128 = (val t).toNat by omega, e, show ((((c % 128 + 128 * val t).toNat % 128 + 128 : Nat)) : Int) = c by omega]
theorem sb_form (n : Int) : Form (sb n) := by
  induction hn : n.natAbs using Nat.strongRecOn generalizing n with
  | _ k ih =>
    rw [sb]; split
    · exact .one _ (by omega) (by omega)
    · exact .more _ _ (by omega) (by omega) (ih (n / 128).natAbs (by omega) _ rfl)
theorem sb_val (n : Int) : sval (sb n) = n := by
  induction hn : n.natAbs using Nat.strongRecOn generalizing n with
  | _ k ih =>
    rw [sb]; split
    · simp only [sval]; split <;> omega
    · rw [sval_cons _ _ (sb_form _).ne, ih (n / 128).natAbs (by omega) _ rfl]; omega
theorem sb_len (m : Nat) : ∀ n : Int, -(64 * 128 ^ m) ≤ n → n < 64 * 128 ^ m → (sb n).length ≤ m + 1 := by
  induction m with
  | zero => intro n h0 h1; rw [sb, if_pos (by omega)]; simp
  | succ m ih =>
    intro n h0 h1; rw [sb]; split
    · simp
    · have := ih (n / 128) (by rw [Int.pow_succ] at h0; omega) (by rw [Int.pow_succ] at h1; omega)
      simp only [List.length_cons]; omega
/-- fewer bytes would not do -/
def Least : List Int → Prop
  | [] => False
  | [_] => True
  | [c, d] => ¬ (d = 0 ∧ c % 128 < 64) ∧ ¬ (d = 127 ∧ 64 ≤ c % 128)
  | _ :: t => Least t
theorem least_cons (c : Int) (t : List Int) (h : 2 ≤ t.length) : Least (c :: t) = Least t := by
  match t, h with
  | d :: e :: u, _ => simp [Least]
theorem sb_least (n : Int) : Least (sb n) := by
  induction hn : n.natAbs using Nat.strongRecOn generalizing n with
  | _ k ih =>
    have e := ih (n / 128).natAbs
    rw [sb]; split
    · trivial
    · have e := ih (n / 128).natAbs (by omega) _ rfl
      rw [sb] at e ⊢
      split
      · simp only [Least]; omega
      · rename_i h2
        rw [if_neg h2] at e
        have := (sb_form (n / 128 / 128)).pos
        rw [least_cons _ _ (by simp; omega)]; exact e
theorem Form.sb_of {p : List Int} (h : Form p) (hl : Least p) : sb (sval p) = p := by
  induction h with
  | one c h0 h1 =>
    simp only [sval]
    split
    · rw [sb, if_pos (by omega), show c % 128 % 128 = c by omega]
    · rw [sb, if_pos (by omega), show (c % 128 - 128) % 128 = c by omega]
  | more c t h0 h1 h ih =>
    rw [sval_cons _ _ h.ne]
    have key : ∀ v, sval t = v → (v < -1 ∨ 0 < v ∨ (v = 0 ∧ 64 ≤ c % 128) ∨ (v = -1 ∧ c % 128 < 64)) → Least t → sb (c % 128 + 128 * v) = c :: t := by
      intro v hv h2 h3
      rw [sb, if_neg (by omega), show (c % 128 + 128 * v) / 128 = v by omega, ← hv, ih h3, show (c % 128 + 128 * sval t) % 128 + 128 = c by omega]
    cases h with
    | one d g0 g1 =>
      refine key _ rfl ?_ trivial
      simp only [Least] at hl
      simp only [sval]
      split <;> omega
    | more d u g0 g1 g =>
      rw [least_cons _ _ (by have := g.pos; simp; omega)] at hl
      refine key _ rfl ?_ hl
      have e := ih hl
      have hu := g.pos
      by_cases hs : -64 ≤ sval (d :: u) ∧ sval (d :: u) < 64
      · rw [sb, if_pos hs] at e
        have := congrArg List.length e
        rw [List.length_cons, List.length_cons, List.length_nil] at this; omega
      · omega
/- reading -/
theorem rowL_form {p : List Int} (h : Form p) : ∀ (r : List Int) (m s : Nat) (n : Int), p.length ≤ m → rowL (p ++ r) m s n = ((n + val p * 2 ^ (7 * s)) % 18446744073709551616, (s : Int) + p.length, 0) := by
  induction h with
  | one c h0 h1 =>
    intro r m s n hm
    obtain ⟨m, rfl⟩ : ∃ q, m = q + 1 := ⟨m - 1, by simp at hm; omega⟩
    simp only [List.cons_append, List.nil_append, rowL, val]
    rw [if_pos h1, show c % 128 + 128 * 0 = c by omega]; rfl
  | more c t h0 h1 h ih =>
    intro r m s n hm
    obtain ⟨m, rfl⟩ : ∃ q, m = q + 1 := ⟨m - 1, by simp at hm; omega⟩
    simp only [List.cons_append, rowL, val]
    rw [if_neg (by omega), ih r m (s + 1) _ (by simpa using hm)]
    have e : (2 : Int) ^ (7 * (s + 1)) = 128 * 2 ^ (7 * s) := by
      rw [show 7 * (s + 1) = 7 * s + 7 by omega, Int.pow_add]; omega
    rw [e, show c % 128 = c - 128 by omega]
    refine Prod.ext ?_ (Prod.ext ?_ rfl)
    · simp only
      rw [Int.add_mul, Int.emod_add_emod, show 128 * val t * 2 ^ (7 * s) = val t * (128 * 2 ^ (7 * s)) by rw [Int.mul_comm 128, Int.mul_assoc], ← Int.add_assoc]
    · simp only [List.length_cons]; omega
theorem rowL_inv (b : List Int) (hb : ∀ c ∈ b, 0 ≤ c ∧ c ≤ 255) : ∀ (m s : Nat) (n : Int),
    (∃ p r, b = p ++ r ∧ Form p ∧ p.length ≤ m ∧ rowL b m s n = ((n + val p * 2 ^ (7 * s)) % 18446744073709551616, (s : Int) + p.length, 0)) ∨
    (rowL b m s n = (0, 0, 4) ∧ m ≤ b.length ∧ ∀ c ∈ b.take m, 128 ≤ c) ∨ (rowL b m s n = (0, 0, 3) ∧ b.length < m ∧ ∀ c ∈ b, 128 ≤ c) := by
  induction b with
  | nil =>
    intro m s n
    cases m with
    | zero => exact .inr (.inl ⟨rfl, by simp, by simp⟩)
    | succ m => exact .inr (.inr ⟨rfl, by simp, by simp⟩)
  | cons c t ih =>
    intro m s n
    cases m with
    | zero => exact .inr (.inl ⟨rfl, by simp, by simp⟩)
    | succ m =>
      by_cases hc : c < 128
      · have hf : Form [c] := .one c (hb c (by simp)).1 hc
        exact .inl ⟨[c], t, rfl, hf, by simp, rowL_form hf t (m + 1) s n (by simp)⟩
      · rcases ih (fun x hx => hb x (by simp [hx])) m (s + 1) ((n + (c - 128) * 2 ^ (7 * s)) % 18446744073709551616) with ⟨p, r, rfl, hf, hl, _⟩ | ⟨e, h1, h2⟩ | ⟨e, h1, h2⟩
        · have hf' : Form (c :: p) := .more c p (by omega) (by have := hb c (by simp); omega) hf
          exact .inl ⟨c :: p, r, rfl, hf', by simp; omega, rowL_form hf' r (m + 1) s n (by simp; omega)⟩
        · refine .inr (.inl ⟨by simp only [rowL]; rw [if_neg hc]; exact e, by simp; omega, ?_⟩)
          simp only [List.take_succ_cons, List.mem_cons]
          rintro x (rfl | hx); · omega
          · exact h2 x hx
        · refine .inr (.inr ⟨by simp only [rowL]; rw [if_neg hc]; exact e, by simp; omega, ?_⟩)
          simp only [List.mem_cons]
          rintro x (rfl | hx); · omega
          · exact h2 x hx
theorem Form.unique {p : List Int} (h : Form p) : ∀ {q : List Int}, Form q → ∀ {r r' : List Int}, p ++ r = q ++ r' → p = q ∧ r = r' := by
  induction h with
  | one c h0 h1 =>
    intro q hq r r' e
    cases hq with
    | one d g0 g1 => simpa using e
    | more d u g0 g1 g => simp at e; omega
  | more c t h0 h1 h ih =>
    intro q hq r r' e
    cases hq with
    | one d g0 g1 => simp at e; omega
    | more d u g0 g1 g =>
      simp only [List.cons_append, List.cons.injEq] at e
      obtain ⟨rfl, e⟩ := e
      obtain ⟨rfl, rfl⟩ := ih g e
      exact ⟨rfl, rfl⟩
theorem Form.cut {p : List Int} (h : Form p) : ∀ k, k < p.length → ∀ c ∈ p.take k, 128 ≤ c := by
  induction h with
  | one c h0 h1 => intro k hk; have : k = 0 := by simpa using hk
                   subst this; simp
  | more c t h0 h1 h ih =>
    intro k hk
    cases k with
    | zero => simp
    | succ k =>
      simp only [List.take_succ_cons, List.mem_cons]
      rintro x (rfl | hx); · exact h0
      · exact ih k (by simpa using hk) x hx
/-- what goes on for ever ends too early -/
theorem rowL_cut (b : List Int) : ∀ (m s : Nat) (n : Int), b.length < m → (∀ c ∈ b, 128 ≤ c) → rowL b m s n = (0, 0, 3) := by
  induction b with
  | nil => intro m s n hm _; obtain ⟨m, rfl⟩ : ∃ q, m = q + 1 := ⟨m - 1, by simp at hm; omega⟩
           rfl
  | cons c t ih =>
    intro m s n hm h
    obtain ⟨m, rfl⟩ : ∃ q, m = q + 1 := ⟨m - 1, by simp at hm; omega⟩
    simp only [rowL]
    rw [if_neg (by have := h c (by simp); omega)]
    exact ih m (s + 1) _ (by simpa using hm) (fun x hx => h x (by simp [hx]))
end Go.Proofs.YtkhigagkgpfpfaaDoor.Ext
