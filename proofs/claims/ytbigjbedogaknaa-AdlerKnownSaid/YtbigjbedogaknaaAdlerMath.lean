/- Plain sums of bytes modulo 65521: the two halves, pieces, one byte changed, two bytes swapped. No program in sight. -/
set_option linter.unusedVariables false
namespace Go.Proofs.Ytbigjbedogaknaa.Ext
def adlS : List Int → Int
  | [] => 0
  | c :: t => c + adlS t
def adlT : List Int → Int
  | [] => 0
  | c :: t => ((t.length : Int) + 1) * c + adlT t
def adl : Int → Int → List Int → Int × Int
  | x, y, [] => (x, y)
  | x, y, c :: t => adl ((x + c) % 65521) ((y + (x + c) % 65521) % 65521) t

theorem adlS_append (a b : List Int) : adlS (a ++ b) = adlS a + adlS b := by
  induction a with
  | nil => simp [adlS]
  | cons c t ih => simp only [List.cons_append, adlS, ih]; omega
theorem adlT_append (a b : List Int) : adlT (a ++ b) = adlT a + (b.length : Int) * adlS a + adlT b := by
  induction a with
  | nil => simp [adlT, adlS]
  | cons c t ih =>
    simp only [List.cons_append, adlT, adlS, ih, List.length_append, Int.natCast_add]
    rw [Int.mul_add (b.length : Int) c]
    rw [show ((t.length : Int) + b.length + 1) * c = ((t.length : Int) + 1) * c + (b.length : Int) * c by rw [← Int.add_mul]; congr 1; omega]
    omega
theorem adl_append (a b : List Int) : ∀ x y, adl x y (a ++ b) = adl (adl x y a).1 (adl x y a).2 b := by
  induction a with
  | nil => intro x y; rfl
  | cons c t ih => intro x y; simp only [List.cons_append, adl, ih]
theorem adl_eq (b : List Int) : ∀ x y, adl (x % 65521) (y % 65521) b = ((x + adlS b) % 65521, (y + (b.length : Int) * x + adlT b) % 65521) := by
  induction b with
  | nil => intro x y; simp [adl, adlS, adlT]
  | cons c t ih =>
    intro x y
    simp only [adl, adlS, adlT, List.length_cons, Int.natCast_add]
    rw [show (x % 65521 + c) % 65521 = (x + c) % 65521 by omega, show (y % 65521 + (x + c) % 65521) % 65521 = (y + (x + c)) % 65521 by omega, ih]
    congr 1
    · congr 1; omega
    · congr 1
      rw [Int.mul_add, Int.add_mul, Int.add_mul]
      omega
theorem adl_bounds (b : List Int) : ∀ x y, 0 ≤ x → x < 65521 → 0 ≤ y → y < 65521 → 0 ≤ (adl x y b).1 ∧ (adl x y b).1 < 65521 ∧ 0 ≤ (adl x y b).2 ∧ (adl x y b).2 < 65521 := by
  intro x y h1 h2 h3 h4
  have := adl_eq b x y
  rw [Int.emod_eq_of_lt h1 h2, Int.emod_eq_of_lt h3 h4] at this
  rw [this]
  simp only
  omega
/-- the sum, of bytes -/
def adlV (from_ : Int) (b : List Int) : Int := (adl (from_ % 65536 % 65521) (from_ / 65536 % 65521) b).2 * 65536 + (adl (from_ % 65536 % 65521) (from_ / 65536 % 65521) b).1
theorem adlV_lo (f : Int) (h : 0 ≤ f) (b : List Int) : adlV f b % 65536 = (f % 65536 + adlS b) % 65521 := by
  unfold adlV
  have := adl_bounds b (f % 65536 % 65521) (f / 65536 % 65521) (by omega) (by omega) (by omega) (by omega)
  have e := adl_eq b (f % 65536) (f / 65536)
  rw [e] at this ⊢
  simp only at this ⊢
  omega
theorem adlV_hi (f : Int) (h : 0 ≤ f) (b : List Int) : adlV f b / 65536 = (f / 65536 + (b.length : Int) * (f % 65536) + adlT b) % 65521 := by
  unfold adlV
  have := adl_bounds b (f % 65536 % 65521) (f / 65536 % 65521) (by omega) (by omega) (by omega) (by omega)
  have e := adl_eq b (f % 65536) (f / 65536)
  rw [e] at this ⊢
  simp only at this ⊢
  omega
theorem adlV_append (f : Int) (h : 0 ≤ f) (a b : List Int) : adlV (adlV f a) b = adlV f (a ++ b) := by
  have h1 := adlV_lo f h a
  have h2 := adlV_hi f h a
  have hb := adl_bounds a (f % 65536 % 65521) (f / 65536 % 65521) (by omega) (by omega) (by omega) (by omega)
  have e1 : adlV f a % 65536 % 65521 = (adl (f % 65536 % 65521) (f / 65536 % 65521) a).1 := by unfold adlV; omega
  have e2 : adlV f a / 65536 % 65521 = (adl (f % 65536 % 65521) (f / 65536 % 65521) a).2 := by unfold adlV; omega
  rw [adlV, e1, e2, ← adl_append]; rfl
theorem adlV_range (f : Int) (h : 0 ≤ f) (b : List Int) : 0 ≤ adlV f b ∧ adlV f b < 4294967296 ∧ adlV f b % 65536 < 65521 ∧ adlV f b / 65536 < 65521 := by
  have hb := adl_bounds b (f % 65536 % 65521) (f / 65536 % 65521) (by omega) (by omega) (by omega) (by omega)
  unfold adlV
  omega
theorem adlV_ext (f g : Int) (hf : 0 ≤ f) (hg : 0 ≤ g) (a b : List Int) : adlV f a = adlV g b ↔ adlV f a % 65536 = adlV g b % 65536 ∧ adlV f a / 65536 = adlV g b / 65536 := by
  have := adlV_range f hf a
  have := adlV_range g hg b
  omega
/- one byte -/
theorem adlS_set (b : List Int) : ∀ (i : Nat) (v : Int), i < b.length → adlS (b.set i v) = adlS b + v - b.getD i 0 := by
  induction b with
  | nil => intro i v h; simp at h
  | cons c t ih =>
    intro i v h
    cases i with
    | zero => simp [adlS]; omega
    | succ i => simp only [List.set_cons_succ, adlS, List.getD_cons_succ]; rw [ih i v (by simpa using h)]; omega
theorem adlT_set (b : List Int) : ∀ (i : Nat) (v : Int), i < b.length → adlT (b.set i v) = adlT b + ((b.length : Int) - i) * (v - b.getD i 0) := by
  induction b with
  | nil => intro i v h; simp at h
  | cons c t ih =>
    intro i v h
    cases i with
    | zero => simp only [List.set_cons_zero, adlT, List.getD_cons_zero, List.length_cons, Int.natCast_add]; rw [Int.mul_sub]; simp; omega
    | succ i =>
      simp only [List.set_cons_succ, adlT, List.getD_cons_succ, List.length_set, List.length_cons, Int.natCast_add]; rw [ih i v (by simpa using h)]
      rw [show ((t.length : Int) + (1 : Nat) - ((i : Int) + (1 : Nat))) = ((t.length : Int) - i) by omega]
      omega
theorem coprime_all : ∀ d : Fin 256, d.val ≠ 0 → Nat.gcd d.val 65521 = 1 := by decide +kernel
theorem no_mul (d k : Int) (hd : d ≠ 0) (h1 : -255 ≤ d) (h2 : d ≤ 255) (hk : k ≠ 0) (h3 : -65521 < k) (h4 : k < 65521) : k * d % 65521 ≠ 0 := by
  intro h
  have hdvd : (65521 : Int) ∣ k * d := Int.dvd_of_emod_eq_zero h
  have hn : 65521 ∣ k.natAbs * d.natAbs := by
    have := Int.natAbs_dvd_natAbs.2 hdvd
    rwa [Int.natAbs_mul] at this
  have hc : Nat.Coprime 65521 d.natAbs := by
    have := coprime_all ⟨d.natAbs, by omega⟩ (by simp; omega)
    rw [Nat.Coprime, Nat.gcd_comm]; exact this
  have := Nat.Coprime.dvd_of_dvd_mul_right hc hn
  have := Nat.le_of_dvd (by omega) this
  omega
theorem adl_one (b : List Int) (f : Int) (hf : 0 ≤ f) (i : Nat) (hi : i < b.length) (v : Int) (hv : 0 ≤ v ∧ v ≤ 255) (hb : ∀ x ∈ b, 0 ≤ x ∧ x ≤ 255) : adlV f b = adlV f (b.set i v) ↔ v = b.getD i 0 := by
  have hx : 0 ≤ b.getD i 0 ∧ b.getD i 0 ≤ 255 := by
    rw [List.getD_eq_getElem?_getD, List.getElem?_eq_getElem hi]; exact hb _ (List.getElem_mem hi)
  constructor
  · intro h
    have h1 := (adlV_ext f f hf hf b (b.set i v)).1 h
    rw [adlV_lo f hf, adlV_lo f hf, adlS_set b i v hi] at h1
    omega
  · intro h
    rw [h]
    congr 1
    apply List.ext_getElem
    · simp
    · intro j h1 h2
      rw [List.getElem_set]; split
      · rename_i hij; subst hij; rw [List.getD_eq_getElem?_getD, List.getElem?_eq_getElem hi]; rfl
      · rfl
theorem getD_set_ne (b : List Int) (i k : Nat) (v : Int) (h : i ≠ k) : (b.set i v).getD k 0 = b.getD k 0 := by
  simp [List.getD_eq_getElem?_getD, List.getElem?_set_ne h]
theorem adl_swap (b : List Int) (f : Int) (hf : 0 ≤ f) (i k : Nat) (hi : i < b.length) (hk : k < b.length) (hd : (i : Int) - k < 65521 ∧ (k : Int) - i < 65521) (hb : ∀ x ∈ b, 0 ≤ x ∧ x ≤ 255) :
    adlV f b = adlV f ((b.set i (b.getD k 0)).set k (b.getD i 0)) ↔ b.getD i 0 = b.getD k 0 := by
  have hx : ∀ j, j < b.length → 0 ≤ b.getD j 0 ∧ b.getD j 0 ≤ 255 := by
    intro j hj
    rw [List.getD_eq_getElem?_getD, List.getElem?_eq_getElem hj]; exact hb _ (List.getElem_mem hj)
  have hxi := hx i hi
  have hxk := hx k hk
  by_cases hik : i = k
  · subst hik
    simp only [iff_true]
    congr 1
    apply List.ext_getElem
    · simp
    · intro j h1 h2
      simp only [List.getElem_set]; split
      · rename_i hij; subst hij; rw [List.getD_eq_getElem?_getD, List.getElem?_eq_getElem hi]; rfl
      · rfl
  · constructor
    · intro h
      have h1 := (adlV_ext f f hf hf _ _).1 h
      rw [adlV_hi f hf, adlV_hi f hf, adlT_set _ k _ (by simpa using hk), adlT_set b i _ hi, getD_set_ne b i k _ hik] at h1
      simp only [List.length_set] at h1
      have h2 := h1.2
      refine Classical.byContradiction fun hne => ?_
      refine no_mul (b.getD i 0 - b.getD k 0) ((i : Int) - k) (by omega) (by omega) (by omega) (by omega) (by omega) (by omega) ?_
      have e : ((b.length : Int) - i) * (b.getD k 0 - b.getD i 0) + ((b.length : Int) - k) * (b.getD i 0 - b.getD k 0) = ((i : Int) - k) * (b.getD i 0 - b.getD k 0) := by
        rw [show b.getD k 0 - b.getD i 0 = -(b.getD i 0 - b.getD k 0) by omega, Int.mul_neg, ← Int.neg_mul, ← Int.add_mul]
        congr 1; omega
      generalize ((b.length : Int) - i) * (b.getD k 0 - b.getD i 0) = p at *
      generalize ((b.length : Int) - k) * (b.getD i 0 - b.getD k 0) = q at *
      generalize ((i : Int) - k) * (b.getD i 0 - b.getD k 0) = r at *
      generalize (b.length : Int) * (f % 65536) = s at *
      omega
    · intro h
      rw [h]
      congr 1
      apply List.ext_getElem
      · simp
      · intro j h1 h2
        simp only [List.getElem_set]
        split
        · rename_i hij; subst hij; rw [List.getD_eq_getElem?_getD, List.getElem?_eq_getElem hk]; rfl
        · split
          · rename_i hij; subst hij; rw [← h, List.getD_eq_getElem?_getD, List.getElem?_eq_getElem hi]; rfl
          · rfl
/-- what 'take' does between the rests -/
def adlR : Int → Int → List Int → Int × Int
  | x, y, [] => (x, y)
  | x, y, c :: t => adlR (x + c) (y + (x + c)) t
theorem adlR_mod (l : List Int) : ∀ x y, ((adlR x y l).1 % 65521, (adlR x y l).2 % 65521) = adl (x % 65521) (y % 65521) l := by
  induction l with
  | nil => intro x y; rfl
  | cons c t ih =>
    intro x y
    simp only [adlR, adl]
    rw [ih]
    congr 1
    · omega
    · omega
theorem adl_split (l : List Int) (k : Nat) (x y : Int) : adl x y l = adl (adl x y (l.take k)).1 (adl x y (l.take k)).2 (l.drop k) := by
  rw [← adl_append, List.take_append_drop]
theorem drop_cons (l : List Int) (i : Int) (h0 : 0 ≤ i) (h : i < (l.length : Int)) : l.drop i.toNat = l.getD i.toNat 0 :: l.drop (i + 1).toNat := by
  have hi : i.toNat < l.length := by omega
  rw [List.drop_eq_getElem_cons hi, List.getD_eq_getElem?_getD, List.getElem?_eq_getElem hi, show (i + 1).toNat = i.toNat + 1 by omega]; rfl
/-- what holds behind k bytes, ahead of the rests -/
def AdlInv (l : List Int) (lo hi x y i : Int) : Prop :=
  adlR x y (l.drop i.toNat) = adlR lo hi l ∧ 0 ≤ x ∧ x ≤ 65520 + 255 * i ∧ 0 ≤ y ∧ 2 * y ≤ 131040 + 131040 * i + 255 * (i * (i + 1))
theorem AdlInv.start (l : List Int) (lo hi : Int) (hl : 0 ≤ lo ∧ lo < 65521) (hh : 0 ≤ hi ∧ hi < 65521) : AdlInv l lo hi lo hi 0 := by
  refine ⟨rfl, by omega, by omega, by omega, by omega⟩
theorem AdlInv.bounds {l : List Int} {lo hi x y i : Int} (h : AdlInv l lo hi x y i) (h0 : 0 ≤ i) (h1 : i ≤ 5000) : 0 ≤ x ∧ x ≤ 1340520 ∧ 0 ≤ y ∧ y ≤ 3515803020 := by
  obtain ⟨_, a, b, c, d⟩ := h
  have : i * (i + 1) ≤ 5000 * 5001 := Int.mul_le_mul h1 (by omega) (by omega) (by omega)
  omega
theorem AdlInv.step {l : List Int} {lo hi x y i : Int} (h : AdlInv l lo hi x y i) (h0 : 0 ≤ i) (h1 : i < (l.length : Int)) (hb : ∀ z ∈ l, 0 ≤ z ∧ z ≤ 255) : AdlInv l lo hi (x + l.getD i.toNat 0) (y + (x + l.getD i.toNat 0)) (i + 1) := by
  obtain ⟨e, a, b, c, d⟩ := h
  have hi : i.toNat < l.length := by omega
  have hg : 0 ≤ l.getD i.toNat 0 ∧ l.getD i.toNat 0 ≤ 255 := by
    rw [List.getD_eq_getElem?_getD, List.getElem?_eq_getElem hi]; exact hb _ (List.getElem_mem hi)
  have e2 : (i + 1) * (i + 1 + 1) = i * (i + 1) + 2 * (i + 1) := by
    rw [Int.mul_add (i + 1) (i + 1) 1, Int.add_mul i 1 (i + 1)]; omega
  refine ⟨?_, by omega, by omega, by omega, by omega⟩
  rw [← e, drop_cons l i h0 h1]; rfl
theorem AdlInv.finish {l : List Int} {lo hi x y i : Int} (h : AdlInv l lo hi x y i) (hge : (l.length : Int) ≤ i) (hl : 0 ≤ lo ∧ lo < 65521) (hh : 0 ≤ hi ∧ hi < 65521) : x % 65521 = (adl lo hi l).1 ∧ y % 65521 = (adl lo hi l).2 := by
  obtain ⟨e, _⟩ := h
  rw [List.drop_eq_nil_of_le (by omega)] at e
  have m := adlR_mod l lo hi
  rw [← e, Int.emod_eq_of_lt hl.1 hl.2, Int.emod_eq_of_lt hh.1 hh.2] at m
  simp only [adlR] at m
  rw [← m]; exact ⟨rfl, rfl⟩
end Go.Proofs.Ytbigjbedogaknaa.Ext
