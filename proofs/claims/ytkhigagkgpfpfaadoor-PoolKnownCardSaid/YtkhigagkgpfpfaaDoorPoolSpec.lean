/- What pool.Parse answers, in plain words: there and back, and cut. -/
import Derived.Test.YtkhigagkgpfpfaaDoorPoolBytes
import Derived.OpenShut
set_option linter.unusedVariables false
set_option linter.unusedSimpArgs false
namespace Go.Proofs.YtkhigagkgpfpfaaDoor.Ext
open Go.RowKit Go.Lib Go.Proofs.YtkhigagkgpfpfaaDoorW.PrintWords Go.Proofs.YtkhigagkgpfpfaaDoorW.PrintLast Go.Proofs.YtkhigagkgpfpfaaDoorW.PrintMore Go.Proofs.YtkhigagkgpfpfaaDoor.PLeb

theorem checkL_ok {l : List S35} (h : checkL l = 0) : 0 < l.length ∧ l.length ≤ 4096 ∧ (∀ c ∈ l.drop 1, fitsB l c = true) ∧ zeroB (rd_T35 l 0) = true := by
  unfold checkL at h
  split at h
  · cases h
  · split at h
    · rename_i h1 h2
      unfold okL at h2
      simp only [Bool.and_eq_true, decide_eq_true_eq] at h2
      exact ⟨h2.1, by omega, List.all_eq_true.1 h2.2.2, h2.2.1⟩
    · cases h
theorem isB_pos {l : List S35} {i k : Int} (h : isB l i k = true) : 0 < i ∧ i < l.length ∧ (rd_T35 l i).f0 = k := by
  unfold isB at h
  simpa [Bool.and_eq_true] using h
theorem fits_kinds {l : List S35} {kk n a b d : Int} {t : ByteArray} (h : fitsB l ⟨kk, t, n, a, b, d⟩ = true) : kk = 1 ∨ (kk = 2 ∨ kk = 3) ∨ kk = 4 ∨ (kk = 5 ∨ kk = 6) := by
  rcases Classical.em (kk = 1 ∨ (kk = 2 ∨ kk = 3) ∨ kk = 4 ∨ (kk = 5 ∨ kk = 6)) with h1 | h1
  · exact h1
  · unfold fitsB at h
    simp only at h
    rw [if_neg (by omega), if_neg (by omega), if_neg (by omega), if_neg (by omega), if_neg (by omega)] at h
    cases h
theorem const_len {l : List S35} {c : S35} (hm : l.length ≤ 4096) (hf : fitsB l c = true) (hs : c.f1.size ≤ 8388608) (hn0 : -9223372036854775808 ≤ c.f2) (hn1 : c.f2 ≤ 9223372036854775807) : (constL c).length ≤ 60000000 := by
  unfold constL
  rw [List.length_cons]
  unfold fitsB at hf
  split
  · rename_i h1
    rw [if_pos h1] at hf
    have h2 := mBytes_len (Bool.and_eq_true_iff.1 hf).1
    have h3 := ub_len8 (mBytes c.f1).length (by omega)
    rw [List.length_append]; omega
  · rename_i h1
    rw [if_neg h1] at hf
    split
    · have := sb_len10 c.f2 hn0 hn1; omega
    · rename_i h2
      rw [if_neg (by omega), if_neg (by omega)] at hf
      split
      · rename_i h4
        rw [if_pos h4] at hf
        have h5 := isB_pos (Bool.and_eq_true_iff.1 hf).1
        have := ub_len8 c.f3.toNat (by omega); omega
      · rename_i h4
        rw [if_neg h4] at hf
        split at hf
        · simp only [Bool.and_eq_true] at hf
          have h5 := isB_pos hf.1.1
          have h6 := isB_pos hf.1.2.1
          have h7 := isB_pos hf.1.2.2
          have := ub_len8 c.f3.toNat (by omega)
          have := ub_len8 c.f4.toNat (by omega)
          have := ub_len8 c.f5.toNat (by omega)
          rw [List.length_append, List.length_append]; omega
        · cases hf
theorem flat_len (xs : List S35) (h : ∀ c ∈ xs, (constL c).length ≤ 60000000) : (xs.flatMap constL).length ≤ 60000000 * xs.length := by
  induction xs with
  | nil => simp
  | cons c t ih =>
    have h1 := h c List.mem_cons_self
    have h2 := ih (fun x hx => h x (List.mem_cons_of_mem _ hx))
    rw [List.flatMap_cons, List.length_append, List.length_cons]; omega
/-- every number is an int -/
def Ints (l : List S35) : Prop := ∀ x ∈ l, -9223372036854775808 ≤ x.f2 ∧ x.f2 ≤ 9223372036854775807
theorem val_in (p : List Int) (h : Form p) (hl : p.length ≤ 10) (hbd : ¬ BadS p) : -9223372036854775808 ≤ sval p ∧ sval p ≤ 9223372036854775807 := by
  have hv0 := h.val_nn
  have hvl := h.val_lt
  have hs := h.sval_val
  have hp := h.pos
  have hla := h.last
  obtain ⟨low, l0, l1, ev⟩ := val_split h
  by_cases h9 : p.length ≤ 9
  · have : (128 : Int) ^ p.length ≤ 128 ^ 9 := by rw [pow7, pow7]; exact pow_le2 _ _ (by omega)
    have e9 : (128 : Int) ^ 9 = 9223372036854775808 := by decide
    split at hs <;> omega
  · have h10 : p.length = 10 := by omega
    have hn : lastOf p = 0 ∨ lastOf p = 127 := by
      unfold BadS at hbd
      by_cases g : lastOf p = 0
      · exact .inl g
      · refine .inr (Classical.byContradiction fun g2 => hbd (.inr ⟨h10, g, g2⟩))
    rw [h10] at ev l1 hs
    have e9 : (128 : Int) ^ (10 - 1) = 9223372036854775808 := by decide
    have e10 : (128 : Int) ^ 10 = 1180591620717411303424 := by decide
    rw [e9] at ev l1
    rw [e10] at hs
    rcases hn with hn | hn <;> rw [hn] at ev hs
    · rw [if_pos (by omega)] at hs; omega
    · rw [if_neg (by omega)] at hs; omega

theorem takeU_ub (n : Int) (r : List Int) (h0 : 0 ≤ n) (h1 : n ≤ 9007199254740991) : takeU (ub n.toNat ++ r) = (n, r, 0) := by
  rw [takeU_ok (ub_form n.toNat) r (ub_len8 n.toNat (by omega)) (ub_last _) (by rw [ub_val]; omega), ub_val, Int.toNat_of_nonneg h0]
theorem takeU_pre (n : Nat) (h1 : n ≤ 9007199254740991) (k : Nat) (hk : k < (ub n).length) : takeU ((ub n).take k) = (0, [], 3) :=
  takeU_cut _ (by rw [List.length_take]; have := ub_len8 n h1; omega) ((ub_form _).cut k hk)
theorem takeU_back {l : List Int} (hb : Bytes l) (h : (takeU l).2.2 = 0) : 0 ≤ (takeU l).1 ∧ (takeU l).1 ≤ 9007199254740991 ∧ l = ub (takeU l).1.toNat ++ (takeU l).2.1 := by
  rcases takeU_inv l hb with ⟨p, r, rfl, hf, hl, h2, hv, e⟩ | e | e
  · rw [e]; exact ⟨hf.val_nn, hv, by rw [hf.ub_of h2]⟩
  · rw [e] at h; exact absurd h (by decide)
  · rw [e] at h; exact absurd h (by decide)
theorem takeU_keep {l : List Int} (hb : Bytes l) : Bytes (takeU l).2.1 ∧ (takeU l).2.1.length ≤ l.length ∧ 0 ≤ (takeU l).1 ∧ (takeU l).1 ≤ 9007199254740991 := by
  rcases takeU_inv l hb with ⟨p, r, rfl, hf, hl, h2, hv, e⟩ | e | e
  · rw [e]; exact ⟨fun x hx => hb x (List.mem_append_right _ hx), by rw [List.length_append]; show r.length ≤ _; omega, hf.val_nn, hv⟩
  · rw [e]; exact ⟨fun x hx => (by cases hx), Nat.zero_le _, by decide, by decide⟩
  · rw [e]; exact ⟨fun x hx => (by cases hx), Nat.zero_le _, by decide, by decide⟩
/-- TakeS's answer -/
noncomputable def takeS (l : List Int) : Int × List Int × Int := (leb_TakeS.f 1 l).getD (0, [], 3)
theorem TakeS_eq (l : List Int) (hb : Bytes l) (hm : l.length ≤ 140737488355300) : leb_TakeS.f 1 l = some (takeS l) := by
  unfold takeS
  rcases TakeS_inv 1 l (by omega) hb hm with ⟨p, r, _, _, _, _, e⟩ | e | e <;> rw [e] <;> rfl
theorem takeS_sb (n : Int) (r : List Int) (h0 : -9223372036854775808 ≤ n) (h1 : n ≤ 9223372036854775807) (hr : Bytes r) (hm : r.length ≤ 140737488355000) : takeS (sb n ++ r) = (n, r, 0) := by
  have h10 := sb_len10 n h0 h1
  unfold takeS
  rw [TakeS_ok 1 (sb_form n) r (by omega) (Bytes.append (sb_form n).bytes hr) (by rw [List.length_append]; show _ ≤ 140737488355300; omega) h10 (sb_good n h0 h1), sb_val]; rfl
theorem takeS_pre (n : Int) (h0 : -9223372036854775808 ≤ n) (h1 : n ≤ 9223372036854775807) (k : Nat) (hk : k < (sb n).length) : takeS ((sb n).take k) = (0, [], 3) := by
  have h10 := sb_len10 n h0 h1
  unfold takeS
  rw [TakeS_cut 1 _ (by omega) (Bytes.take (sb_form n).bytes k) (by rw [List.length_take]; omega) ((sb_form n).cut k hk)]; rfl
theorem takeS_back {l : List Int} (hb : Bytes l) (hm : l.length ≤ 140737488355300) (h : (takeS l).2.2 = 0) : l = sb (takeS l).1 ++ (takeS l).2.1 := by
  unfold takeS at h ⊢
  rcases TakeS_inv 1 l (by omega) hb hm with ⟨p, r, rfl, hf, hl, hbd, e⟩ | e | e
  · rw [e]
    show p ++ r = sb (sval p) ++ r
    rw [hf.sb_of (Classical.byContradiction fun hn => hbd (Or.inl hn))]
  · rw [e] at h; exact absurd h (by decide)
  · rw [e] at h; exact absurd h (by decide)
theorem takeS_keep {l : List Int} (hb : Bytes l) (hm : l.length ≤ 140737488355300) : Bytes (takeS l).2.1 ∧ (takeS l).2.1.length ≤ l.length ∧ -9223372036854775808 ≤ (takeS l).1 ∧ (takeS l).1 ≤ 9223372036854775807 := by
  unfold takeS
  rcases TakeS_inv 1 l (by omega) hb hm with ⟨p, r, rfl, hf, hl, hbd, e⟩ | e | e
  · rw [e]; exact ⟨fun x hx => hb x (List.mem_append_right _ hx), by rw [List.length_append]; show r.length ≤ _; omega, val_in p hf hl hbd⟩
  · rw [e]; exact ⟨fun x hx => (by cases hx), Nat.zero_le _, by decide, by decide⟩
  · rw [e]; exact ⟨fun x hx => (by cases hx), Nat.zero_le _, by decide, by decide⟩
theorem dec_text {b : List Int} (hb : Bytes b) (h : (decOut b).2.2 = 0) : tOK (decOut b).1 = true ∧ mBytes (decOut b).1 = b := by
  have hi := dec_inv b hb
  unfold decOut at h ⊢
  split at h
  · rename_i h0
    rw [if_pos h0]
    have he : (runesBytes (dec b).1).data.toList = us (dec b).1 := runesBytes_us _
    refine ⟨?_, ?_⟩
    · unfold tOK; show validD (runesBytes (dec b).1).data.toList = true; rw [he]; exact valid_us _ hi.2.1
    · unfold mBytes; show muts (chars (runesBytes (dec b).1)) = b; rw [chars_eq hi.2.1 he]; have := hi.1; rw [h0, List.append_nil] at this; exact this.symm
  · exact absurd (show (20 : Int) = 0 from h) (by decide)
theorem dec_size (b : List Int) (hb : Bytes b) : (decOut b).1.size ≤ 4 * b.length := by
  have hi := dec_inv b hb
  unfold decOut
  split
  · have he : (runesBytes (dec b).1).data.toList = us (dec b).1 := runesBytes_us _
    have h1 := us_len (dec b).1
    have h2 := size_us he
    have h3 := muts_len (dec b).1
    have h4 := congrArg List.length hi.1
    rw [List.length_append] at h4
    show (runesBytes (dec b).1).size ≤ _
    omega
  · show (⟨#[]⟩ : ByteArray).size ≤ _; exact Nat.zero_le _
theorem dec_mBytes {t : ByteArray} (h : tOK t = true) : decOut (mBytes t) = (t, 0, 0) := by
  obtain ⟨hcs, he⟩ := chars_ok h
  unfold mBytes
  rw [decOut_muts hcs, str_us he]

/-- left.num -/
def numL (tk : List Int → Int × List Int × Int) (b : List Int) (e : Int) : Int × List Int × Int := if e = 0 then tk b else (0, b, e)
/-- left.bytes -/
def bytesN (n : Int) (b : List Int) (e : Int) : List Int × List Int × Int :=
  if e = 0 then (if (b.length : Int) < n then ([], b, 3) else (b.take n.toNat, b.drop n.toNat, 0)) else ([], b, e)
def textL2 : List Int × List Int × Int → ByteArray × List Int × Int
  | (s, b, e) => if e = 0 then ((decOut s).1, b, (decOut s).2.2) else (E0, b, e)
def textL1 : Int × List Int × Int → ByteArray × List Int × Int
  | (n, b, e) => textL2 (bytesN n b e)
/-- a text -/
def textL (b : List Int) : ByteArray × List Int × Int := textL1 (takeU b)
def numberL (k : Int) : Int × List Int × Int → S35 × List Int × Int
  | (n, b, e) => (⟨k, E0, n, 0, 0, 0⟩, b, e)
def classL (k : Int) : Int × List Int × Int → S35 × List Int × Int
  | (n, b, e) => (⟨k, E0, 0, n, 0, 0⟩, b, e)
def refL3 (k x y : Int) : Int × List Int × Int → S35 × List Int × Int
  | (z, b, e) => (⟨k, E0, 0, x, y, z⟩, b, e)
def refL2 (k x : Int) : Int × List Int × Int → S35 × List Int × Int
  | (y, b, e) => refL3 k x y (numL takeU b e)
def refL1 (k : Int) : Int × List Int × Int → S35 × List Int × Int
  | (x, b, e) => refL2 k x (numL takeU b e)
def zero35 : S35 := ⟨0, E0, 0, 0, 0, 0⟩
/-- one constant -/
noncomputable def oneL : List Int → S35 × List Int × Int
  | [] => (zero35, [], 3)
  | k :: t =>
    if k = 1 then (⟨1, (textL t).1, 0, 0, 0, 0⟩, (textL t).2.1, (textL t).2.2)
    else if k = 2 ∨ k = 3 then numberL k (takeS t)
    else if k = 4 then classL 4 (takeU t)
    else if k = 5 ∨ k = 6 then refL1 k (takeU t)
    else (⟨k, E0, 0, 0, 0, 0⟩, t, 4)
noncomputable def loopL : Nat → List Int → List S35 → List S35 × List Int × Int
  | 0, b, l => (l, b, 0)
  | m + 1, b, l => if (oneL b).2.2 = 0 then loopL m (oneL b).2.1 (l ++ [(oneL b).1]) else (l ++ [(oneL b).1], (oneL b).2.1, (oneL b).2.2)
noncomputable def manyL (n : Int) (b : List Int) : List S35 × List Int × Int := if n = 0 then ([], b, 0) else loopL (n.toNat - 1) b [zero35]
noncomputable def lastL : List S35 × List Int × Int → List S35 × List Int × Int
  | (l, b, e) => if e = 0 then (if checkL l = 0 then (l, b, 0) else ([], [], checkL l)) else ([], [], e)
noncomputable def parseL1 : Int × List Int × Int → List S35 × List Int × Int
  | (n, b, e) => if e = 0 then (if 4096 < n then ([], [], 5) else lastL (manyL n b)) else ([], [], e)
/-- Parse's answer -/
noncomputable def parseL (b : List Int) : List S35 × List Int × Int := parseL1 (takeU b)

theorem take_plus {α : Type} (a b : List α) (i : Nat) : (a ++ b).take (a.length + i) = a ++ b.take i := by
  induction a with
  | nil => simp
  | cons x t ih => rw [List.cons_append, List.length_cons, show t.length + 1 + i = (t.length + i) + 1 by omega, List.take_succ_cons, ih, List.cons_append]
theorem take_less {α : Type} (a b : List α) (i : Nat) (h : i ≤ a.length) : (a ++ b).take i = a.take i := by
  rw [List.take_append_of_le_length h]
theorem constL_1 (t : ByteArray) (n a b d : Int) : constL ⟨1, t, n, a, b, d⟩ = 1 :: (ub (mBytes t).length ++ mBytes t) := by
  unfold constL; rw [if_pos rfl]
theorem constL_2 (k : Int) (h : k = 2 ∨ k = 3) (t : ByteArray) (n a b d : Int) : constL ⟨k, t, n, a, b, d⟩ = k :: sb n := by
  unfold constL; rw [if_neg (show ¬ k = 1 by omega), if_pos (show k = 2 ∨ k = 3 from h)]
theorem constL_4 (t : ByteArray) (n a b d : Int) : constL ⟨4, t, n, a, b, d⟩ = 4 :: ub a.toNat := by
  unfold constL; rw [if_neg (show ¬ (4 : Int) = 1 by omega), if_neg (show ¬ ((4 : Int) = 2 ∨ (4 : Int) = 3) by omega), if_pos rfl]
theorem constL_5 (k : Int) (h : k = 5 ∨ k = 6) (t : ByteArray) (n a b d : Int) : constL ⟨k, t, n, a, b, d⟩ = k :: (ub a.toNat ++ (ub b.toNat ++ ub d.toNat)) := by
  unfold constL; rw [if_neg (show ¬ k = 1 by omega), if_neg (show ¬ (k = 2 ∨ k = 3) by omega), if_neg (show ¬ k = 4 by omega)]
theorem oneL_1 (t : List Int) : oneL (1 :: t) = (⟨1, (textL t).1, 0, 0, 0, 0⟩, (textL t).2.1, (textL t).2.2) := by
  simp [oneL]
theorem oneL_2 (k : Int) (h : k = 2 ∨ k = 3) (t : List Int) : oneL (k :: t) = numberL k (takeS t) := by
  show (if k = 1 then _ else if k = 2 ∨ k = 3 then _ else _) = _
  rw [if_neg (by omega), if_pos h]
theorem oneL_4 (t : List Int) : oneL (4 :: t) = classL 4 (takeU t) := by
  simp [oneL]
theorem oneL_5 (k : Int) (h : k = 5 ∨ k = 6) (t : List Int) : oneL (k :: t) = refL1 k (takeU t) := by
  show (if k = 1 then _ else if k = 2 ∨ k = 3 then _ else if k = 4 then _ else if k = 5 ∨ k = 6 then _ else _) = _
  rw [if_neg (by omega), if_neg (by omega), if_neg (by omega), if_pos h]
theorem oneL_7 (k : Int) (h : ¬ (1 ≤ k ∧ k ≤ 6)) (t : List Int) : oneL (k :: t) = (⟨k, E0, 0, 0, 0, 0⟩, t, 4) := by
  show (if k = 1 then _ else if k = 2 ∨ k = 3 then _ else if k = 4 then _ else if k = 5 ∨ k = 6 then _ else _) = _
  rw [if_neg (by omega), if_neg (by omega), if_neg (by omega), if_neg (by omega)]

/-- what a constant that may be is -/
theorem fits_1 {l : List S35} {t : ByteArray} {n a b d : Int} (h : fitsB l ⟨1, t, n, a, b, d⟩ = true) : tOK t = true ∧ n = 0 ∧ a = 0 ∧ b = 0 ∧ d = 0 := by
  unfold fitsB at h; rw [if_pos rfl] at h; simpa using h
theorem fits_2 {l : List S35} {k : Int} (hk : k = 2 ∨ k = 3) {t : ByteArray} {n a b d : Int} (h : fitsB l ⟨k, t, n, a, b, d⟩ = true) : t = E0 ∧ a = 0 ∧ b = 0 ∧ d = 0 := by
  unfold fitsB at h
  rcases hk with rfl | rfl
  · rw [if_neg (show ¬ (2 : Int) = 1 by decide), if_pos (show (2 : Int) = 2 from rfl)] at h
    simp only [noText, Bool.and_eq_true, beq_iff_eq] at h
    exact ⟨ba_nil h.2.1, h.2.2⟩
  · rw [if_neg (show ¬ (3 : Int) = 1 by decide), if_neg (show ¬ (3 : Int) = 2 by decide), if_pos (show (3 : Int) = 3 from rfl)] at h
    simp only [noText, Bool.and_eq_true, beq_iff_eq] at h
    exact ⟨ba_nil h.1, h.2⟩
theorem fits_4 {l : List S35} {t : ByteArray} {n a b d : Int} (h : fitsB l ⟨4, t, n, a, b, d⟩ = true) : t = E0 ∧ n = 0 ∧ b = 0 ∧ d = 0 ∧ 0 < a ∧ a < l.length := by
  unfold fitsB at h
  rw [if_neg (show ¬ (4 : Int) = 1 by decide), if_neg (show ¬ (4 : Int) = 2 by decide), if_neg (show ¬ (4 : Int) = 3 by decide), if_pos (show (4 : Int) = 4 from rfl)] at h
  simp only [noText, Bool.and_eq_true, beq_iff_eq] at h
  have hp := isB_pos h.1
  exact ⟨ba_nil h.2.1, h.2.2.1, h.2.2.2.1, h.2.2.2.2, hp.1, hp.2.1⟩
theorem fits_5 {l : List S35} {k : Int} (hk : k = 5 ∨ k = 6) {t : ByteArray} {n a b d : Int} (h : fitsB l ⟨k, t, n, a, b, d⟩ = true) : t = E0 ∧ n = 0 ∧ (0 < a ∧ a < l.length) ∧ (0 < b ∧ b < l.length) ∧ (0 < d ∧ d < l.length) := by
  unfold fitsB at h
  rw [if_neg (show ¬ k = 1 by omega), if_neg (show ¬ k = 2 by omega), if_neg (show ¬ k = 3 by omega), if_neg (show ¬ k = 4 by omega), if_pos (show k = 5 ∨ k = 6 from hk)] at h
  simp only [noText, Bool.and_eq_true, beq_iff_eq] at h
  have h1 := isB_pos h.1.1
  have h2 := isB_pos h.1.2.1
  have h3 := isB_pos h.1.2.2
  exact ⟨ba_nil h.2.1, h.2.2, ⟨h1.1, h1.2.1⟩, ⟨h2.1, h2.2.1⟩, ⟨h3.1, h3.2.1⟩⟩
theorem textL_ok (t : ByteArray) (ht : tOK t = true) (hs : (mBytes t).length ≤ 9007199254740991) (r : List Int) : textL (ub (mBytes t).length ++ (mBytes t ++ r)) = (t, r, 0) := by
  have h := takeU_ub ((mBytes t).length : Int) (mBytes t ++ r) (by omega) (by omega)
  rw [Int.toNat_natCast] at h
  unfold textL
  rw [h]
  simp only [textL1, bytesN]
  rw [if_pos trivial, if_neg (by rw [List.length_append]; omega), Int.toNat_natCast, List.take_left, List.drop_left]
  simp only [textL2]
  rw [if_pos trivial, dec_mBytes ht]
theorem one_const {l : List S35} {c : S35} (hf : fitsB l c = true) (hm : l.length ≤ 4096) (hs : c.f1.size ≤ 8388608) (hn0 : -9223372036854775808 ≤ c.f2) (hn1 : c.f2 ≤ 9223372036854775807) (r : List Int) (hr : Bytes r) (hrm : r.length ≤ 140737488355000) : oneL (constL c ++ r) = (c, r, 0) := by
  obtain ⟨k, t, n, a, b, d⟩ := c
  rcases fits_kinds hf with rfl | hk | rfl | hk
  · obtain ⟨ht, rfl, rfl, rfl, rfl⟩ := fits_1 hf
    have h6 := mBytes_len ht
    rw [constL_1, List.cons_append, oneL_1, List.append_assoc, textL_ok t ht (by simp only at hs; omega)]
  · obtain ⟨rfl, rfl, rfl, rfl⟩ := fits_2 hk hf
    rw [constL_2 k hk, List.cons_append, oneL_2 k hk, takeS_sb n r hn0 hn1 hr hrm]; rfl
  · obtain ⟨rfl, rfl, rfl, rfl, h0, h1⟩ := fits_4 hf
    rw [constL_4, List.cons_append, oneL_4, takeU_ub a r (by omega) (by omega)]; rfl
  · obtain ⟨rfl, rfl, ⟨h0, h1⟩, ⟨h2, h3⟩, ⟨h4, h5⟩⟩ := fits_5 hk hf
    rw [constL_5 k hk, List.cons_append, oneL_5 k hk, List.append_assoc, List.append_assoc, takeU_ub a _ (by omega) (by omega)]
    simp only [refL1, numL]
    rw [if_pos trivial, takeU_ub b _ (by omega) (by omega)]
    simp only [refL2, numL]
    rw [if_pos trivial, takeU_ub d _ (by omega) (by omega)]
    rfl
theorem const_bytes {l : List S35} {c : S35} (hf : fitsB l c = true) : Bytes (constL c) := by
  obtain ⟨k, t, n, a, b, d⟩ := c
  have hd : ∀ {k : Int} {x : List Int}, 0 ≤ k ∧ k ≤ 255 → Bytes x → Bytes (k :: x) := by
    intro k x h hx y hy
    rcases List.mem_cons.1 hy with rfl | hy
    · exact h
    · exact hx y hy
  rcases fits_kinds hf with rfl | hk | rfl | hk
  · obtain ⟨ht, -⟩ := fits_1 hf
    rw [constL_1]; exact hd (by omega) (Bytes.append (ub_form _).bytes (muts_bytes (chars_ok ht).1))
  · rw [constL_2 k hk]; exact hd (by omega) (sb_form _).bytes
  · rw [constL_4]; exact hd (by omega) (ub_form _).bytes
  · rw [constL_5 k hk]; exact hd (by omega) (Bytes.append (ub_form _).bytes (Bytes.append (ub_form _).bytes (ub_form _).bytes))
theorem flat_bytes {l : List S35} (xs : List S35) (h : ∀ c ∈ xs, fitsB l c = true) : Bytes (xs.flatMap constL) := by
  intro x hx
  obtain ⟨c, hc, hx⟩ := List.mem_flatMap.1 hx
  exact const_bytes (h c hc) x hx
/-- constants that may be, one by one -/
def Good (l xs : List S35) : Prop := ∀ c ∈ xs, fitsB l c = true ∧ c.f1.size ≤ 8388608 ∧ -9223372036854775808 ≤ c.f2 ∧ c.f2 ≤ 9223372036854775807
theorem good_len {l xs : List S35} (h : Good l xs) (hm : l.length ≤ 4096) : (xs.flatMap constL).length ≤ 60000000 * xs.length :=
  flat_len xs fun c hc => const_len hm (h c hc).1 (h c hc).2.1 (h c hc).2.2.1 (h c hc).2.2.2
theorem loop_flat {l : List S35} (hm : l.length ≤ 4096) (r : List Int) (hr : Bytes r) (hrm : r.length ≤ 1000000000) : ∀ (xs acc : List S35), Good l xs → xs.length ≤ 4096 → loopL xs.length (xs.flatMap constL ++ r) acc = (acc ++ xs, r, 0)
  | [], acc, _, _ => by rw [List.append_nil]; rfl
  | c :: xs, acc, h, hx => by
    have hc := h c List.mem_cons_self
    have ht : Good l xs := fun x hx => h x (List.mem_cons_of_mem _ hx)
    have hl := good_len ht hm
    rw [List.length_cons] at hx
    have e := one_const hc.1 hm hc.2.1 hc.2.2.1 hc.2.2.2 (xs.flatMap constL ++ r) (Bytes.append (flat_bytes xs fun x hx => (ht x hx).1) hr) (by rw [List.length_append]; omega)
    rw [List.length_cons, List.flatMap_cons, List.append_assoc]
    show (if _ then _ else _) = _
    rw [e, if_pos rfl, loop_flat hm r hr hrm xs (acc ++ [c]) ht (by omega), List.append_assoc]; rfl
theorem zero_cons {l : List S35} (h : checkL l = 0) : l = zero35 :: l.drop 1 := by
  obtain ⟨hp, hm, hf, hz⟩ := checkL_ok h
  cases l with
  | nil => cases hp
  | cons x t =>
    have : zeroB x = true := hz
    rw [zeroB_eq this]; rfl
theorem good_of {l : List S35} (h : checkL l = 0) (hs : Tiny l) (hi : Ints l) : Good l (l.drop 1) := fun c hc =>
  ⟨(checkL_ok h).2.2.1 c hc, hs c (List.mem_of_mem_drop hc), hi c (List.mem_of_mem_drop hc)⟩
/-- what was written is read as it was -/
theorem parse_bytes {l : List S35} (h : checkL l = 0) (hs : Tiny l) (hi : Ints l) (r : List Int) (hr : Bytes r) (hrm : r.length ≤ 1000000000) : parseL (bytesL l ++ r) = (l, r, 0) := by
  obtain ⟨hp, hm, hf, hz⟩ := checkL_ok h
  have hg := good_of h hs hi
  have hz := zero_cons h
  have hu := takeU_ub (l.length : Int) ((l.drop 1).flatMap constL ++ r) (by omega) (by omega)
  rw [Int.toNat_natCast] at hu
  unfold parseL bytesL
  rw [List.append_assoc, hu]
  simp only [parseL1]
  rw [if_pos trivial, if_neg (by omega)]
  have hml : manyL (l.length : Int) ((l.drop 1).flatMap constL ++ r) = (l, r, 0) := by
    unfold manyL
    rw [if_neg (by omega), Int.toNat_natCast, show l.length - 1 = (l.drop 1).length by rw [List.length_drop], loop_flat hm r hr hrm _ _ hg (by rw [List.length_drop]; omega)]
    rw [show [zero35] ++ l.drop 1 = l from hz.symm]
  rw [hml]
  simp only [lastL]
  rw [if_pos trivial, if_pos h]
theorem bytesL_len {l : List S35} (h : checkL l = 0) (hs : Tiny l) (hi : Ints l) : (bytesL l).length ≤ 250000000000 ∧ 1 ≤ (bytesL l).length ∧ Bytes (bytesL l) := by
  obtain ⟨hp, hm, hf, hz⟩ := checkL_ok h
  have hg := good_of h hs hi
  have h1 := good_len hg hm
  have h2 := ub_len8 l.length (by omega)
  have h3 := (ub_form l.length).pos
  rw [List.length_drop] at h1
  refine ⟨?_, ?_, ?_⟩
  · unfold bytesL; rw [List.length_append]; omega
  · unfold bytesL; rw [List.length_append]; omega
  · exact Bytes.append (ub_form _).bytes (flat_bytes _ fun c hc => (hg c hc).1)
theorem text_cut (t : ByteArray) (hs : (mBytes t).length ≤ 9007199254740991) (j : Nat) (hj : j < (ub (mBytes t).length ++ mBytes t).length) : (textL ((ub (mBytes t).length ++ mBytes t).take j)).2.2 = 3 := by
  unfold textL
  by_cases h : j < (ub (mBytes t).length).length
  · rw [take_less _ _ _ (by omega), takeU_pre _ hs j h]; rfl
  · obtain ⟨i, rfl⟩ : ∃ i, j = (ub (mBytes t).length).length + i := ⟨j - (ub (mBytes t).length).length, by omega⟩
    rw [List.length_append] at hj
    have hu := takeU_ub ((mBytes t).length : Int) ((mBytes t).take i) (by omega) (by omega)
    rw [Int.toNat_natCast] at hu
    rw [take_plus, hu]
    simp only [textL1, bytesN]
    rw [if_pos trivial, if_pos (by rw [List.length_take]; omega)]
    rfl
theorem one_cut {l : List S35} {c : S35} (hf : fitsB l c = true) (hm : l.length ≤ 4096) (hs : c.f1.size ≤ 8388608) (hn0 : -9223372036854775808 ≤ c.f2) (hn1 : c.f2 ≤ 9223372036854775807) (j : Nat) (hj : j < (constL c).length) : (oneL ((constL c).take j)).2.2 = 3 := by
  obtain ⟨k, t, n, a, b, d⟩ := c
  cases j with
  | zero => rfl
  | succ j =>
    rcases fits_kinds hf with rfl | hk | rfl | hk
    · obtain ⟨ht, rfl, rfl, rfl, rfl⟩ := fits_1 hf
      have h6 := mBytes_len ht
      rw [constL_1, List.length_cons] at hj
      rw [constL_1, List.take_succ_cons, oneL_1]
      exact text_cut t (by simp only at hs; omega) j (by omega)
    · rw [constL_2 k hk, List.length_cons] at hj
      rw [constL_2 k hk, List.take_succ_cons, oneL_2 k hk, takeS_pre n hn0 hn1 j (by omega)]; rfl
    · obtain ⟨-, -, -, -, h0, h1⟩ := fits_4 hf
      rw [constL_4, List.length_cons] at hj
      rw [constL_4, List.take_succ_cons, oneL_4, takeU_pre a.toNat (by omega) j (by omega)]; rfl
    · obtain ⟨-, -, ⟨h0, h1⟩, ⟨h2, h3⟩, ⟨h4, h5⟩⟩ := fits_5 hk hf
      rw [constL_5 k hk, List.length_cons, List.length_append, List.length_append] at hj
      rw [constL_5 k hk, List.take_succ_cons, oneL_5 k hk]
      by_cases g1 : j < (ub a.toNat).length
      · rw [take_less _ _ _ (by omega), takeU_pre a.toNat (by omega) j g1]; rfl
      obtain ⟨i, rfl⟩ : ∃ i, j = (ub a.toNat).length + i := ⟨j - (ub a.toNat).length, by omega⟩
      rw [take_plus, takeU_ub a _ (by omega) (by omega)]
      simp only [refL1, numL]
      rw [if_pos trivial]
      by_cases g2 : i < (ub b.toNat).length
      · rw [take_less _ _ _ (by omega), takeU_pre b.toNat (by omega) i g2]; rfl
      obtain ⟨i2, rfl⟩ : ∃ q, i = (ub b.toNat).length + q := ⟨i - (ub b.toNat).length, by omega⟩
      rw [take_plus, takeU_ub b _ (by omega) (by omega)]
      simp only [refL2, numL]
      rw [if_pos trivial, takeU_pre d.toNat (by omega) i2 (by omega)]
      rfl
theorem loop_cut {l : List S35} (hm : l.length ≤ 4096) : ∀ (xs acc : List S35) (j : Nat), Good l xs → xs.length ≤ 4096 → j < (xs.flatMap constL).length → (loopL xs.length ((xs.flatMap constL).take j) acc).2.2 = 3
  | [], acc, j, _, _, hj => by simp at hj
  | c :: xs, acc, j, h, hx, hj => by
    have hc := h c List.mem_cons_self
    have ht : Good l xs := fun x hx => h x (List.mem_cons_of_mem _ hx)
    have hl := good_len ht hm
    rw [List.length_cons] at hx
    rw [List.flatMap_cons, List.length_append] at hj
    rw [List.length_cons, List.flatMap_cons]
    by_cases g : j < (constL c).length
    · rw [take_less _ _ _ (by omega)]
      have e := one_cut hc.1 hm hc.2.1 hc.2.2.1 hc.2.2.2 j g
      unfold loopL
      rw [if_neg (by rw [e]; decide)]
      exact e
    · obtain ⟨i, rfl⟩ : ∃ i, j = (constL c).length + i := ⟨j - (constL c).length, by omega⟩
      rw [take_plus]
      have e := one_const hc.1 hm hc.2.1 hc.2.2.1 hc.2.2.2 ((xs.flatMap constL).take i) (Bytes.take (flat_bytes xs fun x hx => (ht x hx).1) i) (by rw [List.length_take]; omega)
      unfold loopL
      rw [e, if_pos rfl]
      exact loop_cut hm xs _ i ht (by omega) (by omega)
/-- each beginning of a list's bytes that is not all of them is told by ErrTrunc -/
theorem parse_cut {l : List S35} (h : checkL l = 0) (hs : Tiny l) (hi : Ints l) (j : Nat) (hj : j < (bytesL l).length) : (parseL ((bytesL l).take j)).2.2 = 3 := by
  obtain ⟨hp, hm, hf, hz⟩ := checkL_ok h
  have hg := good_of h hs hi
  unfold parseL bytesL
  unfold bytesL at hj
  rw [List.length_append] at hj
  by_cases g : j < (ub l.length).length
  · rw [take_less _ _ _ (by omega), takeU_pre l.length (by omega) j g]; rfl
  · obtain ⟨i, rfl⟩ : ∃ i, j = (ub l.length).length + i := ⟨j - (ub l.length).length, by omega⟩
    have hu := takeU_ub (l.length : Int) (((l.drop 1).flatMap constL).take i) (by omega) (by omega)
    rw [Int.toNat_natCast] at hu
    rw [take_plus, hu]
    simp only [parseL1]
    rw [if_pos trivial, if_neg (by omega)]
    have e := loop_cut hm (l.drop 1) [zero35] i hg (by rw [List.length_drop]; omega) (by omega)
    unfold manyL
    rw [if_neg (by omega), Int.toNat_natCast, show l.length - 1 = (l.drop 1).length by rw [List.length_drop]]
    generalize loopL (l.drop 1).length (((l.drop 1).flatMap constL).take i) [zero35] = S at e
    obtain ⟨x, y, z⟩ := S
    simp only at e
    subst e
    rfl
/-- what one constant leaves -/
theorem one_keep {b : List Int} (hb : Bytes b) (hm : b.length ≤ 140737488355300) : Bytes (oneL b).2.1 ∧ (oneL b).2.1.length ≤ b.length ∧ (oneL b).1.f1.size ≤ 4 * b.length ∧ -9223372036854775808 ≤ (oneL b).1.f2 ∧ (oneL b).1.f2 ≤ 9223372036854775807 := by
  cases b with
  | nil => exact ⟨hb, Nat.le_refl _, Nat.zero_le _, by decide, by decide⟩
  | cons k t =>
    have ht : Bytes t := fun x hx => hb x (List.mem_cons_of_mem _ hx)
    rw [List.length_cons] at hm
    have hu := takeU_keep ht
    have hE : E0.size = 0 := rfl
    rcases Classical.em (k = 1) with rfl | h1
    · rw [oneL_1]
      unfold textL
      generalize takeU t = r at hu
      obtain ⟨n, b1, e1⟩ := r
      simp only at hu
      simp only [textL1, bytesN, List.length_cons]
      split
      · split
        · simp only [textL2]; rw [if_neg (by decide)]; exact ⟨hu.1, by simp only; omega, by simp only; omega, by decide, by decide⟩
        · simp only [textL2]; rw [if_pos trivial]
          have hd := dec_size (b1.take n.toNat) (Bytes.take hu.1 _)
          rw [List.length_take] at hd
          exact ⟨Bytes.drop hu.1 _, by simp only [List.length_drop]; omega, by simp only; omega, by decide, by decide⟩
      · rename_i hne
        simp only [textL2]; rw [if_neg hne]; exact ⟨hu.1, by simp only; omega, by simp only; omega, by decide, by decide⟩
    rcases Classical.em (k = 2 ∨ k = 3) with h2 | h2
    · have hs := takeS_keep ht (by omega)
      rw [oneL_2 k h2]
      generalize takeS t = r at hs
      obtain ⟨n, b1, e1⟩ := r
      simp only at hs
      exact ⟨hs.1, by simp only [numberL, List.length_cons]; omega, by simp only [numberL, List.length_cons]; omega, hs.2.2.1, hs.2.2.2⟩
    rcases Classical.em (k = 4) with rfl | h4
    · rw [oneL_4]
      generalize takeU t = r at hu
      obtain ⟨n, b1, e1⟩ := r
      simp only at hu
      exact ⟨hu.1, by simp only [classL, List.length_cons]; omega, by simp only [classL, List.length_cons]; omega, by simp only [classL]; omega, by simp only [classL]; omega⟩
    have hnum : ∀ (b : List Int) (e : Int), Bytes b → Bytes (numL takeU b e).2.1 ∧ (numL takeU b e).2.1.length ≤ b.length := by
      intro b e hb
      unfold numL
      split
      · exact ⟨(takeU_keep hb).1, (takeU_keep hb).2.1⟩
      · exact ⟨hb, Nat.le_refl _⟩
    rcases Classical.em (k = 5 ∨ k = 6) with h5 | h5
    · rw [oneL_5 k h5]
      generalize takeU t = r at hu
      obtain ⟨n, b1, e1⟩ := r
      simp only at hu
      simp only [refL1]
      have k1 := hnum b1 e1 hu.1
      generalize numL takeU b1 e1 = r at k1
      obtain ⟨n2, b2, e2⟩ := r
      simp only at k1
      simp only [refL2]
      have k2 := hnum b2 e2 k1.1
      generalize numL takeU b2 e2 = r at k2
      obtain ⟨n3, b3, e3⟩ := r
      simp only at k2
      exact ⟨k2.1, by simp only [refL3, List.length_cons]; omega, by simp only [refL3, List.length_cons]; omega, by simp only [refL3]; omega, by simp only [refL3]; omega⟩
    · rw [oneL_7 k (by omega)]
      exact ⟨ht, by simp only [List.length_cons]; omega, by simp only [List.length_cons]; omega, by simp only; omega, by simp only; omega⟩
/-- what was read is written so -/
theorem one_back {b : List Int} (hb : Bytes b) (hm : b.length ≤ 140737488355300) (h : (oneL b).2.2 = 0) : b = constL (oneL b).1 ++ (oneL b).2.1 := by
  cases b with
  | nil => exact absurd (show (3 : Int) = 0 from h) (by decide)
  | cons k t =>
    have ht : Bytes t := fun x hx => hb x (List.mem_cons_of_mem _ hx)
    rw [List.length_cons] at hm
    have hu := takeU_back ht
    have hk := takeU_keep ht
    rcases Classical.em (k = 1) with rfl | h1
    · rw [oneL_1] at h ⊢
      simp only at h
      unfold textL at h ⊢
      generalize takeU t = r at hu hk h
      obtain ⟨n, b1, e1⟩ := r
      simp only at hu hk
      simp only [textL1, bytesN] at h ⊢
      split at h
      · rename_i he
        obtain ⟨h0, h1, h2⟩ := hu he
        rw [if_pos he]
        split at h
        · simp only [textL2] at h; rw [if_neg (by decide)] at h; exact absurd (show (3 : Int) = 0 from h) (by decide)
        · rename_i hn
          rw [if_neg hn]
          simp only [textL2] at h ⊢
          rw [if_pos trivial] at h ⊢
          simp only at h ⊢
          have hd := dec_text (Bytes.take hk.1 n.toNat) h
          rw [constL_1, hd.2, List.length_take, show min n.toNat b1.length = n.toNat by omega, List.cons_append, List.append_assoc, List.take_append_drop, ← h2]
      · rename_i he
        simp only [textL2] at h; rw [if_neg he] at h; exact absurd h he
    rcases Classical.em (k = 2 ∨ k = 3) with h2 | h2
    · rw [oneL_2 k h2] at h ⊢
      have hs := takeS_back ht (by omega)
      generalize takeS t = r at hs h
      obtain ⟨n, b1, e1⟩ := r
      simp only [numberL] at hs h ⊢
      rw [constL_2 k h2, List.cons_append, ← hs h]
    rcases Classical.em (k = 4) with rfl | h4
    · rw [oneL_4] at h ⊢
      generalize takeU t = r at hu h
      obtain ⟨n, b1, e1⟩ := r
      simp only [classL] at hu h ⊢
      rw [constL_4, List.cons_append, ← (hu h).2.2]
    have hnum : ∀ (b : List Int) (e : Int), Bytes b → (numL takeU b e).2.2 = 0 → e = 0 ∧ b = ub (numL takeU b e).1.toNat ++ (numL takeU b e).2.1 := by
      intro b e hb h
      unfold numL at h ⊢
      split at h
      · rename_i he; rw [if_pos he]; exact ⟨he, (takeU_back hb h).2.2⟩
      · rename_i he; exact absurd h he
    have hnumb : ∀ (b : List Int) (e : Int), Bytes b → Bytes (numL takeU b e).2.1 := by
      intro b e hb
      unfold numL
      split
      · exact (takeU_keep hb).1
      · exact hb
    rcases Classical.em (k = 5 ∨ k = 6) with h5 | h5
    · rw [oneL_5 k h5] at h ⊢
      generalize takeU t = r at hu hk h
      obtain ⟨n, b1, e1⟩ := r
      simp only at hu hk
      simp only [refL1] at h ⊢
      have k1 := hnum b1 e1 hk.1
      have j1 := hnumb b1 e1 hk.1
      generalize numL takeU b1 e1 = r at k1 j1 h
      obtain ⟨n2, b2, e2⟩ := r
      simp only at k1 j1
      simp only [refL2] at h ⊢
      have k2 := hnum b2 e2 j1
      generalize numL takeU b2 e2 = r at k2 h
      obtain ⟨n3, b3, e3⟩ := r
      simp only at k2
      simp only [refL3] at h ⊢
      obtain ⟨c2, d2⟩ := k2 h
      obtain ⟨c1, d1⟩ := k1 c2
      have d0 := (hu c1).2.2
      rw [constL_5 k h5, List.cons_append, List.append_assoc, List.append_assoc, ← d2, ← d1, ← d0]
    · rw [oneL_7 k (by omega)] at h
      exact absurd (show (4 : Int) = 0 from h) (by decide)
theorem loop_back : ∀ (m : Nat) (b : List Int) (acc : List S35), Bytes b → b.length ≤ 140737488355300 → (loopL m b acc).2.2 = 0 →
    ∃ xs, xs.length = m ∧ (loopL m b acc).1 = acc ++ xs ∧ b = xs.flatMap constL ++ (loopL m b acc).2.1 ∧ Bytes (loopL m b acc).2.1 ∧ (loopL m b acc).2.1.length ≤ b.length ∧ ∀ c ∈ xs, c.f1.size ≤ 4 * b.length ∧ -9223372036854775808 ≤ c.f2 ∧ c.f2 ≤ 9223372036854775807
  | 0, b, acc, hb, hm, h => ⟨[], rfl, by rw [List.append_nil]; rfl, rfl, hb, Nat.le_refl _, fun c hc => by cases hc⟩
  | m + 1, b, acc, hb, hm, h => by
    unfold loopL at h ⊢
    by_cases he : (oneL b).2.2 = 0
    · rw [if_pos he] at h ⊢
      have h1 := one_back hb hm he
      have h2 := one_keep hb hm
      obtain ⟨xs, e1, e2, e3, e4, e5, e6⟩ := loop_back m (oneL b).2.1 (acc ++ [(oneL b).1]) h2.1 (by omega) h
      refine ⟨(oneL b).1 :: xs, by rw [List.length_cons, e1], by rw [e2, List.append_assoc]; rfl, ?_, e4, by omega, ?_⟩
      · rw [List.flatMap_cons, List.append_assoc, ← e3]; exact h1
      · intro c hc
        rcases List.mem_cons.1 hc with rfl | hc
        · exact h2.2.2
        · have := e6 c hc; exact ⟨by omega, this.2⟩
    · rw [if_neg he] at h; exact absurd h he
/-- what can be read may be, and is written so -/
theorem parse_back {b : List Int} (hb : Bytes b) (hm : b.length ≤ 140737488355300) (h : (parseL b).2.2 = 0) :
    checkL (parseL b).1 = 0 ∧ bytesL (parseL b).1 ++ (parseL b).2.1 = b ∧ Bytes (parseL b).2.1 ∧ (parseL b).2.1.length ≤ b.length ∧ Ints (parseL b).1 ∧ ∀ c ∈ (parseL b).1, c.f1.size ≤ 4 * b.length := by
  unfold parseL at h ⊢
  have hu := takeU_back hb
  have hk := takeU_keep hb
  generalize takeU b = r at hu hk h
  obtain ⟨n, b1, e1⟩ := r
  simp only [parseL1] at hu hk h ⊢
  split at h
  · rename_i he
    obtain ⟨h0, h1, h2⟩ := hu he
    rw [if_pos he]
    split at h
    · exact absurd (show (5 : Int) = 0 from h) (by decide)
    · rename_i hn
      rw [if_neg hn]
      unfold manyL at h ⊢
      by_cases hz : n = 0
      · rw [if_pos hz] at h
        have h40 : checkL [] = 40 := by unfold checkL okL; simp
        simp only [lastL] at h
        rw [if_pos trivial, h40, if_neg (by decide)] at h
        exact absurd (show (40 : Int) = 0 from h) (by decide)
      rw [if_neg hz] at h ⊢
      have hl := loop_back (n.toNat - 1) b1 [zero35] hk.1 (by omega)
      generalize loopL (n.toNat - 1) b1 [zero35] = S at h hl
      obtain ⟨x, y, z⟩ := S
      simp only [lastL] at h hl ⊢
      split at h
      · rename_i hz0
        rw [if_pos hz0]
        split at h
        · rename_i hc
          rw [if_pos hc]
          obtain ⟨xs, e1, e2, e3, e4, e5, e6⟩ := hl hz0
          refine ⟨hc, ?_, e4, by simp only; omega, ?_, ?_⟩
          · rw [h2, e3, e2]
            unfold bytesL
            rw [show ([zero35] ++ xs).length = n.toNat by simp; omega, show ([zero35] ++ xs).drop 1 = xs from rfl, List.append_assoc]
          · simp only [e2]
            intro c hc
            rcases List.mem_cons.1 hc with rfl | hc
            · exact ⟨by decide, by decide⟩
            · exact (e6 c hc).2
          · simp only [e2]
            intro c hc
            rcases List.mem_cons.1 hc with rfl | hc
            · exact Nat.zero_le _
            · have := (e6 c hc).1; omega
        · rename_i hc; exact absurd h hc
      · rename_i hz0; exact absurd h hz0
  · rename_i he; exact absurd h he
end Go.Proofs.YtkhigagkgpfpfaaDoor.Ext
