/- The closed law PoolKnown: its lists, what Check says of them, and the row of rows that is refused. Plain laws. -/
import Derived.Test.YtkhigagkgpfpfaaDoorPoolLaws3
import Derived.Test.YtkhigagkgpfpfaaDoorPoolTells
set_option linter.unusedVariables false
set_option linter.unusedSimpArgs false
namespace Go.Proofs.YtkhigagkgpfpfaaDoor.Ext
open Go.RowKit Go.Lib Go.Proofs.YtkhigagkgpfpfaaDoorW.PrintWords Go.Proofs.YtkhigagkgpfpfaaDoorW.PrintLast Go.Proofs.YtkhigagkgpfpfaaDoorW.PrintMore Go.Proofs.YtkhigagkgpfpfaaDoor.PLeb

def longN (k : Nat) : List S35 := (List.range k).map fun (j : Nat) => ⟨2, ⟨#[]⟩, (j : Int), 0, 0, 0⟩
theorem longN_succ (k : Nat) : longN k ++ [⟨2, ⟨#[]⟩, (k : Int), 0, 0, 0⟩] = longN (k + 1) := by
  unfold longN; rw [List.range_succ, List.map_append]; rfl
theorem longN_len (k : Nat) : (longN k).length = k := by simp [longN]
theorem longN_at {k j : Nat} (h : j < k) : (longN k)[j]? = some ⟨2, ⟨#[]⟩, (j : Int), 0, 0, 0⟩ := by
  unfold longN
  rw [List.getElem?_map, List.getElem?_range h]; rfl
def longL : List S35 := (longN 4096).set (0 : Int).toNat zero35
theorem longL_len : longL.length = 4096 := by unfold longL; rw [List.length_set, longN_len]
theorem longL_at {j : Nat} (h0 : 0 < j) (h : j < 4096) : longL[j]? = some ⟨2, ⟨#[]⟩, (j : Int), 0, 0, 0⟩ := by
  unfold longL
  rw [List.getElem?_set_ne (by show 0 ≠ j; omega), longN_at h]
theorem longL_zero : longL[0]? = some zero35 := by
  unfold longL
  exact List.getElem?_set_self (by rw [longN_len]; decide)
theorem longL_rd {i : Int} (h0 : 0 < i) (h1 : i < 4096) : rd_T35 longL i = ⟨2, ⟨#[]⟩, i, 0, 0, 0⟩ := by
  unfold rd_T35
  rw [List.getD_eq_getElem?_getD, longL_at (by omega) (by omega), show ((i.toNat : Nat) : Int) = i by omega]; rfl
theorem longL_drop {c : S35} (h : c ∈ longL.drop 1) : ∃ j : Nat, j < 4096 ∧ c = ⟨2, ⟨#[]⟩, (j : Int), 0, 0, 0⟩ := by
  obtain ⟨i, hi⟩ := List.getElem?_of_mem h
  rw [List.getElem?_drop] at hi
  have hl := (List.getElem?_eq_some_iff.1 hi).1
  rw [longL_len] at hl
  rw [longL_at (by omega) hl] at hi
  exact ⟨1 + i, hl, (Option.some.inj hi).symm⟩
theorem longL_mem {c : S35} (h : c ∈ longL) : c = zero35 ∨ ∃ j : Nat, j < 4096 ∧ c = ⟨2, ⟨#[]⟩, (j : Int), 0, 0, 0⟩ := by
  obtain ⟨i, hi⟩ := List.getElem?_of_mem h
  rcases Nat.eq_zero_or_pos i with rfl | h0
  · rw [longL_zero] at hi; exact .inl (Option.some.inj hi).symm
  · have hl := (List.getElem?_eq_some_iff.1 hi).1
    rw [longL_len] at hl
    rw [longL_at h0 hl] at hi
    exact .inr ⟨i, hl, (Option.some.inj hi).symm⟩
theorem longL_check : checkL longL = 0 := by
  have hz : rd_T35 longL 0 = zero35 := by
    unfold rd_T35
    rw [List.getD_eq_getElem?_getD, show (0 : Int).toNat = 0 from rfl, longL_zero]; rfl
  have hok : okL longL = true := by
    unfold okL
    rw [longL_len, decide_eq_true (by decide), hz, show zeroB zero35 = true by kernel_rfl, Bool.true_and, Bool.true_and, List.all_eq_true]
    intro c hc
    obtain ⟨j, hj, rfl⟩ := longL_drop hc
    have h1 : decide ((-2147483648 : Int) ≤ (j : Int)) = true := decide_eq_true (by omega)
    have h2 : decide ((j : Int) ≤ 2147483647) = true := decide_eq_true (by omega)
    have h3 : noText ⟨#[]⟩ = true := by kernel_rfl
    unfold fitsB
    rw [if_neg (show ¬ (2 : Int) = 1 by decide), if_pos (show (2 : Int) = 2 from rfl)]
    simp only [h1, h2, h3]
    rfl
  unfold checkL
  rw [longL_len, if_neg (by decide), if_pos hok]
theorem longL_small : ∀ c ∈ longL, c.f1.size ≤ 1048576 := by
  intro c hc
  rcases longL_mem hc with rfl | ⟨j, -, rfl⟩
  · show (0 : Nat) ≤ _; omega
  · show (0 : Nat) ≤ _; omega
theorem longL_ints : Ints longL := by
  intro c hc
  rcases longL_mem hc with rfl | ⟨j, hj, rfl⟩
  · exact ⟨by decide, by decide⟩
  · exact ⟨by show (_ : Int) ≤ (j : Int); omega, by show (j : Int) ≤ _; omega⟩
theorem long_isB (k : Int) : isB longL 5 k = ((2 : Int) == k) := by
  unfold isB
  rw [longL_len, longL_rd (by decide) (by decide), decide_eq_true (by decide), decide_eq_true (by decide)]; rfl
theorem long_num3 : numP longL 5 3 = (0, 40) := by unfold numP; rw [long_isB, if_neg (by decide)]
theorem long_num1 : numP longL 5 1 = (0, 40) := by unfold numP; rw [long_isB, if_neg (by decide)]
theorem long_num2 : numP longL 5 2 = (5, 0) := by unfold numP; rw [long_isB, if_pos (by decide), longL_rd (by decide) (by decide)]
theorem long_ref : refP longL 5 2 = (E0, E0, E0, 40) := by unfold refP; rw [if_neg (by omega)]
theorem long_more (c : S35) : checkL (longL ++ [c]) = 5 := by
  unfold checkL; rw [if_pos (by rw [List.length_append, longL_len]; show 4096 < 4096 + 1; omega)]
def fullL : List S35 := [⟨0, ⟨#[]⟩, 0, 0, 0, 0⟩, ⟨1, ⟨#[]⟩, 0, 0, 0, 0⟩, ⟨1, ⟨#[0, 240, 159, 152, 128]⟩, 0, 0, 0, 0⟩, ⟨4, ⟨#[]⟩, 0, 1, 0, 0⟩, ⟨6, ⟨#[]⟩, 0, 3, 2, 1⟩, ⟨5, ⟨#[]⟩, 0, 3, 1, 1⟩]
theorem full_parse : parseL [6, 1, 0, 1, 8, 192, 128, 237, 160, 189, 237, 184, 128, 4, 1, 6, 3, 2, 1, 5, 3, 1, 1] = (fullL, [], 0) := by kernel_rfl
theorem one1_parse : parseL [1] = ([zero35], [], 0) := by kernel_rfl
/-! ### The row of rows that is refused -/
def allocs (w : World) : List (Array Value) → World
  | [] => w
  | l :: r => allocs (w.alloc (.cells l 35)) r
theorem allocs_size : ∀ (ls : List (Array Value)) (w : World), (allocs w ls).heap.size = w.heap.size + ls.length
  | [], w => rfl
  | l :: r, w => by rw [allocs, allocs_size r, World.size_alloc, List.length_cons]; omega
theorem allocs_old : ∀ (ls : List (Array Value)) (w : World) (j : Nat), j < w.heap.size → (allocs w ls).heap[j]? = w.heap[j]?
  | [], w, j, h => rfl
  | l :: r, w, j, h => by rw [allocs, allocs_old r _ j (by rw [World.size_alloc]; omega), heap_alloc_old _ _ h]
theorem allocs_at : ∀ (ls : List (Array Value)) (w : World) (j : Nat) (l : Array Value), ls[j]? = some l → (allocs w ls).heap[w.heap.size + j]? = some (.cells l 35 (0, 0))
  | [], w, j, l, h => by simp at h
  | x :: r, w, 0, l, h => by
    have hx : x = l := by simpa using h
    subst hx
    rw [allocs, Nat.add_zero, allocs_old r _ _ (by rw [World.size_alloc]; omega)]
    exact heap_alloc_new w _
  | x :: r, w, j + 1, l, h => by
    have h' : r[j]? = some l := by simpa using h
    have := allocs_at r (w.alloc (.cells x 35)) j l h'
    rw [World.size_alloc] at this
    rw [allocs, show w.heap.size + (j + 1) = w.heap.size + 1 + j by omega]
    exact this
theorem allocs_below : ∀ (ls : List (Array Value)) (w0 w : World), Below w0.heap.size w0 w → Below w0.heap.size w0 (allocs w ls)
  | [], w0, w, h => h
  | l :: r, w0, w, h => allocs_below r w0 _ (below_alloc h _)
theorem C_of_block {w : World} {g : Nat} {C : Array Value} (l : List S35) (h : w.heap[g]? = some (.cells C 35 (0, 0))) (hC : C.toList = l.flatMap cells35) (hm : l.length ≤ 9223372036854775807) : Kd.C k35 w (some ⟨g, 0, none⟩) l.length l := by
  refine ⟨rfl, hm, fun _ => ⟨_, rfl, fun j p hj => ⟨cells35 p, rfl, k35_mk _ p, fun i u hu => ?_⟩⟩⟩
  rw [add_plain, cell_of_row _ g _ C 35 (0, 0) h, ← Array.getElem?_toList, hC]
  exact flat6 l j p i u hj hu
def BadRow (w : World) (G : Nat) : Prop := ∀ j, j < 18 → ∃ (A : Option Addr) (n : Nat) (l : List S35), w.cell? ⟨G, j, none⟩ = some (.slice A n n) ∧ Kd.C k35 w A l.length l ∧ l.length = n ∧ n ≤ 4 ∧ checkL l = 40 ∧ Tiny l
theorem BadRow.below {w w1 : World} {G : Nat} (h : BadRow w G) (hb : Below w.heap.size w w1) : BadRow w1 G := fun j hj => by
  obtain ⟨A, n, l, h1, h2, h3⟩ := h j hj
  exact ⟨A, n, l, (hb.cell (p := ⟨G, j, none⟩) (World.block_lt_of_cell? w _ h1)).trans h1, Kd.C_below h2 hb, h3⟩
def tinyB (l : List S35) : Bool := l.all fun x => decide (x.f1.size ≤ 8388608)
theorem tiny_b {l : List S35} (h : tinyB l = true) : Tiny l := fun x hx => of_decide_eq_true (List.all_eq_true.1 h x hx)
def badArrs : List (Array Value) := [#[.int .i64 0, .string ⟨#[]⟩, .int .i64 1, .int .i64 0, .int .i64 0, .int .i64 0],
  #[.int .i64 0, .string ⟨#[]⟩, .int .i64 0, .int .i64 0, .int .i64 0, .int .i64 0, .int .i64 0, .string ⟨#[]⟩, .int .i64 0, .int .i64 0, .int .i64 0, .int .i64 0],
  #[.int .i64 0, .string ⟨#[]⟩, .int .i64 0, .int .i64 0, .int .i64 0, .int .i64 0, .int .i64 7, .string ⟨#[]⟩, .int .i64 0, .int .i64 0, .int .i64 0, .int .i64 0],
  #[.int .i64 0, .string ⟨#[]⟩, .int .i64 0, .int .i64 0, .int .i64 0, .int .i64 0, .int .i64 1, .string ⟨#[]⟩, .int .i64 1, .int .i64 0, .int .i64 0, .int .i64 0],
  #[.int .i64 0, .string ⟨#[]⟩, .int .i64 0, .int .i64 0, .int .i64 0, .int .i64 0, .int .i64 1, .string ⟨#[255]⟩, .int .i64 0, .int .i64 0, .int .i64 0, .int .i64 0],
  #[.int .i64 0, .string ⟨#[]⟩, .int .i64 0, .int .i64 0, .int .i64 0, .int .i64 0, .int .i64 2, .string ⟨#[]⟩, .int .i64 2147483648, .int .i64 0, .int .i64 0, .int .i64 0],
  #[.int .i64 0, .string ⟨#[]⟩, .int .i64 0, .int .i64 0, .int .i64 0, .int .i64 0, .int .i64 2, .string ⟨#[]⟩, .int .i64 (-2147483649), .int .i64 0, .int .i64 0, .int .i64 0],
  #[.int .i64 0, .string ⟨#[]⟩, .int .i64 0, .int .i64 0, .int .i64 0, .int .i64 0, .int .i64 2, .string ⟨#[]⟩, .int .i64 0, .int .i64 1, .int .i64 0, .int .i64 0],
  #[.int .i64 0, .string ⟨#[]⟩, .int .i64 0, .int .i64 0, .int .i64 0, .int .i64 0, .int .i64 3, .string ⟨#[97]⟩, .int .i64 0, .int .i64 0, .int .i64 0, .int .i64 0],
  #[.int .i64 0, .string ⟨#[]⟩, .int .i64 0, .int .i64 0, .int .i64 0, .int .i64 0, .int .i64 4, .string ⟨#[]⟩, .int .i64 0, .int .i64 1, .int .i64 0, .int .i64 0],
  #[.int .i64 0, .string ⟨#[]⟩, .int .i64 0, .int .i64 0, .int .i64 0, .int .i64 0, .int .i64 4, .string ⟨#[]⟩, .int .i64 0, .int .i64 0, .int .i64 0, .int .i64 0],
  #[.int .i64 0, .string ⟨#[]⟩, .int .i64 0, .int .i64 0, .int .i64 0, .int .i64 0, .int .i64 4, .string ⟨#[]⟩, .int .i64 0, .int .i64 2, .int .i64 0, .int .i64 0],
  #[.int .i64 0, .string ⟨#[]⟩, .int .i64 0, .int .i64 0, .int .i64 0, .int .i64 0, .int .i64 4, .string ⟨#[]⟩, .int .i64 0, .int .i64 (-1), .int .i64 0, .int .i64 0],
  #[.int .i64 0, .string ⟨#[]⟩, .int .i64 0, .int .i64 0, .int .i64 0, .int .i64 0, .int .i64 1, .string ⟨#[]⟩, .int .i64 0, .int .i64 0, .int .i64 0, .int .i64 0, .int .i64 5, .string ⟨#[]⟩, .int .i64 0, .int .i64 1, .int .i64 1, .int .i64 1],
  #[.int .i64 0, .string ⟨#[]⟩, .int .i64 0, .int .i64 0, .int .i64 0, .int .i64 0, .int .i64 1, .string ⟨#[]⟩, .int .i64 0, .int .i64 0, .int .i64 0, .int .i64 0, .int .i64 4, .string ⟨#[]⟩, .int .i64 0, .int .i64 1, .int .i64 0, .int .i64 0, .int .i64 5, .string ⟨#[]⟩, .int .i64 0, .int .i64 2, .int .i64 2, .int .i64 1],
  #[.int .i64 0, .string ⟨#[]⟩, .int .i64 0, .int .i64 0, .int .i64 0, .int .i64 0, .int .i64 1, .string ⟨#[]⟩, .int .i64 0, .int .i64 0, .int .i64 0, .int .i64 0, .int .i64 4, .string ⟨#[]⟩, .int .i64 0, .int .i64 1, .int .i64 0, .int .i64 0, .int .i64 6, .string ⟨#[]⟩, .int .i64 0, .int .i64 2, .int .i64 1, .int .i64 2],
  #[.int .i64 0, .string ⟨#[]⟩, .int .i64 0, .int .i64 0, .int .i64 0, .int .i64 0, .int .i64 1, .string ⟨#[]⟩, .int .i64 0, .int .i64 0, .int .i64 0, .int .i64 0, .int .i64 4, .string ⟨#[]⟩, .int .i64 0, .int .i64 1, .int .i64 1, .int .i64 0]]
def badCells (b : Nat) : Array Value := #[.slice none 0 0, .slice (some ⟨b + 0, 0, none⟩) 1 1, .slice (some ⟨b + 1, 0, none⟩) 2 2, .slice (some ⟨b + 2, 0, none⟩) 2 2, .slice (some ⟨b + 3, 0, none⟩) 2 2, .slice (some ⟨b + 4, 0, none⟩) 2 2, .slice (some ⟨b + 5, 0, none⟩) 2 2, .slice (some ⟨b + 6, 0, none⟩) 2 2, .slice (some ⟨b + 7, 0, none⟩) 2 2, .slice (some ⟨b + 8, 0, none⟩) 2 2, .slice (some ⟨b + 9, 0, none⟩) 2 2, .slice (some ⟨b + 10, 0, none⟩) 2 2, .slice (some ⟨b + 11, 0, none⟩) 2 2, .slice (some ⟨b + 12, 0, none⟩) 2 2, .slice (some ⟨b + 13, 0, none⟩) 3 3, .slice (some ⟨b + 14, 0, none⟩) 4 4, .slice (some ⟨b + 15, 0, none⟩) 4 4, .slice (some ⟨b + 16, 0, none⟩) 3 3]
def badWorld (w : World) : World := (allocs w badArrs).alloc (.cells (badCells w.heap.size) 24)
theorem bad_below (w : World) : Below w.heap.size w (badWorld w) := below_alloc (allocs_below badArrs w w (Below.refl _ _)) _
theorem bad_size (w : World) : (allocs w badArrs).heap.size = w.heap.size + 17 := allocs_size badArrs w
theorem bad_block (w : World) : (badWorld w).heap[w.heap.size + 17]? = some (.cells (badCells w.heap.size) 24 (0, 0)) := by
  rw [← bad_size w]; exact heap_alloc_new _ _
theorem bad_at (w : World) (j : Nat) (l : Array Value) (h : badArrs[j]? = some l) : (badWorld w).heap[w.heap.size + j]? = some (.cells l 35 (0, 0)) := by
  have hj : j < 17 := (List.getElem?_eq_some_iff.1 h).1
  exact (heap_alloc_old _ _ (by rw [bad_size]; omega)).trans (allocs_at badArrs w j l h)
theorem bad_cell (w : World) (j : Nat) (v : Value) (h : (badCells w.heap.size)[j]? = some v) : (badWorld w).cell? ⟨w.heap.size + 17, j, none⟩ = some v := by
  rw [cell_of_row _ _ j _ _ _ (bad_block w)]; exact h
theorem bad_1 (w : World) : ∃ (A : Option Addr) (n : Nat) (l : List S35), (badWorld w).cell? ⟨w.heap.size + 17, 1, none⟩ = some (.slice A n n) ∧ Kd.C k35 (badWorld w) A l.length l ∧ l.length = n ∧ n ≤ 4 ∧ checkL l = 40 ∧ Tiny l :=
  ⟨some ⟨w.heap.size + 0, 0, none⟩, 1, [⟨0, ⟨#[]⟩, 1, 0, 0, 0⟩], bad_cell w 1 _ rfl, C_of_block _ (bad_at w 0 _ rfl) rfl (by decide), rfl, by decide, by kernel_rfl, tiny_b (by kernel_rfl)⟩
theorem bad_2 (w : World) : ∃ (A : Option Addr) (n : Nat) (l : List S35), (badWorld w).cell? ⟨w.heap.size + 17, 2, none⟩ = some (.slice A n n) ∧ Kd.C k35 (badWorld w) A l.length l ∧ l.length = n ∧ n ≤ 4 ∧ checkL l = 40 ∧ Tiny l :=
  ⟨some ⟨w.heap.size + 1, 0, none⟩, 2, [⟨0, ⟨#[]⟩, 0, 0, 0, 0⟩, ⟨0, ⟨#[]⟩, 0, 0, 0, 0⟩], bad_cell w 2 _ rfl, C_of_block _ (bad_at w 1 _ rfl) rfl (by decide), rfl, by decide, by kernel_rfl, tiny_b (by kernel_rfl)⟩
theorem bad_3 (w : World) : ∃ (A : Option Addr) (n : Nat) (l : List S35), (badWorld w).cell? ⟨w.heap.size + 17, 3, none⟩ = some (.slice A n n) ∧ Kd.C k35 (badWorld w) A l.length l ∧ l.length = n ∧ n ≤ 4 ∧ checkL l = 40 ∧ Tiny l :=
  ⟨some ⟨w.heap.size + 2, 0, none⟩, 2, [⟨0, ⟨#[]⟩, 0, 0, 0, 0⟩, ⟨7, ⟨#[]⟩, 0, 0, 0, 0⟩], bad_cell w 3 _ rfl, C_of_block _ (bad_at w 2 _ rfl) rfl (by decide), rfl, by decide, by kernel_rfl, tiny_b (by kernel_rfl)⟩
theorem bad_4 (w : World) : ∃ (A : Option Addr) (n : Nat) (l : List S35), (badWorld w).cell? ⟨w.heap.size + 17, 4, none⟩ = some (.slice A n n) ∧ Kd.C k35 (badWorld w) A l.length l ∧ l.length = n ∧ n ≤ 4 ∧ checkL l = 40 ∧ Tiny l :=
  ⟨some ⟨w.heap.size + 3, 0, none⟩, 2, [⟨0, ⟨#[]⟩, 0, 0, 0, 0⟩, ⟨1, ⟨#[]⟩, 1, 0, 0, 0⟩], bad_cell w 4 _ rfl, C_of_block _ (bad_at w 3 _ rfl) rfl (by decide), rfl, by decide, by kernel_rfl, tiny_b (by kernel_rfl)⟩
theorem bad_5 (w : World) : ∃ (A : Option Addr) (n : Nat) (l : List S35), (badWorld w).cell? ⟨w.heap.size + 17, 5, none⟩ = some (.slice A n n) ∧ Kd.C k35 (badWorld w) A l.length l ∧ l.length = n ∧ n ≤ 4 ∧ checkL l = 40 ∧ Tiny l :=
  ⟨some ⟨w.heap.size + 4, 0, none⟩, 2, [⟨0, ⟨#[]⟩, 0, 0, 0, 0⟩, ⟨1, ⟨#[255]⟩, 0, 0, 0, 0⟩], bad_cell w 5 _ rfl, C_of_block _ (bad_at w 4 _ rfl) rfl (by decide), rfl, by decide, by kernel_rfl, tiny_b (by kernel_rfl)⟩
theorem bad_6 (w : World) : ∃ (A : Option Addr) (n : Nat) (l : List S35), (badWorld w).cell? ⟨w.heap.size + 17, 6, none⟩ = some (.slice A n n) ∧ Kd.C k35 (badWorld w) A l.length l ∧ l.length = n ∧ n ≤ 4 ∧ checkL l = 40 ∧ Tiny l :=
  ⟨some ⟨w.heap.size + 5, 0, none⟩, 2, [⟨0, ⟨#[]⟩, 0, 0, 0, 0⟩, ⟨2, ⟨#[]⟩, 2147483648, 0, 0, 0⟩], bad_cell w 6 _ rfl, C_of_block _ (bad_at w 5 _ rfl) rfl (by decide), rfl, by decide, by kernel_rfl, tiny_b (by kernel_rfl)⟩
theorem bad_7 (w : World) : ∃ (A : Option Addr) (n : Nat) (l : List S35), (badWorld w).cell? ⟨w.heap.size + 17, 7, none⟩ = some (.slice A n n) ∧ Kd.C k35 (badWorld w) A l.length l ∧ l.length = n ∧ n ≤ 4 ∧ checkL l = 40 ∧ Tiny l :=
  ⟨some ⟨w.heap.size + 6, 0, none⟩, 2, [⟨0, ⟨#[]⟩, 0, 0, 0, 0⟩, ⟨2, ⟨#[]⟩, -2147483649, 0, 0, 0⟩], bad_cell w 7 _ rfl, C_of_block _ (bad_at w 6 _ rfl) rfl (by decide), rfl, by decide, by kernel_rfl, tiny_b (by kernel_rfl)⟩
theorem bad_8 (w : World) : ∃ (A : Option Addr) (n : Nat) (l : List S35), (badWorld w).cell? ⟨w.heap.size + 17, 8, none⟩ = some (.slice A n n) ∧ Kd.C k35 (badWorld w) A l.length l ∧ l.length = n ∧ n ≤ 4 ∧ checkL l = 40 ∧ Tiny l :=
  ⟨some ⟨w.heap.size + 7, 0, none⟩, 2, [⟨0, ⟨#[]⟩, 0, 0, 0, 0⟩, ⟨2, ⟨#[]⟩, 0, 1, 0, 0⟩], bad_cell w 8 _ rfl, C_of_block _ (bad_at w 7 _ rfl) rfl (by decide), rfl, by decide, by kernel_rfl, tiny_b (by kernel_rfl)⟩
theorem bad_9 (w : World) : ∃ (A : Option Addr) (n : Nat) (l : List S35), (badWorld w).cell? ⟨w.heap.size + 17, 9, none⟩ = some (.slice A n n) ∧ Kd.C k35 (badWorld w) A l.length l ∧ l.length = n ∧ n ≤ 4 ∧ checkL l = 40 ∧ Tiny l :=
  ⟨some ⟨w.heap.size + 8, 0, none⟩, 2, [⟨0, ⟨#[]⟩, 0, 0, 0, 0⟩, ⟨3, ⟨#[97]⟩, 0, 0, 0, 0⟩], bad_cell w 9 _ rfl, C_of_block _ (bad_at w 8 _ rfl) rfl (by decide), rfl, by decide, by kernel_rfl, tiny_b (by kernel_rfl)⟩
theorem bad_10 (w : World) : ∃ (A : Option Addr) (n : Nat) (l : List S35), (badWorld w).cell? ⟨w.heap.size + 17, 10, none⟩ = some (.slice A n n) ∧ Kd.C k35 (badWorld w) A l.length l ∧ l.length = n ∧ n ≤ 4 ∧ checkL l = 40 ∧ Tiny l :=
  ⟨some ⟨w.heap.size + 9, 0, none⟩, 2, [⟨0, ⟨#[]⟩, 0, 0, 0, 0⟩, ⟨4, ⟨#[]⟩, 0, 1, 0, 0⟩], bad_cell w 10 _ rfl, C_of_block _ (bad_at w 9 _ rfl) rfl (by decide), rfl, by decide, by kernel_rfl, tiny_b (by kernel_rfl)⟩
theorem bad_11 (w : World) : ∃ (A : Option Addr) (n : Nat) (l : List S35), (badWorld w).cell? ⟨w.heap.size + 17, 11, none⟩ = some (.slice A n n) ∧ Kd.C k35 (badWorld w) A l.length l ∧ l.length = n ∧ n ≤ 4 ∧ checkL l = 40 ∧ Tiny l :=
  ⟨some ⟨w.heap.size + 10, 0, none⟩, 2, [⟨0, ⟨#[]⟩, 0, 0, 0, 0⟩, ⟨4, ⟨#[]⟩, 0, 0, 0, 0⟩], bad_cell w 11 _ rfl, C_of_block _ (bad_at w 10 _ rfl) rfl (by decide), rfl, by decide, by kernel_rfl, tiny_b (by kernel_rfl)⟩
theorem bad_12 (w : World) : ∃ (A : Option Addr) (n : Nat) (l : List S35), (badWorld w).cell? ⟨w.heap.size + 17, 12, none⟩ = some (.slice A n n) ∧ Kd.C k35 (badWorld w) A l.length l ∧ l.length = n ∧ n ≤ 4 ∧ checkL l = 40 ∧ Tiny l :=
  ⟨some ⟨w.heap.size + 11, 0, none⟩, 2, [⟨0, ⟨#[]⟩, 0, 0, 0, 0⟩, ⟨4, ⟨#[]⟩, 0, 2, 0, 0⟩], bad_cell w 12 _ rfl, C_of_block _ (bad_at w 11 _ rfl) rfl (by decide), rfl, by decide, by kernel_rfl, tiny_b (by kernel_rfl)⟩
theorem bad_13 (w : World) : ∃ (A : Option Addr) (n : Nat) (l : List S35), (badWorld w).cell? ⟨w.heap.size + 17, 13, none⟩ = some (.slice A n n) ∧ Kd.C k35 (badWorld w) A l.length l ∧ l.length = n ∧ n ≤ 4 ∧ checkL l = 40 ∧ Tiny l :=
  ⟨some ⟨w.heap.size + 12, 0, none⟩, 2, [⟨0, ⟨#[]⟩, 0, 0, 0, 0⟩, ⟨4, ⟨#[]⟩, 0, -1, 0, 0⟩], bad_cell w 13 _ rfl, C_of_block _ (bad_at w 12 _ rfl) rfl (by decide), rfl, by decide, by kernel_rfl, tiny_b (by kernel_rfl)⟩
theorem bad_14 (w : World) : ∃ (A : Option Addr) (n : Nat) (l : List S35), (badWorld w).cell? ⟨w.heap.size + 17, 14, none⟩ = some (.slice A n n) ∧ Kd.C k35 (badWorld w) A l.length l ∧ l.length = n ∧ n ≤ 4 ∧ checkL l = 40 ∧ Tiny l :=
  ⟨some ⟨w.heap.size + 13, 0, none⟩, 3, [⟨0, ⟨#[]⟩, 0, 0, 0, 0⟩, ⟨1, ⟨#[]⟩, 0, 0, 0, 0⟩, ⟨5, ⟨#[]⟩, 0, 1, 1, 1⟩], bad_cell w 14 _ rfl, C_of_block _ (bad_at w 13 _ rfl) rfl (by decide), rfl, by decide, by kernel_rfl, tiny_b (by kernel_rfl)⟩
theorem bad_15 (w : World) : ∃ (A : Option Addr) (n : Nat) (l : List S35), (badWorld w).cell? ⟨w.heap.size + 17, 15, none⟩ = some (.slice A n n) ∧ Kd.C k35 (badWorld w) A l.length l ∧ l.length = n ∧ n ≤ 4 ∧ checkL l = 40 ∧ Tiny l :=
  ⟨some ⟨w.heap.size + 14, 0, none⟩, 4, [⟨0, ⟨#[]⟩, 0, 0, 0, 0⟩, ⟨1, ⟨#[]⟩, 0, 0, 0, 0⟩, ⟨4, ⟨#[]⟩, 0, 1, 0, 0⟩, ⟨5, ⟨#[]⟩, 0, 2, 2, 1⟩], bad_cell w 15 _ rfl, C_of_block _ (bad_at w 14 _ rfl) rfl (by decide), rfl, by decide, by kernel_rfl, tiny_b (by kernel_rfl)⟩
theorem bad_16 (w : World) : ∃ (A : Option Addr) (n : Nat) (l : List S35), (badWorld w).cell? ⟨w.heap.size + 17, 16, none⟩ = some (.slice A n n) ∧ Kd.C k35 (badWorld w) A l.length l ∧ l.length = n ∧ n ≤ 4 ∧ checkL l = 40 ∧ Tiny l :=
  ⟨some ⟨w.heap.size + 15, 0, none⟩, 4, [⟨0, ⟨#[]⟩, 0, 0, 0, 0⟩, ⟨1, ⟨#[]⟩, 0, 0, 0, 0⟩, ⟨4, ⟨#[]⟩, 0, 1, 0, 0⟩, ⟨6, ⟨#[]⟩, 0, 2, 1, 2⟩], bad_cell w 16 _ rfl, C_of_block _ (bad_at w 15 _ rfl) rfl (by decide), rfl, by decide, by kernel_rfl, tiny_b (by kernel_rfl)⟩
theorem bad_17 (w : World) : ∃ (A : Option Addr) (n : Nat) (l : List S35), (badWorld w).cell? ⟨w.heap.size + 17, 17, none⟩ = some (.slice A n n) ∧ Kd.C k35 (badWorld w) A l.length l ∧ l.length = n ∧ n ≤ 4 ∧ checkL l = 40 ∧ Tiny l :=
  ⟨some ⟨w.heap.size + 16, 0, none⟩, 3, [⟨0, ⟨#[]⟩, 0, 0, 0, 0⟩, ⟨1, ⟨#[]⟩, 0, 0, 0, 0⟩, ⟨4, ⟨#[]⟩, 0, 1, 1, 0⟩], bad_cell w 17 _ rfl, C_of_block _ (bad_at w 16 _ rfl) rfl (by decide), rfl, by decide, by kernel_rfl, tiny_b (by kernel_rfl)⟩
theorem bad_row (w : World) : BadRow (badWorld w) (w.heap.size + 17) := fun j hj => by
  match j, hj with
  | 0, _ => exact ⟨none, 0, [], bad_cell w 0 _ rfl, ⟨rfl, by decide, fun h => absurd h (by decide)⟩, rfl, by decide, by kernel_rfl, fun x hx => by cases hx⟩
  | 1, _ => exact bad_1 w
  | 2, _ => exact bad_2 w
  | 3, _ => exact bad_3 w
  | 4, _ => exact bad_4 w
  | 5, _ => exact bad_5 w
  | 6, _ => exact bad_6 w
  | 7, _ => exact bad_7 w
  | 8, _ => exact bad_8 w
  | 9, _ => exact bad_9 w
  | 10, _ => exact bad_10 w
  | 11, _ => exact bad_11 w
  | 12, _ => exact bad_12 w
  | 13, _ => exact bad_13 w
  | 14, _ => exact bad_14 w
  | 15, _ => exact bad_15 w
  | 16, _ => exact bad_16 w
  | 17, _ => exact bad_17 w
  | j + 18, h => exact absurd h (by omega)
end Go.Proofs.YtkhigagkgpfpfaaDoor.Ext
