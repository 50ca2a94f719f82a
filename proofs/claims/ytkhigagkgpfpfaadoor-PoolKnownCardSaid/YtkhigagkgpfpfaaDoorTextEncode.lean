/- The Go functions text.Encode and text.Len, walked: a text's bytes; what is no text is refused. -/
import Derived.Test.YtkhigagkgpfpfaaDoorPAll
import Derived.Test.YtkhigagkgpfpfaaDoorShelf
import Derived.Test.YtkhigagkgpfpfaaDoorTextMath
import Derived.Lib.OthersKept
import Derived.LoopTactic
set_option linter.unusedVariables false
set_option linter.unusedSimpArgs false
namespace Go.Proofs.YtkhigagkgpfpfaaDoor.Ext
open Go.RowKit Go.Lib Go.Proofs.YtkhigagkgpfpfaaDoorW.PrintWords Go.Proofs.YtkhigagkgpfpfaaDoorW.PrintLast Go.Proofs.YtkhigagkgpfpfaaDoorW.PrintMore Go.Proofs.YtkhigagkgpfpfaaDoor.PLeb
attribute [local go_sem] max2_int min2_int max_two min_two max_three min_three max_four min_four

/-- unicode/utf8's two tables as their initialisers lay them -/
def Tabs (w : World) : Prop := Lib.Utf8Tabs 1 2 w
theorem Tabs.below {w w1 : World} (h : Tabs w) (hb : Below w.heap.size w w1) : Tabs w1 := Utf8Tabs_below h hb
theorem valid_calls (s : ByteArray) (w : World) (hs : s.size ≤ 9223372036854775807) (hT : Tabs w) :
    Calls Tryd.prog 64 #[.string s] w fun e w' => e = .returned (.bool (Lib.validD s.data.toList)) ∧ Below w.heap.size w w' := Any.utf8_ValidString Tryd.lays196 s w hs hT
theorem bits32 : ∀ (i : Nat), i ≤ 31 → ∀ x : Int, 0 ≤ x → x < 2147483648 → bits .and .i32 x (2 ^ i - 1) = x % 2 ^ i := fun i hi x h0 h1 => bits_mask .i32 31 (by decide) wraps_i32 i hi x h0 h1
theorem i32_and63 (x : Int) (h0 : 0 ≤ x) (h1 : x < 2147483648) : bits .and .i32 x 63 = x % 64 := bits32 6 (by omega) x h0 h1
theorem i32_and1023 (x : Int) (h0 : 0 ≤ x) (h1 : x < 2147483648) : bits .and .i32 x 1023 = x % 1024 := bits32 10 (by omega) x h0 h1
theorem i32_orj (i : Nat) (hi : i ≤ 31) (x y : Int) (h0 : 0 ≤ x) (h : x % 2 ^ i = 0) (h1 : x < 2147483648) (h2 : 0 ≤ y) (h3 : y < 2 ^ i) (h4 : y < 2147483648 := by omega) : bits .or .i32 x y = x + y :=
  bits_join .i32 31 (by decide) wraps_i32 i x y h0 h h1 h2 h3 h4
theorem put3_f (l : List Int) (c : Int) (h0 : 0 ≤ c) (h1 : c ≤ 65535) (hl : l.length ≤ 140737488355000) : text_put3.f l c = some (l ++ m3 c) := by
  unfold text_put3.f
  have e0 : bits .or .i32 224 (c / 4096) = 224 + c / 4096 := i32_orj 4 (by omega) _ _ (by omega) (by omega) (by omega) (by omega) (by omega)
  have e1 : bits .and .i32 (c / 64) 63 = c / 64 % 64 := i32_and63 _ (by omega) (by omega)
  have e2 : bits .or .i32 128 (c / 64 % 64) = 128 + c / 64 % 64 := i32_orj 6 (by omega) _ _ (by omega) (by omega) (by omega) (by omega) (by omega)
  have e3 : bits .and .i32 c 63 = c % 64 := i32_and63 _ (by omega) (by omega)
  have e4 : bits .or .i32 128 (c % 64) = 128 + c % 64 := i32_orj 6 (by omega) _ _ (by omega) (by omega) (by omega) (by omega) (by omega)
  simp only [e0, e1, e2, e3, e4, Option.bind_some, List.length_cons, List.length_nil]
  rw [if_pos (by omega), show (224 + c / 4096) % 256 = 224 + c / 4096 by omega, show (128 + c / 64 % 64) % 256 = 128 + c / 64 % 64 by omega, show (128 + c % 64) % 256 = 128 + c % 64 by omega]
  rfl
theorem put_f (l : List Int) (c : Int) (hc : VR c) (hl : l.length ≤ 140737488354000) : text_put.f l c = some (l ++ mu6 c) := by
  unfold VR at hc
  unfold text_put.f mu6
  by_cases h1 : c > 65535
  · have e0 : wrap32 (c - 65536) = c - 65536 := by unfold wrap32; omega
    have e1 : bits .or .i32 55296 ((c - 65536) / 1024) = 55296 + (c - 65536) / 1024 := i32_orj 10 (by omega) _ _ (by omega) (by omega) (by omega) (by omega) (by omega)
    have e2 : bits .and .i32 (c - 65536) 1023 = (c - 65536) % 1024 := i32_and1023 _ (by omega) (by omega)
    have e3 : bits .or .i32 56320 ((c - 65536) % 1024) = 56320 + (c - 65536) % 1024 := i32_orj 10 (by omega) _ _ (by omega) (by omega) (by omega) (by omega) (by omega)
    rw [if_pos h1, e0, e1, e2, e3, put3_f l _ (by omega) (by omega) (by omega), Option.bind_some, put3_f _ _ (by omega) (by omega) (by simp [m3]; omega), Option.bind_some, if_neg (by omega), if_neg (by omega), if_neg (by omega), List.append_assoc]
  · rw [if_neg h1]
    by_cases h2 : c > 2047
    · rw [if_pos h2, put3_f l _ (by omega) (by omega) (by omega), Option.bind_some, if_neg (by omega), if_neg (by omega), if_pos (by omega)]
    · have e1 : bits .or .i32 192 (c / 64) = 192 + c / 64 := i32_orj 6 (by omega) _ _ (by omega) (by omega) (by omega) (by omega) (by omega)
      have e2 : bits .and .i32 c 63 = c % 64 := i32_and63 _ (by omega) (by omega)
      have e3 : bits .or .i32 128 (c % 64) = 128 + c % 64 := i32_orj 6 (by omega) _ _ (by omega) (by omega) (by omega) (by omega) (by omega)
      rw [if_neg h2, e1, e2, e3]
      simp only [Option.bind_some, List.length_cons, List.length_nil]
      rw [show (192 + c / 64) % 256 = 192 + c / 64 by omega, show (128 + c % 64) % 256 = 128 + c % 64 by omega, show c % 256 = if c > 127 then c % 256 else c by split <;> omega]
      by_cases h3 : c = 0
      · rw [if_pos h3, if_pos (by omega), if_neg (by omega), if_pos (by omega)]
      · rw [if_neg h3]
        by_cases h4 : c > 127
        · rw [if_pos h4, if_pos (by omega), if_neg (by omega), if_pos (by omega)]
        · rw [if_neg h4, if_pos (by omega), if_neg h4, if_pos (by omega)]

def EncInv (cs : List Int) (done : List Int) (pos : Nat) (s : ByteArray) : Prop := ∃ todo, cs = done ++ todo ∧ pos = (us done).length ∧ s.data.toList.drop pos = us todo
set_option maxHeartbeats 4000000 in
set_option maxRecDepth 100000 in
theorem encode_bad (s : ByteArray) (w : World) (hs : s.size ≤ 9223372036854775807) (hT : Tabs w) (hv : Lib.validD s.data.toList = false) :
    Calls Tryd.prog 49 #[.string s] w fun e w' => e = .returned (.tuple #[.slice none 0 0, .int .i64 20]) ∧ Below w.heap.size w w' := by
  have HV := Aside0.mk (valid_calls s w hs hT)
  rw [hv] at HV
  clear hv
  go_enter Tryd.func49, Tryd.ntmps49
  go_wp2_with fail
  refine HV.out.mono ?_
  rintro e w1 ⟨rfl, hb⟩
  have HB := Aside0.mk hb; clear hb
  go_wp2
  go_ret2
  exact ⟨rfl, HB.out⟩
theorem size_us {s : ByteArray} {cs : List Int} (h : s.data.toList = us cs) : s.size = (us cs).length := by rw [← h, Array.length_toList]; rfl
theorem EncInv.more {cs done : List Int} {pos : Nat} {s : ByteArray} (h : EncInv cs done pos s) (hcs : ∀ c ∈ cs, VR c) (hp : pos < s.size) (he : s.data.toList = us cs) :
    ∃ c, VR c ∧ Utf8.decode s pos = (c.toNat, (encodeRune c).length) ∧ EncInv cs (done ++ [c]) (pos + (encodeRune c).length) s := by
  obtain ⟨todo, h1, h2, h3⟩ := h
  have hl := congrArg List.length h3
  rw [List.length_drop, Array.length_toList] at hl
  have hl2 : s.data.size = s.size := rfl
  cases todo with
  | nil => simp only [us, List.length_nil] at hl; omega
  | cons c t =>
    have hc : VR c := hcs c (by rw [h1]; simp)
    refine ⟨c, hc, ?_, t, by rw [h1, List.append_assoc]; rfl, by rw [us_append, List.length_append, h2]; simp [us], ?_⟩
    · rw [← decodeL_drop, h3]; simp only [us]; exact dec_enc c (us t) hc
    · rw [← List.drop_drop, h3]; simp only [us]; rw [List.drop_left]
theorem EncInv.done {cs done : List Int} {pos : Nat} {s : ByteArray} (h : EncInv cs done pos s) (hp : ¬ pos < s.size) : done = cs := by
  obtain ⟨todo, h1, h2, h3⟩ := h
  have hl := congrArg List.length h3
  rw [List.length_drop, Array.length_toList] at hl
  have hl2 : s.data.size = s.size := rfl
  have := us_len todo
  have : todo = [] := List.eq_nil_of_length_eq_zero (by omega)
  rw [h1, this, List.append_nil]
theorem EncInv.len {cs done : List Int} {pos : Nat} {s : ByteArray} (h : EncInv cs done pos s) : done.length ≤ cs.length := by
  obtain ⟨todo, h1, _⟩ := h
  rw [h1, List.length_append]; omega
set_option maxHeartbeats 8000000 in
set_option maxRecDepth 100000 in
theorem encode_good (cs : List Int) (s : ByteArray) (w : World) (hcs : ∀ c ∈ cs, VR c) (he : s.data.toList = us cs) (hm : cs.length ≤ 17592186044416) (hT : Tabs w) :
    Calls Tryd.prog 49 #[.string s] w fun e w' => ∃ v0_ : Value, e = .returned (.tuple #[v0_, .int .i64 0]) ∧ Kd.R (Kd.int .u8) 5 w' w.heap.size (fun _ => True) v0_ (muts cs) ∧ Below w.heap.size w w' := by
  have hul := us_len cs
  have hsz := size_us he
  have hv : Lib.validD s.data.toList = true := by rw [he]; exact valid_us cs hcs
  have HV := Aside0.mk (valid_calls s w (by omega) hT)
  rw [hv] at HV
  have HE := Aside0.mk he
  have HC := Aside0.mk hcs
  have HM := Aside0.mk hm
  clear hv he hcs hul hsz hm
  go_enter Tryd.func49, Tryd.ntmps49
  go_wp2_with fail
  refine HV.out.mono ?_
  rintro e w0 ⟨rfl, hb⟩
  have HB0 := Aside0.mk hb
  have hB := hb.size
  clear hb HV
  go_wp2
  go_loopw [4] (fun v wr => ∃ (pos : Nat) (dn : List Int) (vv : Value), v = vv ∧ Aside0 (Kd.R (Kd.int .u8) 5 wr w0.heap.size (fun k => w0.heap.size < k) vv (muts dn)) ∧ Aside0 (wr.heap[w0.heap.size]? = some (.stringIter s pos)) ∧ Aside0 (Below w0.heap.size w0 wr) ∧ Aside0 (EncInv cs dn pos s)) (fun _ wr => s.size - wr.iterPos w0.heap.size)
  case atStart =>
    refine ⟨0, [], _, rfl, ⟨Kd.R_nil _ _ _ _ _⟩, ⟨World.iter_heap w0 s 0⟩, ⟨below_alloc (Below.refl _ _) _⟩, ⟨cs, rfl, rfl, ?_⟩⟩
    rw [List.drop_zero]; exact HE.out
  case round =>
    obtain ⟨pos, dn, v, hv, HO, HI, HB, HX⟩ := hrel
    have hv' := hv.symm
    subst hv'
    have hsz : w0.heap.size < wr.heap.size := (Array.getElem?_eq_some_iff.1 HI.out).1
    have hip : wr.iterPos w0.heap.size = pos := by simp only [World.iterPos, HI.out]
    by_cases hp : pos < s.size
    · have hnx : ∀ ty, (Instr.next (.pointer (some ⟨w0.heap.size, 0, none⟩)) true ty).run Tryd.prog wr = _ := fun ty => Lib.run_next_any_at wr w0.heap.size s pos ty HI.out hp
      obtain ⟨c, hc, hd, HX2⟩ := HX.out.more HC.out hp HE.out
      have hce := enc_pos c
      rw [hd] at hnx
      simp only at hnx
      have hcc : ((c.toNat : Nat) : Int) = c := by unfold VR at hc; omega
      rw [hcc] at hnx
      have HI1 := Aside0.mk (Lib.iterAt_heap wr w0.heap.size s pos (pos + (encodeRune c).length) HI.out)
      have HB1 := Aside0.mk (Lib.below_iterAt HB.out (k := w0.heap.size) (Nat.le_refl _) s (pos + (encodeRune c).length))
      have HO1 := Aside0.mk (Kd.R_step HO.out (w1 := wr.iterAt w0.heap.size s (pos + (encodeRune c).length)) (fun k hk _ => Lib.iterAt_other wr w0.heap.size k s _ (by omega)))
      have hdl := HX.out.len
      have hml := muts_len dn
      have HP := Aside0.mk (put_f (muts dn) c hc (by have := HM.out; omega))
      have HX2 := Aside0.mk HX2
      have hsz1 : w0.heap.size < (wr.iterAt w0.heap.size s (pos + (encodeRune c).length)).heap.size := by rw [Lib.iterAt_size]; exact hsz
      clear hc hd hcc hdl hml
      generalize wr.iterAt w0.heap.size s (pos + (encodeRune c).length) = wi at *
      go_wp2_with fail
      refine (text_put.calls (fun k => w0.heap.size < k) v (muts dn) c _ w0 wi HB1.out HO1.out HP.out).mono ?_
      rintro e w2 ⟨v2, rfl, ho, hb, hk⟩
      have HO2 := Aside0.mk (Kd.R_mono (ok' := fun k => w0.heap.size < k) ho (fun k hk => hk.elim (fun h => h) (fun h => by omega)))
      have HB2 := Aside0.mk hb
      have HI2 := Aside0.mk (show w2.heap[w0.heap.size]? = some (.stringIter s (pos + (encodeRune c).length)) by rw [← HI1.out]; exact hk.2 _ hsz1 (by simp))
      clear ho hb hk
      go_wp2
      go_roundw
      case rel =>
        refine ⟨pos + (encodeRune c).length, dn ++ [c], _, rfl, ?_, HI2, HB2, HX2⟩
        rw [muts_append]; simp only [muts, List.append_nil]; exact HO2
      case measure =>
        simp only [World.iterPos, HI2.out, HI.out]
        omega
    · have hnx : ∀ ty, (Instr.next (.pointer (some ⟨w0.heap.size, 0, none⟩)) true ty).run Tryd.prog wr = _ := fun ty => Lib.run_next_end_at wr w0.heap.size s pos ty HI.out hp
      have e := HX.out.done hp
      subst e
      go_wp2
      go_ret2
      refine ⟨_, rfl, ?_, below_then HB0.out hB HB.out⟩
      exact Kd.R_lower (Kd.R_mono HO.out (fun _ _ => trivial)) hB
end Go.Proofs.YtkhigagkgpfpfaaDoor.Ext
