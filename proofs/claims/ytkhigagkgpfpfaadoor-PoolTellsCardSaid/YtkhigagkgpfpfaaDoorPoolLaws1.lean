/- The law PoolTells, walked. -/
import Derived.Test.YtkhigagkgpfpfaaDoorPoolWorks
set_option linter.unusedVariables false
set_option linter.unusedSimpArgs false
namespace Go.Proofs.YtkhigagkgpfpfaaDoor.Ext
open Go.RowKit Go.Lib Go.Proofs.YtkhigagkgpfpfaaDoorW.PrintWords Go.Proofs.YtkhigagkgpfpfaaDoorW.PrintLast Go.Proofs.YtkhigagkgpfpfaaDoorW.PrintMore Go.Proofs.YtkhigagkgpfpfaaDoor.PLeb
attribute [local go_sem] max2_int min2_int max_two min_two max_three min_three max_four min_four

set_option maxHeartbeats 16000000 in
set_option maxRecDepth 100000 in
theorem poolTells_walk (a : Option Addr) (len cap : Nat) (l : List S35) (i k : Int) (w : World) (hr : Kd.C k35 w a l.length l) (hn : l.length = len) (hc : len ≤ cap) (wi : (Lit.int .i64 i).wf = true) (wk : (Lit.int .i64 k).wf = true) (hT : Tabs w) (hRd : Rds w) :
    Calls Tryd.prog 8 #[.slice a len cap, .int .i64 i, .int .i64 k] w fun e w' => e = .returned (.bool true) ∧ Below w.heap.size w w' := by
  have HB := Aside0.mk (Below.refl w.heap.size w)
  have HT := Aside0.mk hT
  have HRD := Aside0.mk hRd
  have HC := Aside0.mk hr
  have HN := Aside0.mk hn
  have HL := Aside0.mk hc
  obtain ⟨t1, e1, h1⟩ : ∃ t e, textP l i = (t, e) := ⟨_, _, rfl⟩
  obtain ⟨t2, e2, h2⟩ : ∃ t e, numP l i k = (t, e) := ⟨_, _, rfl⟩
  obtain ⟨t3, e3, h3⟩ : ∃ t e, classP l i = (t, e) := ⟨_, _, rfl⟩
  obtain ⟨t4, u4, v4, e4, h4⟩ : ∃ t u v e, refP l i k = (t, u, v, e) := ⟨_, _, _, _, rfl⟩
  have H1 := Aside0.mk h1
  have H2 := Aside0.mk h2
  have H3 := Aside0.mk h3
  have H4 := Aside0.mk h4
  clear hT hRd hr hn hc h1 h2 h3 h4
  go_enter Tryd.func8, Tryd.ntmps8
  go_wp2_with fail
  refine (text_c H1.out HC.out HN.out HL.out).mono ?_
  rintro y w1 ⟨rfl, hb⟩
  have n1_ := Aside0.mk (Kd.C_below HC.out hb); clear HC; have HC := n1_; clear n1_
  have n0_ := Aside0.mk (below_step HB.out hb); clear HB hb; have HB := n0_; clear n0_
  go_wp2_with fail
  refine (rtext_c H1.out HC.out HN.out HL.out).mono ?_
  rintro y w2 ⟨rfl, hb⟩
  have n1_ := Aside0.mk (Kd.C_below HC.out hb); clear HC; have HC := n1_; clear n1_
  have n0_ := Aside0.mk (below_step HB.out hb); clear HB hb; have HB := n0_; clear n0_
  go_wp2_with fail
  refine (num_c H2.out HC.out HN.out HL.out).mono ?_
  rintro y w3 ⟨rfl, hb⟩
  have n1_ := Aside0.mk (Kd.C_below HC.out hb); clear HC; have HC := n1_; clear n1_
  have n0_ := Aside0.mk (below_step HB.out hb); clear HB hb; have HB := n0_; clear n0_
  go_wp2_with fail
  refine (rnum_c H2.out HC.out HN.out HL.out).mono ?_
  rintro y w4 ⟨rfl, hb⟩
  have n1_ := Aside0.mk (Kd.C_below HC.out hb); clear HC; have HC := n1_; clear n1_
  have n0_ := Aside0.mk (below_step HB.out hb); clear HB hb; have HB := n0_; clear n0_
  go_wp2_with fail
  refine (class_c H3.out HC.out HN.out HL.out).mono ?_
  rintro y w5 ⟨rfl, hb⟩
  have n1_ := Aside0.mk (Kd.C_below HC.out hb); clear HC; have HC := n1_; clear n1_
  have n0_ := Aside0.mk (below_step HB.out hb); clear HB hb; have HB := n0_; clear n0_
  go_wp2_with fail
  refine (rclass_c H3.out HC.out HN.out HL.out).mono ?_
  rintro y w6 ⟨rfl, hb⟩
  have n1_ := Aside0.mk (Kd.C_below HC.out hb); clear HC; have HC := n1_; clear n1_
  have n0_ := Aside0.mk (below_step HB.out hb); clear HB hb; have HB := n0_; clear n0_
  go_wp2_with fail
  refine (ref_c H4.out HC.out HN.out HL.out).mono ?_
  rintro y w7 ⟨rfl, hb⟩
  have n1_ := Aside0.mk (Kd.C_below HC.out hb); clear HC; have HC := n1_; clear n1_
  have n0_ := Aside0.mk (below_step HB.out hb); clear HB hb; have HB := n0_; clear n0_
  go_wp2_with fail
  refine (rref_c H4.out HC.out HN.out HL.out).mono ?_
  rintro y w8 ⟨rfl, hb⟩
  have n1_ := Aside0.mk (Kd.C_below HC.out hb); clear HC; have HC := n1_; clear n1_
  have n0_ := Aside0.mk (below_step HB.out hb); clear HB hb; have HB := n0_; clear n0_
  go_wp2_with fail
  refine (works_calls w8 (HT.out.below HB.out) (HRD.out.from HB.out HRD.out.lt)).mono ?_
  rintro y w9 ⟨rfl, hb⟩
  have n0_ := Aside0.mk (below_step HB.out hb); clear HB hb; have HB := n0_; clear n0_
  go_wp2
  go_ret
  exact ⟨rfl, HB.out⟩
end Go.Proofs.YtkhigagkgpfpfaaDoor.Ext
