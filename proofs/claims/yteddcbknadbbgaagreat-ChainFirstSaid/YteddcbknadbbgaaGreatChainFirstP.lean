/- Of several things that are wrong with an entry the first one is told: for any mask and seed, with any arguments. -/
import Derived.Test.YteddcbknadbbgaaGreatRows
import Derived.Test.YteddcbknadbbgaaGreatT5
import Derived.Test.YteddcbknadbbgaaGreatAl2
set_option linter.unusedVariables false
set_option maxRecDepth 100000
namespace Go.Proofs.YteddcbknadbbgaaGreat
open Go Go.ChangeShapes Go.WideShapes Go.ChangeAt Go.RowKit Go.Al
theorem chainFirst_own:ownKnob Tryz.prog.godebug=none:=by kernel_rfl
theorem chainFirst_laid:laidOutB Tryz.prog=true:=by kernel_rfl
theorem chainFirst_lifted (os:Os) (started:os.Started) (H:Type) (enc:TypeId×Value→H) :
 ReturnsInHanded {} Tryz.checked os 7 .any (Rows.chainFirstSpec.pre6 enc Tryz.prog Tryz.f7 Rows.chainFirstRow.domain false) (Rows.chainFirstSpec.post enc Tryz.prog Tryz.f7 false true false false):=by
 refine returnsInHanded_of_change (C:=Tryz.checked) chainFirst_own started (by kernel_rfl) (show Tryz.prog.funcs[7]? = some Tryz.f7 by kernel_rfl)
  (ChangeSpec.witness6 (enc:=enc) (C:=Tryz.checked) false ⟨#[],#[.int .i64 0,.string ⟨#[]⟩],[]⟩ 8 (by kernel_rfl) (by kernel_rfl) (by kernel_rfl) (by kernel_rfl)) ?_
 intro W base args ds gs before hval hW hcnd _
 have hW':=hW
 obtain ⟨p,q,hA,hV,rfl,hfz,hnd⟩:=hW
 obtain ⟨rfl,rfl⟩:=trodVars_none hV
 have hps:Tryz.f7.params.toList=[3,9]:=by kernel_rfl
 rw[hps] at hA
 obtain ⟨v0,vs0,d0,ds0,p0,q0,hargs,rfl,rfl,h0,r0⟩:=trodAll_cons hA
 obtain ⟨v1,vs1,d1,ds1,p1,q1,rfl,rfl,rfl,h1,r1⟩:=trodAll_cons r0
 obtain ⟨rfl,rfl,rfl⟩:=trodAll_nil r1
 obtain rfl:args = #[v0,v1]:=by cases args;simp_all
 obtain ⟨a0,rfl,w0⟩:=arg_flat Tryz.tysOk (t:=3) (ti:=⟨.k,.i,8,true⟩) (by kernel_rfl) rfl rfl (hval 0 3 v0 (by kernel_rfl) rfl) h0
 obtain ⟨a1,rfl,w1⟩:=arg_flat Tryz.tysOk (t:=9) (ti:=⟨.str,.s,16,true⟩) (by kernel_rfl) rfl rfl (hval 1 9 v1 (by kernel_rfl) rfl) h1
 refine law_tail (P:=Tryz.prog) (F:=7) (fn:=Tryz.f7) (s:=Rows.chainFirstSpec) (tb:=4) chainFirst_laid ?_ (by kernel_rfl) (by kernel_rfl) rfl (by kernel_rfl) (by kernel_rfl) (by kernel_rfl) rfl hW' ?_
 ·rw[hps];intro t ht
  simp only [List.mem_cons,List.not_mem_nil,or_false] at ht
  rcases ht with rfl | rfl <;> exact ⟨by kernel_rfl,of_decide_eq_true (by kernel_rfl)⟩
 ·exact Tryz.law20_ChainFirst.s (wrong:=a0) (K:=fun b h'=>b=true∧Keep [] W.heap h') fun h' hk=>⟨rfl,hk⟩
theorem chainFirst_over:Rows.chainFirstRow.holds Tryz.pinned (OpenSpec.ofChange Rows.chainFirstSpec):=
 OpenClaim.holds_of_wide 7 Tryz.f7 rfl rfl rfl rfl rfl rfl rfl ⟨rfl,rfl,rfl,rfl,rfl⟩ rfl rfl rfl rfl rfl (by kernel_rfl) (by kernel_rfl) (by kernel_rfl)
  (of_decide_eq_true (by kernel_rfl)) (by unfold Func.isWrapper;first | (rw[if_pos (by decide +kernel)];kernel_rfl) | (rw[if_neg (by decide +kernel)];exact ⟨rfl,rfl⟩))
  (fun os started H enc _=>chainFirst_lifted os started H enc)
theorem chainFirst_proved:Rows.ChainFirstSaid:=chainFirst_over
#print axioms chainFirst_proved
end Go.Proofs.YteddcbknadbbgaaGreat
