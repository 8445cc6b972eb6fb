/- A log of entries, right and wrong ones, signed: the program's chain answers each as the document's does, and their logs are the same: for any list of acts and seed, with any arguments. -/
import Derived.Test.YteddcbknadbbgaaGreatRows
import Derived.Test.YteddcbknadbbgaaGreatT5
import Derived.Test.YteddcbknadbbgaaGreatAl2
set_option linter.unusedVariables false
set_option maxRecDepth 100000
namespace Go.Proofs.YteddcbknadbbgaaGreat
open Go Go.ChangeShapes Go.WideShapes Go.ChangeAt Go.RowKit Go.Al
theorem chainActs_own:ownKnob Tryz.prog.godebug=none:=by kernel_rfl
theorem chainActs_laid:laidOutB Tryz.prog=true:=by kernel_rfl
theorem chainActs_lifted (os:Os) (started:os.Started) (H:Type) (enc:TypeId×Value→H) :
 ReturnsInHanded {} Tryz.checked os 3 .any (Rows.chainActsSpec.pre6 enc Tryz.prog Tryz.f3 Rows.chainActsRow.domain false) (Rows.chainActsSpec.post enc Tryz.prog Tryz.f3 false true false false):=by
 refine returnsInHanded_of_change (C:=Tryz.checked) chainActs_own started (by kernel_rfl) (show Tryz.prog.funcs[3]? = some Tryz.f3 by kernel_rfl)
  (ChangeSpec.witness6 (enc:=enc) (C:=Tryz.checked) false ⟨#[],#[.slice none 0 0,.string ⟨#[]⟩],[]⟩ 8 (by kernel_rfl) (by kernel_rfl) (by kernel_rfl) (by kernel_rfl)) ?_
 intro W base args ds gs before hval hW hcnd _;have hW':=hW;obtain ⟨p,q,hA,hV,rfl,hfz,hnd⟩:=hW;obtain ⟨rfl,rfl⟩:=trodVars_none hV;have hps:Tryz.f3.params.toList=[22,9]:=by kernel_rfl
 rw[hps] at hA;obtain ⟨v0,vs0,d0,ds0,p0,q0,hargs,rfl,rfl,h0,r0⟩:=trodAll_cons hA;obtain ⟨v1,vs1,d1,ds1,p1,q1,rfl,rfl,rfl,h1,r1⟩:=trodAll_cons r0;obtain ⟨rfl,rfl,rfl⟩:=trodAll_nil r1;obtain rfl:args = #[v0,v1]:=by cases args;simp_all
 obtain ⟨s0,xs0,rfl,lc0,lm0,g0,w0⟩:=arg_slice Tryz.tysOk (t:=22) (e:=41) (by_:=24) (pl:=false) (ti:=⟨.struct [(0,3),(1,3),(2,3),(3,3)],(.ag (.pr .i (.pr .i (.pr .i (.pr .i .un))))),32,true⟩) (by kernel_rfl) (by kernel_rfl) rfl rfl (by decide) (hval 0 22 v0 (by kernel_rfl) rfl) h0;obtain ⟨a1,rfl,w1⟩:=arg_flat Tryz.tysOk (t:=9) (ti:=⟨.str,.s,16,true⟩) (by kernel_rfl) rfl rfl (hval 1 9 v1 (by kernel_rfl) rfl) h1;refine law_tail (P:=Tryz.prog) (F:=3) (fn:=Tryz.f3) (s:=Rows.chainActsSpec) (tb:=4) chainActs_laid ?_ (by kernel_rfl) (by kernel_rfl) rfl (by kernel_rfl) (by kernel_rfl) (by kernel_rfl) rfl hW' ?_
 ·rw[hps];intro t ht;simp only [List.mem_cons,List.not_mem_nil,or_false] at ht;rcases ht with rfl | rfl <;> exact ⟨by kernel_rfl,of_decide_eq_true (by kernel_rfl)⟩
 ·exact Tryz.ZBz.s (acts:=xs0) (seed:=a1) g0 (K:=fun b h'=>b=true∧Keep [] W.heap h') fun h' hk=>⟨rfl,hk⟩
theorem chainActs_over:Rows.chainActsRow.holds Tryz.pinned (OpenSpec.ofChange Rows.chainActsSpec):=
 OpenClaim.holds_of_wide 3 Tryz.f3 rfl rfl rfl rfl rfl rfl rfl ⟨rfl,rfl,rfl,rfl,rfl⟩ rfl rfl rfl rfl rfl (by kernel_rfl) (by kernel_rfl) (by kernel_rfl)
  (of_decide_eq_true (by kernel_rfl)) (by unfold Func.isWrapper;first | (rw[if_pos (by decide +kernel)];kernel_rfl) | (rw[if_neg (by decide +kernel)];exact ⟨rfl,rfl⟩))
  (fun os started H enc _=>chainActs_lifted os started H enc)
theorem chainActs_proved:Rows.ChainActsSaid:=chainActs_over
#print axioms chainActs_proved
end Go.Proofs.YteddcbknadbbgaaGreat
