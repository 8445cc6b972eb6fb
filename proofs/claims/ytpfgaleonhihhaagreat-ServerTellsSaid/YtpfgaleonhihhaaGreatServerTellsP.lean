/- For all picks and numbers the law ServerTells answers true: objects are told as they were put, in the row in which they are wanted; those that are not there are told empty. -/
import Derived.Test.YtpfgaleonhihhaaGreatRows
import Derived.Test.YtpfgaleonhihhaaGreatT5
import Derived.Test.YtpfgaleonhihhaaGreatAl2
set_option linter.unusedVariables false
set_option maxRecDepth 100000
namespace Go.Proofs.YtpfgaleonhihhaaGreat
open Go Go.ChangeShapes Go.WideShapes Go.ChangeAt Go.RowKit Go.Al
theorem serverTells_own:ownKnob Tryz.prog.godebug=none:=by kernel_rfl
theorem serverTells_laid:laidOutB Tryz.prog=true:=by kernel_rfl
theorem serverTells_lifted (os:Os) (started:os.Started) (H:Type) (enc:TypeId×Value→H) :
 ReturnsInHanded {} Tryz.checked os 5 .any (Rows.serverTellsSpec.pre6 enc Tryz.prog Tryz.f5 Rows.serverTellsRow.domain false) (Rows.serverTellsSpec.post enc Tryz.prog Tryz.f5 false true false false):=by
 refine returnsInHanded_of_change (C:=Tryz.checked) serverTells_own started (by kernel_rfl) (show Tryz.prog.funcs[5]? = some Tryz.f5 by kernel_rfl)
  (ChangeSpec.witness6 (enc:=enc) (C:=Tryz.checked) false ⟨#[],#[.slice none 0 0,.int .i64 0],[]⟩ 8 (by kernel_rfl) (by kernel_rfl) (by kernel_rfl) (by kernel_rfl)) ?_
 intro W base args ds gs before hval hW hcnd _;have hW':=hW;obtain ⟨p,q,hA,hV,rfl,hfz,hnd⟩:=hW;obtain ⟨rfl,rfl⟩:=trodVars_none hV;have hps:Tryz.f5.params.toList=[29,3]:=by kernel_rfl
 rw[hps] at hA;obtain ⟨v0,vs0,d0,ds0,p0,q0,hargs,rfl,rfl,h0,r0⟩:=trodAll_cons hA;obtain ⟨v1,vs1,d1,ds1,p1,q1,rfl,rfl,rfl,h1,r1⟩:=trodAll_cons r0;obtain ⟨rfl,rfl,rfl⟩:=trodAll_nil r1;obtain rfl:args = #[v0,v1]:=by cases args;simp_all
 obtain ⟨s0,xs0,rfl,lc0,lm0,g0,w0⟩:=arg_slice Tryz.tysOk (t:=29) (e:=3) (by_:=24) (pl:=false) (ti:=⟨.k,.i,8,true⟩) (by kernel_rfl) (by kernel_rfl) rfl rfl (by decide) (hval 0 29 v0 (by kernel_rfl) rfl) h0;obtain ⟨a1,rfl,w1⟩:=arg_flat Tryz.tysOk (t:=3) (ti:=⟨.k,.i,8,true⟩) (by kernel_rfl) rfl rfl (hval 1 3 v1 (by kernel_rfl) rfl) h1;refine law_tail (P:=Tryz.prog) (F:=5) (fn:=Tryz.f5) (s:=Rows.serverTellsSpec) (tb:=4) serverTells_laid ?_ (by kernel_rfl) (by kernel_rfl) rfl (by kernel_rfl) (by kernel_rfl) (by kernel_rfl) rfl hW' ?_
 ·rw[hps];intro t ht;simp only [List.mem_cons,List.not_mem_nil,or_false] at ht;rcases ht with rfl | rfl <;> exact ⟨by kernel_rfl,of_decide_eq_true (by kernel_rfl)⟩
 ·exact Tryz.ZBM.s (xs:=xs0) (more:=a1) g0 (K:=fun b h'=>b=true∧Keep [] W.heap h') fun h' hk=>⟨rfl,hk⟩
theorem serverTells_f0:laidOutB Tryz.pinned.checked.prog=true:=by kernel_rfl
theorem serverTells_f1:mapsRowed Tryz.pinned.checked.prog=true:=by kernel_rfl
theorem serverTells_f2:(Rows.serverTellsRow.inPlace == Tryz.pinned.checked.prog.inPlace 5)=true:=by kernel_rfl
theorem serverTells_f3:(Rows.serverTellsRow.unfollowed == Tryz.pinned.checked.prog.unfollowed 5)=true:=by kernel_rfl
theorem serverTells_f4:(Rows.serverTellsRow.recurses == Tryz.pinned.checked.prog.recurses 5)=true:=by kernel_rfl
theorem serverTells_f5:(Rows.serverTellsRow.named == Tryz.pinned.checked.prog.varsNamed 5)=true:=by kernel_rfl
theorem serverTells_f6:(Rows.serverTellsRow.plainKeys == Tryz.pinned.checked.prog.plainKeys)=true:=by kernel_rfl
theorem serverTells_f7:Tryz.pinned.checked.prog.stopsHeard=true:=by kernel_rfl
theorem serverTells_f8:Tryz.pinned.checked.prog.mayEnter=true:=by kernel_rfl
theorem serverTells_f9:(Rows.serverTellsRow.lifted == Tryz.pinned.checked.prog.liftsFinal)=true:=by kernel_rfl
theorem serverTells_closed:joinedFacts Tryz.pinned.checked.prog 5 Tryz.f5 Rows.serverTellsSpec Rows.serverTellsRow=true:=by
 unfold joinedFacts;simp only [Bool.and_eq_true]
 repeat' apply And.intro
 all_goals first | with_reducible exact serverTells_f0 | with_reducible exact serverTells_f1 | with_reducible exact serverTells_f2 | with_reducible exact serverTells_f3 | with_reducible exact serverTells_f4 | with_reducible exact serverTells_f5 | with_reducible exact serverTells_f6 | with_reducible exact serverTells_f7 | with_reducible exact serverTells_f8 | with_reducible exact serverTells_f9 | kernel_rfl
theorem serverTells_over:Rows.serverTellsRow.holds Tryz.pinned (OpenSpec.ofChange Rows.serverTellsSpec):=
 OpenClaim.holds_of_wide 5 Tryz.f5 rfl rfl rfl rfl rfl rfl rfl ⟨rfl,rfl,rfl,rfl,rfl⟩ rfl rfl rfl rfl rfl (by kernel_rfl) (by kernel_rfl) serverTells_closed
  (of_decide_eq_true (by kernel_rfl)) (by unfold Func.isWrapper;first | (rw[if_pos (by decide +kernel)];kernel_rfl) | (rw[if_neg (by decide +kernel)];exact ⟨rfl,rfl⟩))
  (fun os started H enc _=>serverTells_lifted os started H enc)
theorem serverTells_proved:Rows.ServerTellsSaid:=serverTells_over
#print axioms serverTells_proved
end Go.Proofs.YtpfgaleonhihhaaGreat
