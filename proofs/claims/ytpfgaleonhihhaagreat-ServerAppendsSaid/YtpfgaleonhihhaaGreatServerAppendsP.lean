/- For all turns, numbers and seeds the law ServerAppends answers true: just whoever has the turn may append, once, and just what the chain takes. -/
import Derived.Test.YtpfgaleonhihhaaGreatRows
import Derived.Test.YtpfgaleonhihhaaGreatT6
import Derived.Test.YtpfgaleonhihhaaGreatAl2
set_option linter.unusedVariables false
set_option maxRecDepth 100000
namespace Go.Proofs.YtpfgaleonhihhaaGreat
open Go Go.ChangeShapes Go.WideShapes Go.ChangeAt Go.RowKit Go.Al
theorem serverAppends_own:ownKnob Tryz.prog.godebug=none:=by kernel_rfl
theorem serverAppends_laid:laidOutB Tryz.prog=true:=by kernel_rfl
theorem serverAppends_lifted(os:Os) (started:os.Started) (H:Type) (enc:TypeId×Value→H) :
 ReturnsInHanded {} Tryz.checked os 6 .any (Rows.serverAppendsSpec.pre6 enc Tryz.prog Tryz.f6 Rows.serverAppendsRow.domain false) (Rows.serverAppendsSpec.post enc Tryz.prog Tryz.f6 false true false false):=by
 refine returnsInHanded_of_change (C:=Tryz.checked) serverAppends_own started (by kernel_rfl) (show Tryz.prog.funcs[6]? = some Tryz.f6 by kernel_rfl)
  (ChangeSpec.witness6 (enc:=enc) (C:=Tryz.checked) false ⟨#[],#[.bool false,.int .i64 0,.string ⟨#[]⟩],[]⟩ 8 (by kernel_rfl) (by kernel_rfl) (by kernel_rfl) (by kernel_rfl)) ?_
 intro W base args ds gs before hval hW hcnd _;have hW':=hW;obtain⟨p,q,hA,hV,rfl,hfz,hnd⟩:=hW;obtain⟨rfl,rfl⟩:=trodVars_none hV;have hps:Tryz.f6.params.toList=[4,3,9]:=by kernel_rfl
 rw[hps]at hA;obtain⟨v0,vs0,d0,ds0,p0,q0,hargs,rfl,rfl,h0,r0⟩:=trodAll_cons hA;obtain⟨v1,vs1,d1,ds1,p1,q1,rfl,rfl,rfl,h1,r1⟩:=trodAll_cons r0;obtain⟨v2,vs2,d2,ds2,p2,q2,rfl,rfl,rfl,h2,r2⟩:=trodAll_cons r1;obtain⟨rfl,rfl,rfl⟩:=trodAll_nil r2;obtain rfl:args = #[v0,v1,v2]:=by cases args;simp_all
 obtain⟨a0,rfl,w0⟩:=Pb Tryz.Cx (t:=4) (ti:=⟨.k,.b,1,true⟩) (by kernel_rfl) rfl rfl (hval 0 4 v0 (by kernel_rfl) rfl) h0;obtain⟨a1,rfl,w1⟩:=Pb Tryz.Cx (t:=3) (ti:=⟨.k,.i,8,true⟩) (by kernel_rfl) rfl rfl (hval 1 3 v1 (by kernel_rfl) rfl) h1;obtain⟨a2,rfl,w2⟩:=Pb Tryz.Cx (t:=9) (ti:=⟨.str,.s,16,true⟩) (by kernel_rfl) rfl rfl (hval 2 9 v2 (by kernel_rfl) rfl) h2;refine qF (P:=Tryz.prog) (F:=6) (fn:=Tryz.f6) (s:=Rows.serverAppendsSpec) (tb:=4) serverAppends_laid ?_ (by kernel_rfl) (by kernel_rfl) rfl (by kernel_rfl) (by kernel_rfl) (by kernel_rfl) rfl hW' ?_
 ·rw[hps];intro t ht;simp only[List.mem_cons,List.not_mem_nil,or_false]at ht;rcases ht with rfl | rfl | rfl <;> exact⟨by kernel_rfl,of_decide_eq_true (by kernel_rfl)⟩
 ·exact Tryz.ZBJ.s (turn:=a0) (wrong:=a1) (seed:=a2) (K:=fun b h'=>b=true∧Jc [] W.heap h') fun h' hk=>⟨rfl,hk⟩
theorem serverAppends_f0:laidOutB Tryz.pinned.checked.prog=true:=by kernel_rfl
theorem serverAppends_f1:mapsRowed Tryz.pinned.checked.prog=true:=by kernel_rfl
theorem serverAppends_f2:(Rows.serverAppendsRow.inPlace == Tryz.pinned.checked.prog.inPlace 6)=true:=by kernel_rfl
theorem serverAppends_f3:(Rows.serverAppendsRow.unfollowed == Tryz.pinned.checked.prog.unfollowed 6)=true:=by kernel_rfl
theorem serverAppends_f4:(Rows.serverAppendsRow.recurses == Tryz.pinned.checked.prog.recurses 6)=true:=by kernel_rfl
theorem serverAppends_f5:(Rows.serverAppendsRow.named == Tryz.pinned.checked.prog.varsNamed 6)=true:=by kernel_rfl
theorem serverAppends_f6:(Rows.serverAppendsRow.plainKeys == Tryz.pinned.checked.prog.plainKeys)=true:=by kernel_rfl
theorem serverAppends_f7:Tryz.pinned.checked.prog.stopsHeard=true:=by kernel_rfl
theorem serverAppends_f8:Tryz.pinned.checked.prog.mayEnter=true:=by kernel_rfl
theorem serverAppends_f9:(Rows.serverAppendsRow.lifted == Tryz.pinned.checked.prog.liftsFinal)=true:=by kernel_rfl
theorem serverAppends_closed:joinedFacts Tryz.pinned.checked.prog 6 Tryz.f6 Rows.serverAppendsSpec Rows.serverAppendsRow=true:=by
 unfold joinedFacts;simp only[Bool.and_eq_true]
 repeat' apply And.intro
 all_goals first | with_reducible exact serverAppends_f0 | with_reducible exact serverAppends_f1 | with_reducible exact serverAppends_f2 | with_reducible exact serverAppends_f3 | with_reducible exact serverAppends_f4 | with_reducible exact serverAppends_f5 | with_reducible exact serverAppends_f6 | with_reducible exact serverAppends_f7 | with_reducible exact serverAppends_f8 | with_reducible exact serverAppends_f9 | kernel_rfl
theorem serverAppends_over:Rows.serverAppendsRow.holds Tryz.pinned (OpenSpec.ofChange Rows.serverAppendsSpec):=
 OpenClaim.holds_of_wide 6 Tryz.f6 rfl rfl rfl rfl rfl rfl rfl ⟨rfl,rfl,rfl,rfl,rfl⟩ rfl rfl rfl rfl rfl (by kernel_rfl) (by kernel_rfl) serverAppends_closed
  (of_decide_eq_true (by kernel_rfl)) (by unfold Func.isWrapper;first | (rw[if_pos (by decide +kernel)];kernel_rfl) | (rw[if_neg (by decide +kernel)];exact⟨rfl,rfl⟩))
  (fun os started H enc _=>serverAppends_lifted os started H enc)
theorem serverAppends_proved:Rows.ServerAppendsSaid:=serverAppends_over
#print axioms serverAppends_proved
end Go.Proofs.YtpfgaleonhihhaaGreat
