/- For all picks the law ServerTurns answers true: one user has the turn, till its ticks are gone; the other one is told to wait. -/
import Derived.Test.YtpfgaleonhihhaaGreatRows
import Derived.Test.YtpfgaleonhihhaaGreatT4
import Derived.Test.YtpfgaleonhihhaaGreatAl2
set_option linter.unusedVariables false
set_option maxRecDepth 100000
namespace Go.Proofs.YtpfgaleonhihhaaGreat
open Go Go.ChangeShapes Go.WideShapes Go.ChangeAt Go.RowKit Go.Al
theorem serverTurns_own:ownKnob Tryz.prog.godebug=none:=by kernel_rfl
theorem serverTurns_laid:laidOutB Tryz.prog=true:=by kernel_rfl
theorem serverTurns_lifted (os:Os) (started:os.Started) (H:Type) (enc:TypeId×Value→H) :
 ReturnsInHanded {} Tryz.checked os 4 .any (Rows.serverTurnsSpec.pre6 enc Tryz.prog Tryz.f4 Rows.serverTurnsRow.domain false) (Rows.serverTurnsSpec.post enc Tryz.prog Tryz.f4 false true false false):=by
 refine returnsInHanded_of_change (C:=Tryz.checked) serverTurns_own started (by kernel_rfl) (show Tryz.prog.funcs[4]? = some Tryz.f4 by kernel_rfl)
  (ChangeSpec.witness6 (enc:=enc) (C:=Tryz.checked) false ⟨#[],#[.slice none 0 0],[]⟩ 8 (by kernel_rfl) (by kernel_rfl) (by kernel_rfl) (by kernel_rfl)) ?_
 intro W base args ds gs before hval hW hcnd _;have hW':=hW;obtain ⟨p,q,hA,hV,rfl,hfz,hnd⟩:=hW;obtain ⟨rfl,rfl⟩:=trodVars_none hV;have hps:Tryz.f4.params.toList=[29]:=by kernel_rfl
 rw[hps] at hA;obtain ⟨v0,vs0,d0,ds0,p0,q0,hargs,rfl,rfl,h0,r0⟩:=trodAll_cons hA;obtain ⟨rfl,rfl,rfl⟩:=trodAll_nil r0;obtain rfl:args = #[v0]:=by cases args;simp_all
 obtain ⟨s0,xs0,rfl,lc0,lm0,g0,w0⟩:=arg_slice Tryz.tysOk (t:=29) (e:=3) (by_:=24) (pl:=false) (ti:=⟨.k,.i,8,true⟩) (by kernel_rfl) (by kernel_rfl) rfl rfl (by decide) (hval 0 29 v0 (by kernel_rfl) rfl) h0;refine law_tail (P:=Tryz.prog) (F:=4) (fn:=Tryz.f4) (s:=Rows.serverTurnsSpec) (tb:=4) serverTurns_laid ?_ (by kernel_rfl) (by kernel_rfl) rfl (by kernel_rfl) (by kernel_rfl) (by kernel_rfl) rfl hW' ?_
 ·rw[hps];intro t ht;simp only [List.mem_cons,List.not_mem_nil,or_false] at ht;subst ht;exact ⟨by kernel_rfl,of_decide_eq_true (by kernel_rfl)⟩
 ·exact Tryz.ZBH.s (xs:=xs0) g0 (K:=fun b h'=>b=true∧Keep [] W.heap h') fun h' hk=>⟨rfl,hk⟩
theorem serverTurns_f0:laidOutB Tryz.pinned.checked.prog=true:=by kernel_rfl
theorem serverTurns_f1:mapsRowed Tryz.pinned.checked.prog=true:=by kernel_rfl
theorem serverTurns_f2:(Rows.serverTurnsRow.inPlace == Tryz.pinned.checked.prog.inPlace 4)=true:=by kernel_rfl
theorem serverTurns_f3:(Rows.serverTurnsRow.unfollowed == Tryz.pinned.checked.prog.unfollowed 4)=true:=by kernel_rfl
theorem serverTurns_f4:(Rows.serverTurnsRow.recurses == Tryz.pinned.checked.prog.recurses 4)=true:=by kernel_rfl
theorem serverTurns_f5:(Rows.serverTurnsRow.named == Tryz.pinned.checked.prog.varsNamed 4)=true:=by kernel_rfl
theorem serverTurns_f6:(Rows.serverTurnsRow.plainKeys == Tryz.pinned.checked.prog.plainKeys)=true:=by kernel_rfl
theorem serverTurns_f7:Tryz.pinned.checked.prog.stopsHeard=true:=by kernel_rfl
theorem serverTurns_f8:Tryz.pinned.checked.prog.mayEnter=true:=by kernel_rfl
theorem serverTurns_f9:(Rows.serverTurnsRow.lifted == Tryz.pinned.checked.prog.liftsFinal)=true:=by kernel_rfl
theorem serverTurns_closed:joinedFacts Tryz.pinned.checked.prog 4 Tryz.f4 Rows.serverTurnsSpec Rows.serverTurnsRow=true:=by
 unfold joinedFacts;simp only [Bool.and_eq_true]
 repeat' apply And.intro
 all_goals first | with_reducible exact serverTurns_f0 | with_reducible exact serverTurns_f1 | with_reducible exact serverTurns_f2 | with_reducible exact serverTurns_f3 | with_reducible exact serverTurns_f4 | with_reducible exact serverTurns_f5 | with_reducible exact serverTurns_f6 | with_reducible exact serverTurns_f7 | with_reducible exact serverTurns_f8 | with_reducible exact serverTurns_f9 | kernel_rfl
theorem serverTurns_over:Rows.serverTurnsRow.holds Tryz.pinned (OpenSpec.ofChange Rows.serverTurnsSpec):=
 OpenClaim.holds_of_wide 4 Tryz.f4 rfl rfl rfl rfl rfl rfl rfl ⟨rfl,rfl,rfl,rfl,rfl⟩ rfl rfl rfl rfl rfl (by kernel_rfl) (by kernel_rfl) serverTurns_closed
  (of_decide_eq_true (by kernel_rfl)) (by unfold Func.isWrapper;first | (rw[if_pos (by decide +kernel)];kernel_rfl) | (rw[if_neg (by decide +kernel)];exact ⟨rfl,rfl⟩))
  (fun os started H enc _=>serverTurns_lifted os started H enc)
theorem serverTurns_proved:Rows.ServerTurnsSaid:=serverTurns_over
#print axioms serverTurns_proved
end Go.Proofs.YtpfgaleonhihhaaGreat
