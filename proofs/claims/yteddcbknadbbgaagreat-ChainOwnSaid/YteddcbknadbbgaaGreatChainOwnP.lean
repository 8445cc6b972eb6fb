/- Of a user's entry just the tables that the user is in may be others: for any user, table, byte and seed, with any arguments. -/
import Derived.Test.YteddcbknadbbgaaGreatRows
import Derived.Test.YteddcbknadbbgaaGreatT4
import Derived.Test.YteddcbknadbbgaaGreatAl2
set_option linter.unusedVariables false
set_option maxRecDepth 100000
namespace Go.Proofs.YteddcbknadbbgaaGreat
open Go Go.ChangeShapes Go.WideShapes Go.ChangeAt Go.RowKit Go.Al
theorem chainOwn_own:ownKnob Tryz.prog.godebug=none:=by kernel_rfl
theorem chainOwn_laid:laidOutB Tryz.prog=true:=by kernel_rfl
theorem chainOwn_lifted (os:Os) (started:os.Started) (H:Type) (enc:TypeId×Value→H) :
 ReturnsInHanded {} Tryz.checked os 5 .any (Rows.chainOwnSpec.pre6 enc Tryz.prog Tryz.f5 Rows.chainOwnRow.domain false) (Rows.chainOwnSpec.post enc Tryz.prog Tryz.f5 false true false false):=by
 refine returnsInHanded_of_change (C:=Tryz.checked) chainOwn_own started (by kernel_rfl) (show Tryz.prog.funcs[5]? = some Tryz.f5 by kernel_rfl)
  (ChangeSpec.witness6 (enc:=enc) (C:=Tryz.checked) false ⟨#[],#[.int .i64 0,.int .i64 0,.int .i64 0,.string ⟨#[]⟩],[]⟩ 8 (by kernel_rfl) (by kernel_rfl) (by kernel_rfl) (by kernel_rfl)) ?_
 intro W base args ds gs before hval hW hcnd _
 have hW':=hW
 obtain ⟨p,q,hA,hV,rfl,hfz,hnd⟩:=hW
 obtain ⟨rfl,rfl⟩:=trodVars_none hV
 have hps:Tryz.f5.params.toList=[3,3,3,9]:=by kernel_rfl
 rw[hps] at hA
 obtain ⟨v0,vs0,d0,ds0,p0,q0,hargs,rfl,rfl,h0,r0⟩:=trodAll_cons hA
 obtain ⟨v1,vs1,d1,ds1,p1,q1,rfl,rfl,rfl,h1,r1⟩:=trodAll_cons r0
 obtain ⟨v2,vs2,d2,ds2,p2,q2,rfl,rfl,rfl,h2,r2⟩:=trodAll_cons r1
 obtain ⟨v3,vs3,d3,ds3,p3,q3,rfl,rfl,rfl,h3,r3⟩:=trodAll_cons r2
 obtain ⟨rfl,rfl,rfl⟩:=trodAll_nil r3
 obtain rfl:args = #[v0,v1,v2,v3]:=by cases args;simp_all
 obtain ⟨a0,rfl,w0⟩:=arg_flat Tryz.tysOk (t:=3) (ti:=⟨.k,.i,8,true⟩) (by kernel_rfl) rfl rfl (hval 0 3 v0 (by kernel_rfl) rfl) h0
 obtain ⟨a1,rfl,w1⟩:=arg_flat Tryz.tysOk (t:=3) (ti:=⟨.k,.i,8,true⟩) (by kernel_rfl) rfl rfl (hval 1 3 v1 (by kernel_rfl) rfl) h1
 obtain ⟨a2,rfl,w2⟩:=arg_flat Tryz.tysOk (t:=3) (ti:=⟨.k,.i,8,true⟩) (by kernel_rfl) rfl rfl (hval 2 3 v2 (by kernel_rfl) rfl) h2
 obtain ⟨a3,rfl,w3⟩:=arg_flat Tryz.tysOk (t:=9) (ti:=⟨.str,.s,16,true⟩) (by kernel_rfl) rfl rfl (hval 3 9 v3 (by kernel_rfl) rfl) h3
 refine law_tail (P:=Tryz.prog) (F:=5) (fn:=Tryz.f5) (s:=Rows.chainOwnSpec) (tb:=4) chainOwn_laid ?_ (by kernel_rfl) (by kernel_rfl) rfl (by kernel_rfl) (by kernel_rfl) (by kernel_rfl) rfl hW' ?_
 ·rw[hps];intro t ht
  simp only [List.mem_cons,List.not_mem_nil,or_false] at ht
  rcases ht with rfl | rfl | rfl | rfl <;> exact ⟨by kernel_rfl,of_decide_eq_true (by kernel_rfl)⟩
 ·exact Tryz.law20_ChainOwn.s (user:=a0) (which:=a1) (c:=a2) (K:=fun b h'=>b=true∧Keep [] W.heap h') fun h' hk=>⟨rfl,hk⟩
theorem chainOwn_over:Rows.chainOwnRow.holds Tryz.pinned (OpenSpec.ofChange Rows.chainOwnSpec):=
 OpenClaim.holds_of_wide 5 Tryz.f5 rfl rfl rfl rfl rfl rfl rfl ⟨rfl,rfl,rfl,rfl,rfl⟩ rfl rfl rfl rfl rfl (by kernel_rfl) (by kernel_rfl) (by kernel_rfl)
  (of_decide_eq_true (by kernel_rfl)) (by unfold Func.isWrapper;first | (rw[if_pos (by decide +kernel)];kernel_rfl) | (rw[if_neg (by decide +kernel)];exact ⟨rfl,rfl⟩))
  (fun os started H enc _=>chainOwn_lifted os started H enc)
theorem chainOwn_proved:Rows.ChainOwnSaid:=chainOwn_over
#print axioms chainOwn_proved
end Go.Proofs.YteddcbknadbbgaaGreat
