/- Any keys, any entry, any user and tables: every call with nothing in the log answers as the document does, with any arguments. -/
import Derived.Test.YteddcbknadbbgaaGreatRows
import Derived.Test.YteddcbknadbbgaaGreatT5
import Derived.Test.YteddcbknadbbgaaGreatAl2
set_option linter.unusedVariables false
set_option maxRecDepth 100000
namespace Go.Proofs.YteddcbknadbbgaaGreat
open Go Go.ChangeShapes Go.WideShapes Go.ChangeAt Go.RowKit Go.Al
theorem chainForms_own:ownKnob Tryz.prog.godebug=none:=by kernel_rfl
theorem chainForms_laid:laidOutB Tryz.prog=true:=by kernel_rfl
theorem chainForms_lifted (os:Os) (started:os.Started) (H:Type) (enc:TypeId×Value→H) :
 ReturnsInHanded {} Tryz.checked os 4 .any (Rows.chainFormsSpec.pre6 enc Tryz.prog Tryz.f4 Rows.chainFormsRow.domain false) (Rows.chainFormsSpec.post enc Tryz.prog Tryz.f4 false true false false):=by
 refine returnsInHanded_of_change_sized (C:=Tryz.checked) chainForms_own started (by kernel_rfl) (show Tryz.prog.funcs[4]? = some Tryz.f4 by kernel_rfl)
  (ChangeSpec.witness6 (enc:=enc) (C:=Tryz.checked) false ⟨#[],#[.agg #[.int .i64 0,.slice none 0 0,.slice none 0 0],.agg #[.int .i64 0,.int .i64 0,.slice none 0 0,.int .u8 0,.int .u8 0,.int .u8 0,.int .u8 0,.int .u8 0,.int .u8 0,.int .u8 0,.int .u8 0,.int .u8 0,.int .u8 0,.int .u8 0,.int .u8 0,.int .u8 0,.int .u8 0,.int .u8 0,.int .u8 0,.int .u8 0,.int .u8 0,.int .u8 0,.int .u8 0,.int .u8 0,.int .u8 0,.int .u8 0,.int .u8 0,.int .u8 0,.int .u8 0,.int .u8 0,.int .u8 0,.int .u8 0,.int .u8 0,.int .u8 0,.int .u8 0,.slice none 0 0,.string ⟨#[]⟩],.int .i64 0,.slice none 0 0],[]⟩ 8 (by kernel_rfl) (by kernel_rfl) (by kernel_rfl) (by kernel_rfl)) ?_
 intro W base args ds gs before hval hW hcnd hwt _;have hW':=hW;obtain ⟨p,q,hA,hV,rfl,hfz,hnd⟩:=hW;obtain ⟨rfl,rfl⟩:=trodVars_none hV;have hps:Tryz.f4.params.toList=[28,49,3,42]:=by kernel_rfl
 rw[hps] at hA hwt;obtain ⟨v0,vs0,d0,ds0,p0,q0,hargs,rfl,rfl,h0,r0⟩:=trodAll_cons hA;obtain ⟨v1,vs1,d1,ds1,p1,q1,rfl,rfl,rfl,h1,r1⟩:=trodAll_cons r0;obtain ⟨v2,vs2,d2,ds2,p2,q2,rfl,rfl,rfl,h2,r2⟩:=trodAll_cons r1;obtain ⟨v3,vs3,d3,ds3,p3,q3,rfl,rfl,rfl,h3,r3⟩:=trodAll_cons r2;obtain ⟨rfl,rfl,rfl⟩:=trodAll_nil r3;obtain rfl:args = #[v0,v1,v2,v3]:=by cases args;simp_all
 obtain ⟨a0,rfl,w0⟩:=arg_deep Tryz.tysOk (r:=(.ag (.pr (.ag (.pr (.fl .i) (.pr (.sl 24 (.sl 8 (.fl .i))) .un))) (.pr (.sl 16 .s) .un)))) (j:=0) (t:=28) (by kernel_rfl) hwt rfl rfl (hval 0 28 v0 (by kernel_rfl) rfl) (fun _=>rfl) h0;obtain ⟨a1,rfl,w1⟩:=arg_deep Tryz.tysOk (r:=(.ag (.pr (.fl .i) (.pr (.fl .i) (.pr (.sl 8 (.fl .i)) (.pr (.fl (.ar 32 .u8)) (.pr (.sl 32 (.fl (.ar 32 .u8))) (.pr .s .un)))))))) (j:=1) (t:=49) (by kernel_rfl) hwt rfl rfl (hval 1 49 v1 (by kernel_rfl) rfl) (fun _=>rfl) h1;obtain ⟨a2,rfl,w2⟩:=arg_deep Tryz.tysOk (r:=(.fl .i)) (j:=2) (t:=3) (by kernel_rfl) hwt rfl rfl (hval 2 3 v2 (by kernel_rfl) rfl) (fun _=>rfl) h2;obtain ⟨a3,rfl,w3⟩:=arg_deep Tryz.tysOk (r:=(.sl 32 (.fl (.ar 32 .u8)))) (j:=3) (t:=42) (by kernel_rfl) hwt rfl rfl (hval 3 42 v3 (by kernel_rfl) rfl) (fun _=>rfl) h3;refine law_tail (P:=Tryz.prog) (F:=4) (fn:=Tryz.f4) (s:=Rows.chainFormsSpec) (tb:=4) chainForms_laid ?_ (by kernel_rfl) (by kernel_rfl) rfl (by kernel_rfl) (by kernel_rfl) (by kernel_rfl) rfl hW' ?_
 ·rw[hps];intro t ht;simp only [List.mem_cons,List.not_mem_nil,or_false] at ht;rcases ht with rfl | rfl | rfl | rfl <;> exact ⟨by kernel_rfl,of_decide_eq_true (by kernel_rfl)⟩
 ·exact Tryz.law20_ChainForms.s w0 w1 w3 (K:=fun b h'=>b=true∧Keep [] W.heap h') fun h' hk=>⟨rfl,hk⟩
theorem chainForms_over:Rows.chainFormsRow.holds Tryz.pinned (OpenSpec.ofChange Rows.chainFormsSpec):=
 OpenClaim.holds_of_wide 4 Tryz.f4 rfl rfl rfl rfl rfl rfl rfl ⟨rfl,rfl,rfl,rfl,rfl⟩ rfl rfl rfl rfl rfl (by kernel_rfl) (by kernel_rfl) (by kernel_rfl)
  (of_decide_eq_true (by kernel_rfl)) (by unfold Func.isWrapper;first | (rw[if_pos (by decide +kernel)];kernel_rfl) | (rw[if_neg (by decide +kernel)];exact ⟨rfl,rfl⟩))
  (fun os started H enc _=>chainForms_lifted os started H enc)
theorem chainForms_proved:Rows.ChainFormsSaid:=chainForms_over
#print axioms chainForms_proved
end Go.Proofs.YteddcbknadbbgaaGreat
