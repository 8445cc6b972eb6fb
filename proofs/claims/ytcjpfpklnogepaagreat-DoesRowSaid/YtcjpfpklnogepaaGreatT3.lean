import Derived.Test.YtcjpfpklnogepaaGreatT2
import Derived.Test.YtcjpfpklnogepaaGreatAl2
import Derived.Test.YtcjpfpklnogepaaGreatModels3
import Derived.KernelRfl
set_option linter.unusedVariables false
set_option linter.unusedSimpArgs false
set_option maxRecDepth 100000
namespace Go.Proofs.Tryz
open Go Go.Al
theorem do_step {mv : MbK.Ty} {bm bs : Nat} {t0 : Slc} {ss : List Slc} {vv : List (List NdV)} {X : Fs} {user : Int} {c : Cl} {h : Heap} {K : Nat → Nat → Int → Heap → Prop} (em : h[bm]? = some (vobj t_api_Members MbK mv)) (am : MbAt h mv clubM) (es : h[bs]? = some (vobj t_api_State StaK ((t0, ()) : StaK.Ty))) (w : StW h t0 ss vv X) (hs : Small X) (hc : ClB c)
 (hK : ∀ h' b b' t' ss' vv' sl, Keep [] h h' → h'[b]? = some (vobj t_api_State StaK ((t', ()) : StaK.Ty)) → h'[b']? = some (vobj t_api_Answer AnK (anv (DoS clubM X user c).2.1 sl)) → StW h' t' ss' vv' (DoS clubM X user c).1 → Small (DoS clubM X user c).1 → Seg .s sl (DoS clubM X user c).2.1.names h' → K b b' (DoS clubM X user c).2.2 h') :
 ld MbK (Pl.mk bm 0) h fun x => ld StaK (Pl.mk bs 0) h fun y => ops_Do.C x y user (clv c) h fun x7 x8 x9 h7 => new t_api_State StaK (((⟨none, 0, 0⟩ : Slc), ()) : StaK.Ty) h7 fun b3 h8 => new t_api_Answer AnK an0v h8 fun b4 h9 => Go.Al.st StaK (Pl.mk b3 0) x7 h9 fun h10 => Go.Al.st AnK (Pl.mk b4 0) x8 h10 fun h11 => K b3 b4 x9 h11 := by
 obtain ⟨hc1, hc2, hc3⟩ := hc
 refine ld_go (sm_all em) (ld_go (sm_all es) ?_)
 refine ops_Do.s am w hs.l hc1 hc2 hc3 fun h7 t' ss' vv' sl k7 ow sm7 g7 og => ?_
 refine new_gen fun b3 h8 hb3 k8 e8 hs8 => ?_
 have e8 : h8[b3]? = some (vobj t_api_State StaK ((⟨none, 0, 0⟩ : Slc), ())) := e8
 refine new_gen fun b4 h9 hb4 k9 e9 hs9 => ?_
 have e9 : h9[b4]? = some (vobj t_api_Answer AnK an0v) := e9
 refine st_to (y := ((t', ()) : StaK.Ty)) (k9.get e8 (by simp)) fun ha ka ea hsa => ?_
 refine st_to (y := anv (DoS clubM X user c).2.1 sl) (ka.get e9 (by simp; omega)) fun hb kb eb hsb => ?_
 have k79 : Keep [] h7 h9 := k8.new k9 (by simp)
 have kAll : Keep [b3, b4] h7 hb := Keep.add2 k79 ka kb
 have z7 := k7.1
 have z8 := k8.1
 refine hK hb b3 b4 t' ss' vv' sl (((k7.new k79 (by simp)).new ka (by simp; omega)).new kb (by simp; omega)) (kb.get ea (by simp; omega)) eb ?_ sm7 (g7.keep' kAll fun q hq hm => by have := g7.lt q hq; simp at hm; omega)
 exact (ow.keepS kAll (fun q hq hm => by have := ow.lt q hq; simp at hm; omega) fun vs hvs v hv q hq hm => by have := ow.elt2 hvs hv q hq; simp at hm; omega).w
def cA : Cl := ⟨1, ⟨#[47, 102]⟩, ⟨#[]⟩, ⟨#[]⟩, 0, 0, 2⟩
def cB : Cl := ⟨4, ⟨#[47, 102]⟩, ⟨#[]⟩, ⟨#[104, 105]⟩, 0, 0, 0⟩
def cC : Cl := ⟨3, ⟨#[47, 102]⟩, ⟨#[]⟩, ⟨#[]⟩, 0, 9, 0⟩
def cD : Cl := ⟨2, ⟨#[47, 100]⟩, ⟨#[]⟩, ⟨#[]⟩, 0, 0, 1⟩
def cE : Cl := ⟨11, ⟨#[47]⟩, ⟨#[]⟩, ⟨#[]⟩, 0, 0, 0⟩
def XA : Fs := [[⟨1, 1, 1, 1, ⟨#[]⟩, [(⟨#[102]⟩, (rf 2 1, ()))]⟩], [], [⟨1, 0, 1, 1, ⟨#[]⟩, []⟩]]
def XB : Fs := [[⟨1, 1, 1, 1, ⟨#[]⟩, [(⟨#[102]⟩, (rf 2 1, ()))]⟩], [], [⟨1, 0, 1, 1, ⟨#[104, 105]⟩, []⟩]]
theorem dA : DoS clubM X0 0 cA = (XA, ⟨0, (rf 2 1, (0, (1, (1, (0, ()))))), ⟨#[]⟩, []⟩, 0) := by kernel_rfl
theorem dB : DoS clubM XA 1 cB = (XB, ⟨0, (rf 2 1, (0, (1, (1, (2, ()))))), ⟨#[]⟩, []⟩, 0) := by kernel_rfl
theorem dC : (DoS clubM XB 0 cC).2 = (⟨0, stat0, ⟨#[104, 105]⟩, []⟩, 0) := by kernel_rfl
theorem dD : (DoS clubM XB 1 cD).2 = (anE 1705, 0) := by kernel_rfl
theorem dE : (DoS clubM X0 2 cE).2.2 = 1700 := by kernel_rfl
theorem club_may : mbMay clubM = true := by kernel_rfl
theorem ClB.small {c : Cl} (h : c.path.size ≤ 1000000 ∧ c.other.size ≤ 1000000 ∧ c.data.size ≤ 1000000) : ClB c := ⟨by omega, by omega, by omega⟩
theorem law17_awake.s {h : Heap} {K : Bool → Heap → Prop} (hK : ∀ h', Keep [] h h' → K true h') : law17_awake.C h K := by
 apply law17_awake.c
 unfold law17_awake.m
 refine law17_Club.s fun h1 mv k1 am1 => ?_
 refine new_st_gen fun b1 h3 hb1 k3 e3 hs3 => ?_
 have e3 : h3[b1]? = some (vobj t_api_Members MbK mv) := e3
 have am3 := am1.keep k3
 refine ld_go (sm_all e3) ?_
 refine ref15_Empty.s am3 (by decide) (fun hno => by rw [club_may] at hno; simp at hno) fun _ h4 t4 ss4 vv4 k4 w4 => ?_
 have hX0 : emptyS clubM = X0 := rfl
 rw [hX0] at w4
 refine new_st_gen fun b2 h6 hb2 k6 e6 hs6 => ?_
 have e6 : h6[b2]? = some (vobj t_api_State StaK ((t4, ()) : StaK.Ty)) := e6
 have k36 : Keep [] h3 h6 := k4.new k6 (by simp)
 refine do_step (c := cA) (k36.get e3 (by simp)) (am3.keep k36) e6 (w4.keep k6) X0_small (.small (by decide)) fun h11 b3 b4 t11 ss11 vv11 sl11 k11 e11 f11 w11 _ g11 => ?_
 rw [dA] at f11 w11 g11
 rw [show (DoS clubM X0 0 cA).2.2 = 0 by rw [dA]]
 have k311 := k36.new k11 (by simp)
 have sXA : Small XA := ⟨by decide, by decide⟩
 have sXB : Small XB := ⟨by decide, by decide⟩
 refine do_step (c := cB) (k311.get e3 (by simp)) (am3.keep k311) e11 w11 sXA (.small (by decide)) fun h16 b5 b6 t16 ss16 vv16 sl16 k16 e16 f16 w16 _ g16 => ?_
 rw [dB] at f16 w16 g16
 rw [show (DoS clubM XA 1 cB).2.2 = 0 by rw [dB]]
 have k316 := k311.new k16 (by simp)
 refine do_step (c := cC) (k316.get e3 (by simp)) (am3.keep k316) e16 w16 sXB (.small (by decide)) fun h21 b7 b8 t21 ss21 vv21 sl21 k21 e21 f21 w21 _ g21 => ?_
 rw [dC] at f21 g21
 rw [show (DoS clubM XB 0 cC).2.2 = 0 by rw [dC]]
 have k321 := k316.new k21 (by simp)
 refine do_step (c := cD) (k321.get e3 (by simp)) (am3.keep k321) (k21.get e16 (by simp)) (w16.keep k21) sXB (.small (by decide)) fun h26 b9 b10 t26 ss26 vv26 sl26 k26 e26 f26 w26 _ g26 => ?_
 rw [dD] at f26 g26
 rw [show (DoS clubM XB 1 cD).2.2 = 0 by rw [dD]]
 have k326 := k321.new k26 (by simp)
 have k626 : Keep [] h6 h26 := ((k11.new k16 (by simp)).new k21 (by simp)).new k26 (by simp)
 refine do_step (c := cE) (k326.get e3 (by simp)) (am3.keep k326) (k626.get e6 (by simp)) ((w4.keep k6).keep k626) X0_small (.small (by decide)) fun h31 b11 b12 t31 ss31 vv31 sl31 k31 e31 f31 w31 _ g31 => ?_
 rw [dE]
 have k331 := k326.new k31 (by simp)
 have k131 : Keep [] h h31 := (k1.new k3 (by simp)).new k331 (by simp)
 have k1131 : Keep [] h11 h31 := (((k16.new k21 (by simp)).new k26 (by simp)).new k31 (by simp))
 refine jn_in (fun y h' => Keep [] h31 h' ∧ y.1 = true) ?_ ?_
 ·refine law0_Num.s ?_
  rw [if_pos (by rfl)]
  refine ld_go (sm_all (k1131.get f11 (by simp))) ?_
  refine law0_SameAnswer.s (a := ⟨0, (rf 2 1, (0, (1, (1, (0, ()))))), ⟨#[]⟩, []⟩) (g11.keep (by decide) k1131) (Row.nil (T := t_string)).seg (by simp) (fun _ h34 k34 => ?_) fun hne => absurd rfl hne
  rw [if_pos rfl]
  have k1634 : Keep [] h16 h34 := ((k21.new k26 (by simp)).new k31 (by simp)).new k34 (by simp)
  refine law0_Num.s ?_
  rw [if_pos (by rfl)]
  refine ld_go (k := .i) (x := 2) (sm_sub (l := (Pl.mk b6 0).fld 1) (k := StK) (x := (rf 2 1, (0, (1, (1, (2, ())))))) (sm_sub (sm_all (k1634.get f16 (by simp))) (by decide) rfl) (by decide) rfl) ?_
  rw [if_pos (by rfl)]
  refine law0_Num.s ?_
  rw [if_pos (by rfl)]
  have k2134 : Keep [] h21 h34 := (k26.new k31 (by simp)).new k34 (by simp)
  refine ld_go (k := .s) (x := ⟨#[104, 105]⟩) (sm_sub (sm_all (k2134.get f21 (by simp))) (by decide) rfl) ?_
  rw [if_pos (by rfl)]
  refine law0_Num.s ?_
  rw [if_pos (by rfl)]
  have k2634 : Keep [] h26 h34 := k31.new k34 (by simp)
  refine ld_go (k := .i) (x := 1705) (sm_sub (sm_all (k2634.get f26 (by simp))) (by decide) rfl) ?_
  refine law0_Num.s ?_
  rw [if_pos (by rfl)]
  refine law0_Num.s ?_
  rw [if_pos (by rfl)]
  have k334 := k331.new k34 (by simp)
  refine ld_go (sm_all (k334.get e3 (by simp))) ?_
  refine ops_MembersMay.s (am3.keep k334) fun h40 k40 => ?_
  rw [if_pos club_may]
  have k340 := k334.new k40 (by simp)
  refine ld_go (sm_all (k340.get e3 (by simp))) ?_
  refine ops_In.s (am3.keep k340) fun h41 k41 => ?_
  rw [if_pos (by kernel_rfl)]
  have k341 := k340.new k41 (by simp)
  refine ld_go (sm_all (k341.get e3 (by simp))) ?_
  refine ops_In.s (am3.keep k341) fun h42 k42 => ?_
  exact ⟨((k34.new k40 (by simp)).new k41 (by simp)).new k42 (by simp), by kernel_rfl⟩
 ·rintro ⟨(y : Bool), _⟩ h32 ⟨k32, ey⟩
  dsimp only at ey ⊢
  rw [ey]
  exact hK h32 (k131.new k32 (by simp))
section
variable {h : Heap} {b : Nat} {a : An}
end
abbrev membersR : RT := .ag (.pr (.fl .i) (.pr (.sl 24 (.sl 8 (.fl .i))) .un))
abbrev callR : RT := .ag (.pr (.fl .i) (.pr .s (.pr .s (.pr .s (.pr (.fl .i) (.pr (.fl .i) (.pr (.fl .i) .un)))))))
theorem all2_of {α β : Type} {R : α → β → Prop} {P : β → Prop} : ∀ {l : List α}, (∀ a ∈ l, ∃ b, R a b ∧ P b) → ∃ l', All2 R l l' ∧ ∀ b ∈ l', P b
 | [], _ => ⟨[], trivial, by simp⟩
 | a :: l, h => by
   obtain ⟨b, h1, h2⟩ := h a (by simp)
   obtain ⟨l', h3, h4⟩ := all2_of (l := l) fun x hx => h x (by simp [hx])
   refine ⟨b :: l', ⟨h1, h3⟩, fun x hx => ?_⟩
   rcases List.mem_cons.1 hx with e | e
   ·subst e; exact h2
   ·exact h4 x e
theorem members_of {z : MbK.Ty} {h : Heap} (hh : membersR.holds z h) : ∃ m, MbAt h z m ∧ m.groups.length * 24 ≤ reachBytes ∧ ∀ g ∈ m.groups, g.length * 8 ≤ reachBytes := by
 obtain ⟨u, t0, ⟨⟩⟩ := z
 obtain ⟨hu, ⟨h1, h2, h3, ss, g, hx⟩, _⟩ := hh
 have gl : Slc.len t0 = ss.length := g.len
 have h1 : Slc.len t0 ≤ Slc.cap t0 := h1
 have h3 : Slc.cap t0 * 24 ≤ reachBytes := h3
 have zb : reachBytes = 140737488351232 := by decide
 obtain ⟨us, q1, q2⟩ := all2_of (l := ss) (R := fun (s : Slc) (us : List Int) => Seg .i s us h ∧ us.length ≤ 9223372036854775807) (P := fun us => us.length * 8 ≤ reachBytes) fun s hs => by
  obtain ⟨r1, r2, r3, vs, gv, hv⟩ := hx s hs
  have gl : Slc.len s = vs.length := gv.len
  have r1 : Slc.len s ≤ Slc.cap s := r1
  have r3 : Slc.cap s * 8 ≤ reachBytes := r3
  exact ⟨vs, ⟨gv, by omega⟩, by omega⟩
 have ql := q1.len
 exact ⟨⟨u, us⟩, ⟨rfl, ss, g, q1⟩, by show us.length * 24 ≤ _; omega, q2⟩
theorem call_of {z : ClK.Ty} {h : Heap} (hh : callR.holds z h) : ∃ c : Cl, z = clv c ∧ c.path.size ≤ reachBytes ∧ c.other.size ≤ reachBytes ∧ c.data.size ≤ reachBytes := by
 obtain ⟨o, p, q, d, a, n, s, ⟨⟩⟩ := z
 obtain ⟨_, hp, hq, hd, _⟩ := hh
 exact ⟨⟨o, p, q, d, a, n, s⟩, rfl, hp, hq, hd⟩
abbrev InoK : Kd := .ag (.pr .i (.pr .i (.pr .i (.pr .i (.pr .i (.pr (.ar 32 .u8) .un))))))
def iN (x : InoK.Ty) : Int := x.1
def iK (x : InoK.Ty) : Int := x.2.1
def iM (x : InoK.Ty) : Int := x.2.2.1
def iL (x : InoK.Ty) : Int := x.2.2.2.1
def iS (x : InoK.Ty) : Int := x.2.2.2.2.1
def inoMay (x : InoK.Ty) : Bool := ndN (iN x) (iK x) (iM x) (iL x) && decide (0 ≤ iS x) && decide (iS x ≤ 4096) && (decide (iK x ≠ 1) || decide (iS x = 0))
theorem ino_f {l : Pl} {v : InoK.Ty} {h : Heap} (e : sm InoK l v h) : sm .i (l.fld 0) (iN v) h ∧ sm .i (l.fld 1) (iK v) h ∧ sm .i (l.fld 2) (iM v) h ∧ sm .i (l.fld 3) (iL v) h ∧ sm .i (l.fld 4) (iS v) h ∧ sm (.ar 32 .u8) (l.fld 5) v.2.2.2.2.2.1 h :=
 ⟨sm_sub e (by decide) rfl, sm_sub e (by decide) rfl, sm_sub e (by decide) rfl, sm_sub e (by decide) rfl, sm_sub e (by decide) rfl, sm_sub e (by decide) (by
  show (([Value.int .i64 v.1] ++ ([Value.int .i64 v.2.1] ++ ([Value.int .i64 v.2.2.1] ++ ([Value.int .i64 v.2.2.2.1] ++ ([Value.int .i64 v.2.2.2.2.1] ++ ((Kd.ar 32 .u8).cells v.2.2.2.2.2.1 ++ [])))))).drop 5).take (Kd.ar 32 .u8).size = _
  simp only [List.singleton_append, List.drop_succ_cons, List.drop_zero, List.append_nil]
  rw [List.take_of_length_le (by rw [Kd.cells_length]; exact Nat.le_refl _)])⟩
theorem ite_ge {a b : Int} {P Q : Prop} (h1 : b ≤ a → P) (h2 : a < b → Q) : if decide (a ≥ b) = true then P else Q := by
 by_cases h : b ≤ a
 ·rw [if_pos (by simpa using h)]; exact h1 h
 ·rw [if_neg (by simpa using h)]; exact h2 (by omega)
theorem ite_le {a b : Int} {P Q : Prop} (h1 : a ≤ b → P) (h2 : b < a → Q) : if decide (a ≤ b) = true then P else Q := by
 by_cases h : a ≤ b
 ·rw [if_pos (by simpa using h)]; exact h1 h
 ·rw [if_neg (by simpa using h)]; exact h2 (by omega)
theorem ite_eq {a b : Int} {P Q : Prop} (h1 : a = b → P) (h2 : a ≠ b → Q) : if decide (a = b) = true then P else Q := by
 by_cases h : a = b
 ·rw [if_pos (by simpa using h)]; exact h1 h
 ·rw [if_neg (by simpa using h)]; exact h2 h
theorem ref7_InodeMay.s {x : InoK.Ty} {h : Heap} {K : Bool → Heap → Prop} (hK : ∀ h', Keep [] h h' → K (inoMay x) h') : ref7_InodeMay.C x h K := by
 apply ref7_InodeMay.c
 unfold ref7_InodeMay.m
 refine new_gen fun b1 h1 hb1 k1 e1 hs1 => ?_
 obtain ⟨f0, f1, f2, f3, f4, _⟩ := ino_f (sm_all e1)
 refine jn_at (inoMay x, ()) h1 ?_ (hK h1 k1)
 unfold inoMay ndN
 generalize iN x = n at *
 generalize iK x = k at *
 generalize iM x = m at *
 generalize iL x = l at *
 generalize iS x = s at *
 repeat' first | with_reducible refine ld_go f0 ?_ | with_reducible refine ld_go f1 ?_ | with_reducible refine ld_go f2 ?_ | with_reducible refine ld_go f3 ?_ | with_reducible refine ld_go f4 ?_ | with_reducible refine ite_ge (fun hc => ?_) (fun hc => ?_) | with_reducible refine ite_le (fun hc => ?_) (fun hc => ?_) | with_reducible refine ite_eq (fun hc => ?_) (fun hc => ?_)
 all_goals
  refine ⟨Prod.ext ?_ rfl, by first | rfl | trivial⟩
  dsimp only
  show (_ : Bool) = _
  rw [Bool.eq_iff_iff]
  simp only [decide_eq_true_eq, Bool.and_eq_true, Bool.or_eq_true, Bool.false_eq_true]
  clear f0 f1 f2 f3 f4 e1 hK
  simp only [Kd.Ty, false_iff] at *
  omega
theorem ref15_nodeMay.s {v : NdV} {x : Nd} {h : Heap} {K : Bool → Heap → Prop} (a : NdAt h v x) (hl : x.ents.length ≤ 9223372036854775807) (hK : ∀ h', Keep [] h h' → K (ndMay x) h') : ref15_nodeMay.C v h K := by
 apply ref15_nodeMay.c
 unfold ref15_nodeMay.m
 refine new_gen fun b1 h1 hb1 k1 e1 hs1 => ?_
 obtain ⟨f0, f1, f2, f3, f4, f5⟩ := nd_f (sm_all e1)
 rw [a.n] at f0
 rw [a.k] at f1
 rw [a.m] at f2
 rw [a.l] at f3
 rw [a.d] at f4
 refine ld_go f0 (ld_go f1 (ld_go f2 (ld_go f3 ?_)))
 refine new_st_gen fun b2 h3 hb2 k3 e3 hs3 => ?_
 have k03 : Keep [] h h3 := k1.new k3 (by simp)
 have g := fun {n : Nat} {k : Kd} {y : k.Ty} (h' : Heap) (kk : Keep [] h1 h') (hk : 0 < k.size) (e : sm k ((Pl.mk b1 0).fld n) y h1) => sm_keep hk e kk
 refine jn_in (fun y h' => Keep [] h3 h' ∧ y.1 = !(ndNum x && decide (x.data.size ≤ 4096) && dirMay x.ents)) ?_ ?_
 ·refine ld_go (sm_all e3) ?_
  refine ref7_InodeMay.s fun h5 k5 => ?_
  have hi : inoMay (x.num, (x.kind, (x.mode, (x.links, (0, (Vector.replicate 32 0, ())))))) = ndNum x := by
   unfold inoMay ndNum
   show (ndN x.num x.kind x.mode x.links && decide ((0 : Int) ≤ 0) && decide ((0 : Int) ≤ 4096) && (decide (x.kind ≠ 1) || decide ((0 : Int) = 0))) = _
   simp
  rw [hi]
  cases hn : ndNum x with
  | false => rw [if_pos (by rfl)]; exact ⟨k5, rfl⟩
  | true =>
    rw [if_neg (by simp)]
    have k15 : Keep [] h1 h5 := k3.new k5 (by simp)
    refine ld_go (g h5 k15 (by decide) f4) ?_
    by_cases hd : x.data.size ≤ 4096
    ·rw [if_neg (by simp; omega)]
     refine ld_go (g h5 k15 (by decide) f5) ?_
     refine ref7_DirMay.s ((a.e.keep (by decide) k1).keep (by decide) k15) hl fun h6 k6 => ⟨k5.new k6 (by simp), ?_⟩
     rw [decide_eq_true hd]; rfl
    ·rw [if_pos (by simp; omega)]
     exact ⟨k5, by rw [decide_eq_false hd]; rfl⟩
 ·rintro ⟨(y : Bool), _⟩ h4 ⟨k4, ey⟩
  dsimp only at ey ⊢
  have k14 : Keep [] h1 h4 := k3.new k4 (by simp)
  have k04 : Keep [] h h4 := k03.new k4 (by simp)
  rw [ey]
  cases hb : (ndNum x && decide (x.data.size ≤ 4096) && dirMay x.ents) with
  | false =>
    rw [if_pos (by rfl)]
    have : ndMay x = false := by
     unfold ndMay
     cases hn : ndNum x with
     | false => rfl
     | true =>
       rw [hn] at hb
       simp only [Bool.true_and] at hb ⊢
       split
       ·by_cases hd : x.data = ⟨#[]⟩
        ·rw [hd] at hb
         have h0 : (⟨#[]⟩ : ByteArray).size = 0 := rfl
         rw [h0] at hb
         simp only [decide_eq_true (show (0 : Nat) ≤ 4096 by omega), Bool.true_and] at hb
         rw [hb]; simp
        ·simp [hd]
       ·by_cases he : x.ents = []
        ·rw [he, show dirMay [] = true from rfl] at hb
         simp only [Bool.and_true] at hb
         rw [hb]; rfl
        ·simp [he]
    have := hK h4 k04
    simp_all
  | true =>
    rw [if_neg (by simp)]
    simp only [Bool.and_eq_true, decide_eq_true_eq] at hb
    obtain ⟨⟨h1', h2⟩, h3'⟩ := hb
    refine ld_go (g h4 k14 (by decide) f1) ?_
    have hK := hK h4 k04
    unfold ndMay at hK
    rw [h1', h3'] at hK
    by_cases hk : x.kind = 1
    ·rw [if_pos (by simpa using hk)]
     rw [if_pos hk] at hK
     refine ld_go (g h4 k14 (by decide) f4) ?_
     simpa using hK
    ·rw [if_neg (by simpa using hk)]
     rw [if_neg hk, decide_eq_true h2] at hK
     refine ld_go (g h4 k14 (by decide) f5) ?_
     have gl := a.e.len
     have : decide (((vEnts v).len : Int) = 0) = decide (x.ents = []) := by
      rw [gl]
      cases x.ents with
      | nil => rfl
      | cons => simp; omega
     rw [this]
     simpa using hK
section
variable {t0 : Slc} {ss : List Slc} {vv : List (List NdV)} {X : Fs} {h : Heap}
theorem StW.lens (w : StW h t0 ss vv X) : t0.len = X.length ∧ ss.length = X.length ∧ vv.length = X.length := by
 have h1 := w.t.len
 have h2 := w.r.len
 have h3 := w.n.len
 exact ⟨by omega, by omega, by omega⟩
theorem StW.tab (w : StW h t0 ss vv X) {o : Nat} (ho : o < X.length) {K : Slc → Prop} (hK : K (ss[o]'(by have := w.lens; omega))) : ix t0 (o : Int) 1 fun l => ld .sl l h K := by
 have := w.lens
 exact seg_ix w.t (x := ss[o]'(by omega)) (by omega) (by first | (simp; done) | (simp; omega)) rfl hK
theorem StW.row (w : StW h t0 ss vv X) {o : Nat} (ho : o < X.length) : Seg NdK (ss[o]'(by have := w.lens; omega)) (vv[o]'(by have := w.lens; omega)) h := by
 have := w.lens
 exact w.r.getI (by omega) (by omega)
theorem StW.nds (w : StW h t0 ss vv X) {o : Nat} (ho : o < X.length) : All2 (NdAt h) (vv[o]'(by have := w.lens; omega)) X[o] := by
 have := w.lens
 exact w.n.getI (by omega) ho
theorem StW.rlen (w : StW h t0 ss vv X) {o : Nat} (ho : o < X.length) : (ss[o]'(by have := w.lens; omega)).len = (X[o]).length ∧ (vv[o]'(by have := w.lens; omega)).length = (X[o]).length := by
 have h1 := (w.row ho).len
 have h2 := (w.nds ho).len
 exact ⟨by omega, h2⟩
theorem StW.nd (w : StW h t0 ss vv X) {o j : Nat} (ho : o < X.length) (hj : j < (X[o]).length) {K : NdV → Prop} (hK : ∀ v, NdAt h v (X[o])[j] → K v) : ix (ss[o]'(by have := w.lens; omega)) (j : Int) 6 fun l => ld NdK l h K := by
 have h1 := w.rlen ho
 exact seg_ix (w.row ho) (x := (vv[o]'(by have := w.lens; omega))[j]'(by omega)) (by omega) (by first | (simp; done) | (simp; omega)) rfl (hK _ ((w.nds ho).getI (by omega) hj))
theorem StW.ndl (w : StW h t0 ss vv X) {o j : Nat} (ho : o < X.length) (hj : j < (X[o]).length) {K : Pl → Prop} (hK : ∀ l v, sm NdK l v h → NdAt h v (X[o])[j] → K l) : ix (ss[o]'(by have := w.lens; omega)) (j : Int) 6 fun l => K l := by
 have h1 := w.rlen ho
 refine seg_ixl (w.row ho) (x := (vv[o]'(by have := w.lens; omega))[j]'(by omega)) (by omega) (by first | (simp; done) | (simp; omega)) rfl fun l hl => hK l _ hl ((w.nds ho).getI (by omega) hj)
theorem ref15_at.s {r : Rf} {K : Int → Heap → Prop} (w : StW h t0 ss vv X) (hl : ∀ t ∈ X, t.length ≤ 9223372036854775807)
 (hN : findN X r = none → ∀ h', Keep [] h h' → K (-1) h')
 (hS : ∀ o j, (ho : o < X.length) → (hj : j < (X[o]).length) → r.1 = (o : Int) → findN X r = some (X[o])[j] → ∀ h', Keep [] h h' → K (j : Int) h') : ref15_at.C (t0, ()) r h K := by
 obtain ⟨(ro : Int), (rn : Int), ⟨⟩⟩ := r
 apply ref15_at.c
 unfold ref15_at.m
 refine new_gen fun b1 h1 hb1 k1 e1 hs1 => ?_
 have e1 : h1[b1]? = some (vobj 27 StaK ((t0, ()) : StaK.Ty)) := e1
 refine new_gen fun b2 h2 hb2 k2 e2 hs2 => ?_
 have e2 : h2[b2]? = some (vobj 34 RF ((ro, (rn, ())) : RF.Ty)) := e2
 have e1 := k2.get e1 (by simp)
 have k02 : Keep [] h h2 := k1.new k2 (by simp)
 have w2 := w.keep k02
 have f0 : sm .sl ((Pl.mk b1 0).fld 0) t0 h2 := sm_sub (sm_all e1) (by decide) rfl
 have fo : sm .i ((Pl.mk b2 0).fld 0) ro h2 := sm_sub (sm_all e2) (by decide) rfl
 have fn : sm .i ((Pl.mk b2 0).fld 1) rn h2 := sm_sub (sm_all e2) (by decide) rfl
 have L := w2.lens
 by_cases hr : 0 ≤ ro ∧ ro < X.length
 ·refine jn_at (false, ()) h2 ?_ ?_
  ·refine ld_go fo ?_
   rw [if_neg (show ¬ decide (ro < 0) = true by simp; omega)]
   refine ld_go fo (ld_go f0 ⟨?_, by first | rfl | trivial⟩)
   rw [decide_eq_false (show ¬ ro ≥ (t0.len : Int) by omega)]
  rw [if_neg (by simp)]
  obtain ⟨o, rfl⟩ : ∃ o : Nat, ro = o := ⟨ro.toNat, by omega⟩
  have ho : o < X.length := by omega
  have hlo := hl _ (List.getElem_mem ho)
  have rl := w2.rlen ho
  refine lp_go (fun (y : Int × Unit) (h3 : Heap) => h3 = h2 ∧ ∃ n : Nat, y.1 = n ∧ n ≤ (X[o]).length ∧ ∀ j, (hj : j < (X[o]).length) → j < n → decide ((X[o])[j].num = rn) = false) (fun (y : Int × Unit) _ => (X[o]).length - y.1.toNat) ?_ ?_
  ·exact ⟨rfl, 0, rfl, by omega, fun j hj h => by omega⟩
  ·rintro ⟨(i : Int), _⟩ h3 ⟨rfl, n, e, hn, hall⟩
   dsimp only at e ⊢
   subst e
   refine ld_go f0 (ld_go fo (w2.tab ho ?_))
   by_cases hlt : n < (X[o]).length
   ·rw [if_pos (show decide ((n : Int) < ((ss[o]'(by omega)).len : Int)) = true from decide_eq_true (by omega))]
    have hw : w64 ((n : Int) + 1) = ((n + 1 : Nat) : Int) := by rw [w64_id (by omega) (by omega)]; omega
    rw [hw]
    refine ld_go f0 (ld_go fo (w2.tab ho ?_))
    refine w2.ndl ho hlt fun l v hsm ha => ?_
    have g := (nd_f hsm).1
    rw [ha.n] at g
    refine ld_go g (ld_go fn ?_)
    by_cases hq : (X[o])[n].num = rn
    ·rw [if_pos (show decide ((X[o])[n].num = rn) = true from decide_eq_true hq)]
     refine hS o n ho hlt rfl ?_ h3 k02
     unfold findN
     rw [tabOf_at ho]
     exact findG_at hlt hall (decide_eq_true hq)
    ·rw [if_neg (show ¬ decide ((X[o])[n].num = rn) = true by simpa using hq)]
     refine ⟨⟨by first | rfl | trivial, n + 1, rfl, by omega, fun j hj hjn => ?_⟩, by simp; omega⟩
     by_cases hje : j = n
     ·subst hje; exact decide_eq_false hq
     ·exact hall j hj (by omega)
   ·rw [if_neg (show ¬ decide ((n : Int) < ((ss[o]'(by omega)).len : Int)) = true by simp; omega)]
    refine hN ?_ h3 k02
    unfold findN
    rw [tabOf_at ho]
    exact findG_no fun j hj => hall j hj (by omega)
 ·refine jn_at (true, ()) h2 ?_ ?_
  ·refine ld_go fo ?_
   by_cases h0 : ro < 0
   ·rw [if_pos (show decide (ro < 0) = true from decide_eq_true h0)]
    exact ⟨rfl, by first | rfl | trivial⟩
   ·rw [if_neg (show ¬ decide (ro < 0) = true by simp; omega)]
    refine ld_go fo (ld_go f0 ⟨?_, by first | rfl | trivial⟩)
    rw [decide_eq_true (show ro ≥ (t0.len : Int) by omega)]
  rw [if_pos (by rfl)]
  refine hN ?_ h2 k02
  unfold findN tabOf
  rw [if_neg hr]; rfl
theorem tabMay_iff {t : Tab} : tabMay t = true ↔ ∀ j, (hj : j < t.length) → ndMay t[j] = true ∧ (0 < j → (t[j - 1]'(by omega)).num < t[j].num) := by
 unfold tabMay
 rw [Bool.and_eq_true, risesN_iff, List.all_eq_true]
 constructor
 ·rintro ⟨h1, h2⟩ j hj
  refine ⟨h2 _ (List.getElem_mem hj), fun h0 => ?_⟩
  have := h1 (j - 1) (by omega)
  have e : j - 1 + 1 = j := by omega
  simp only [e] at this
  exact this
 ·intro hh
  refine ⟨fun j hj => ?_, fun x hx => ?_⟩
  ·exact (hh (j + 1) hj).2 (by omega)
  ·obtain ⟨j, hj, rfl⟩ := List.getElem_of_mem hx
   exact (hh j hj).1
theorem ref15_StateMay.s {K : Bool → Heap → Prop} (w : StW h t0 ss vv X) (hl : Lens X) (hK : ∀ h', Keep [] h h' → K (stMay X) h') : ref15_StateMay.C (t0, ()) h K := by
 apply ref15_StateMay.c
 unfold ref15_StateMay.m
 refine new_gen fun b1 h1 hb1 k1 e1 hs1 => ?_
 have e1 : h1[b1]? = some (vobj 27 StaK ((t0, ()) : StaK.Ty)) := e1
 have w1 := w.keep k1
 have L := w1.lens
 have f0 : ∀ h', Keep [] h1 h' → sm .sl ((Pl.mk b1 0).fld 0) t0 h' := fun h' k => sm_sub (sm_all (k.get e1 (by simp))) (by decide) rfl
 by_cases hlen : 1 ≤ X.length ∧ X.length ≤ 24
 case neg =>
  refine jn_at (true, ()) h1 ?_ ?_
  ·refine ld_go (f0 h1 Keep.rfl) ?_
   by_cases h0 : X.length < 1
   ·rw [if_pos (show decide ((t0.len : Int) < 1) = true from decide_eq_true (by omega))]
    exact ⟨rfl, by first | rfl | trivial⟩
   ·rw [if_neg (show ¬ decide ((t0.len : Int) < 1) = true by simp; omega)]
    refine ld_go (f0 h1 Keep.rfl) ⟨?_, by first | rfl | trivial⟩
    rw [decide_eq_true (show (t0.len : Int) > 24 by omega)]
  rw [if_pos (by rfl)]
  have hm : stMay X = false := by
   cases hm : stMay X with
   | false => rfl
   | true => have := st_ok hm; exact absurd ⟨this.1, this.2.1⟩ hlen
  rw [hm] at hK
  exact hK h1 k1
 refine jn_at (false, ()) h1 ?_ ?_
 ·refine ld_go (f0 h1 Keep.rfl) ?_
  rw [if_neg (show ¬ decide ((t0.len : Int) < 1) = true by simp; omega)]
  refine ld_go (f0 h1 Keep.rfl) ⟨?_, by first | rfl | trivial⟩
  rw [decide_eq_false (show ¬ (t0.len : Int) > 24 by omega)]
 rw [if_neg (by simp)]
 have bad : ∀ o, (ho : o < X.length) → tabMay X[o] = false → ∀ h', Keep [] h h' → K false h' := fun o ho hb h' k => by
  have hm : stMay X = false := by
   cases hm : stMay X with
   | false => rfl
   | true => have := (st_ok hm).2.2.1 _ (List.getElem_mem ho); rw [hb] at this; simp at this
  rw [hm] at hK
  exact hK h' k
 refine lp_go (fun (y : Int × Unit) (h3 : Heap) => ∃ n : Nat, y.1 = n ∧ n ≤ X.length ∧ Keep [] h1 h3 ∧ ∀ j, (hj : j < X.length) → j < n → tabMay X[j] = true) (fun (y : Int × Unit) _ => X.length - y.1.toNat) ?_ ?_
 ·exact ⟨0, rfl, by omega, Keep.rfl, fun j hj h => by omega⟩
 ·rintro ⟨(i : Int), _⟩ h3 ⟨n, e, hn, k3, hall⟩
  dsimp only at e ⊢
  subst e
  have k03 : Keep [] h h3 := k1.new k3 (by simp)
  refine ld_go (f0 h3 k3) ?_
  by_cases hlt : n < X.length
  ·rw [if_pos (show decide ((n : Int) < (t0.len : Int)) = true from decide_eq_true (by omega))]
   have hw : w64 ((n : Int) + 1) = ((n + 1 : Nat) : Int) := by rw [w64_id (by omega) (by omega)]; omega
   rw [hw]
   have w3 := w1.keep k3
   refine ld_go (f0 h3 k3) (w3.tab hlt ?_)
   have rl := w3.rlen hlt
   have hlo := (hl.2 _ (List.getElem_mem hlt)).1
   refine lp_go (fun (y : Int × Unit) (h4 : Heap) => ∃ q : Nat, y.1 = q ∧ q ≤ (X[n]).length ∧ Keep [] h1 h4 ∧ ∀ j, (hj : j < (X[n]).length) → j < q → ndMay (X[n])[j] = true ∧ (0 < j → ((X[n])[j - 1]'(by omega)).num < (X[n])[j].num)) (fun (y : Int × Unit) _ => (X[n]).length - y.1.toNat) ?_ ?_
   ·exact ⟨0, rfl, by omega, k3, fun j hj h => by omega⟩
   ·rintro ⟨(i : Int), _⟩ h4 ⟨q, e, hq, k4, hall2⟩
    dsimp only at e ⊢
    subst e
    have w4 := w1.keep k4
    have k04 : Keep [] h h4 := k1.new k4 (by simp)
    by_cases hlq : q < (X[n]).length
    ·rw [if_pos (show decide ((q : Int) < ((ss[n]'(by omega)).len : Int)) = true from decide_eq_true (by omega))]
     have hwq : w64 ((q : Int) + 1) = ((q + 1 : Nat) : Int) := by rw [w64_id (by omega) (by omega)]; omega
     rw [hwq]
     have no : ¬ (ndMay (X[n])[q] = true ∧ (0 < q → ((X[n])[q - 1]'(by omega)).num < (X[n])[q].num)) → tabMay X[n] = false := fun hno => by
      cases hm : tabMay X[n] with
      | false => rfl
      | true => exact absurd (tabMay_iff.1 hm q hlq) hno
     refine jn_in (fun _ h' => Keep [] h1 h' ∧ ndMay (X[n])[q] = true ∧ (0 < q → ((X[n])[q - 1]'(by omega)).num < (X[n])[q].num)) ?_ ?_
     ·refine jn_in (fun y h' => Keep [] h1 h' ∧ y.1 = !decide (ndMay (X[n])[q] = true ∧ (0 < q → ((X[n])[q - 1]'(by omega)).num < (X[n])[q].num))) ?_ ?_
      ·refine w4.nd hlt hlq fun v ha => ?_
       refine ref15_nodeMay.s ha (hl.2 _ (List.getElem_mem hlt) |>.2 _ (List.getElem_mem hlq)) fun h7 k7 => ?_
       have k17 : Keep [] h1 h7 := k4.new k7 (by simp)
       have w7 := w1.keep k17
       cases hm : ndMay (X[n])[q] with
       | false => rw [if_pos (by rfl)]; exact ⟨k17, by simp⟩
       | true =>
         rw [if_neg (by simp)]
         by_cases h0 : 0 < q
         ·rw [if_pos (show decide ((q : Int) > 0) = true from decide_eq_true (by omega))]
          have hwm : w64 ((q : Int) - 1) = ((q - 1 : Nat) : Int) := by rw [w64_id (by omega) (by omega)]; omega
          rw [hwm]
          refine w7.ndl hlt (show q - 1 < (X[n]).length by omega) fun l v hs ha => ?_
          have g := (nd_f hs).1
          rw [ha.n] at g
          refine ld_go g ?_
          refine w7.ndl hlt hlq fun l v hs ha => ?_
          have g' := (nd_f hs).1
          rw [ha.n] at g'
          refine ld_go g' ⟨k17, ?_⟩
          by_cases hlt2 : ((X[n])[q - 1]'(by omega)).num < (X[n])[q].num
          ·have hd : true = true ∧ (0 < q → ((X[n])[q - 1]'(by omega)).num < (X[n])[q].num) := ⟨rfl, fun _ => hlt2⟩
           rw [decide_eq_true hd]
           show decide (((X[n])[q - 1]'(by omega)).num ≥ (X[n])[q].num) = false
           exact decide_eq_false (show ¬ ((X[n])[q].num ≤ ((X[n])[q - 1]'(by omega)).num) by omega)
          ·have hd : ¬ (true = true ∧ (0 < q → ((X[n])[q - 1]'(by omega)).num < (X[n])[q].num)) := fun h => hlt2 (h.2 h0)
           rw [decide_eq_false hd]
           show decide (((X[n])[q - 1]'(by omega)).num ≥ (X[n])[q].num) = true
           exact decide_eq_true (show (X[n])[q].num ≤ ((X[n])[q - 1]'(by omega)).num by omega)
         ·rw [if_neg (show ¬ decide ((q : Int) > 0) = true by simp; omega)]
          refine ⟨k17, ?_⟩
          rw [decide_eq_true (⟨rfl, fun h => absurd h h0⟩ : true = true ∧ (0 < q → ((X[n])[q - 1]'(by omega)).num < (X[n])[q].num))]
          rfl
      ·rintro ⟨(y : Bool), _⟩ h6 ⟨k6, ey⟩
       dsimp only at ey ⊢
       rw [ey]
       by_cases hok : ndMay (X[n])[q] = true ∧ (0 < q → ((X[n])[q - 1]'(by omega)).num < (X[n])[q].num)
       ·rw [decide_eq_true hok, if_neg (by simp)]
        exact ⟨k6, hok⟩
       ·rw [decide_eq_false hok, if_pos (by rfl)]
        exact bad n hlt (no hok) h6 (k1.new k6 (by simp))
     ·rintro ⟨⟩ h5 ⟨k5, hok⟩
      refine ⟨⟨q + 1, rfl, by omega, k5, fun j hj hjq => ?_⟩, by simp; omega⟩
      by_cases hje : j = q
      ·subst hje; exact hok
      ·exact hall2 j hj (by omega)
    ·rw [if_neg (show ¬ decide ((q : Int) < ((ss[n]'(by omega)).len : Int)) = true by simp; omega)]
     refine ⟨⟨n + 1, rfl, by omega, k4, fun j hj hjn => ?_⟩, by simp; omega⟩
     by_cases hje : j = n
     ·subst hje; exact tabMay_iff.2 fun p hp => hall2 p hp (by omega)
     ·exact hall j hj (by omega)
  ·rw [if_neg (show ¬ decide ((n : Int) < (t0.len : Int)) = true by simp; omega)]
   have w3 := w1.keep k3
   refine ld_go (sm_all (k3.get e1 (by simp))) ?_
   have all : X.all tabMay = true := List.all_eq_true.2 fun t ht => by
    obtain ⟨j, hj, rfl⟩ := List.getElem_of_mem ht
    exact hall j hj (by omega)
   have hst : stMay X = (match findN X rootR with | some x => decide (x.kind = 1) | none => false) := by
    unfold stMay
    rw [all, decide_eq_true hlen.1, decide_eq_true hlen.2]; rfl
   refine ref15_at.s w3 (fun t ht => (hl.2 t ht).1) (fun hnone h8 k8 => ?_) fun o j ho hj hro hfi h8 k8 => ?_
   ·rw [show findN X rootR = none from hnone] at hst
    have k08 : Keep [] h h8 := k03.new k8 (by simp)
    refine jn_at (false, ()) h8 ?_ ?_
    ·rw [if_neg (by decide)]; exact ⟨rfl, by first | rfl | trivial⟩
    ·rw [hst] at hK; exact hK h8 k08
   ·have k08 : Keep [] h h8 := k03.new k8 (by simp)
    have k18 : Keep [] h1 h8 := k3.new k8 (by simp)
    have w8 := w1.keep k18
    have ho0 : o = 0 := by have : (0 : Int) = (o : Int) := hro; omega
    subst ho0
    rw [show findN X rootR = some (X[0])[j] from hfi] at hst
    refine jn_at (decide ((X[0])[j].kind = 1), ()) h8 ?_ ?_
    ·rw [if_pos (show decide ((j : Int) ≥ 0) = true from decide_eq_true (by omega))]
     refine ld_go (f0 h8 k18) ?_
     have ht := w8.tab ho (K := fun x => ix x (j : Int) 6 fun l6 => ld .i (l6.fld 1) h8 fun x14 => (decide (x14 = (1 : Int)), ()) = (decide ((X[0])[j].kind = 1), ()) ∧ h8 = h8) (w8.ndl ho hj fun l v hs ha => by
      have g := (nd_f hs).2.1
      rw [ha.k] at g
      exact ld_go g ⟨rfl, rfl⟩)
     exact ht
    ·rw [hst] at hK; exact hK h8 k08
end
def SP (l : List UInt8) : List ByteArray := splitL (l.length + 1) l
theorem cut_at {pre r : List UInt8} (h : ∀ x ∈ pre, x ≠ 47) : cutAt (pre ++ 47 :: r) = (pre, some r) := by
 unfold cutAt
 have h1 : (pre ++ 47 :: r).takeWhile (· ≠ 47) = pre := by
  rw [List.takeWhile_append_of_pos (by simpa using h)]
  simp
 have h2 : (pre ++ 47 :: r).dropWhile (· ≠ 47) = 47 :: r := by
  rw [List.dropWhile_append_of_pos (by simpa using h)]
  simp
 rw [h1, h2]
theorem cut_no {pre : List UInt8} (h : ∀ x ∈ pre, x ≠ 47) : cutAt pre = (pre, none) := by
 unfold cutAt
 have h1 : pre.takeWhile (· ≠ 47) = pre := by
  have := List.takeWhile_append_of_pos (p := (· ≠ 47)) (l₁ := pre) (l₂ := []) (by simpa using h)
  simpa using this
 have h2 : pre.dropWhile (· ≠ 47) = [] := by
  have := List.dropWhile_append_of_pos (p := (· ≠ 47)) (l₁ := pre) (l₂ := []) (by simpa using h)
  simpa using this
 rw [h1, h2]
theorem SP_at {pre r : List UInt8} (h : ∀ x ∈ pre, x ≠ 47) : SP (pre ++ 47 :: r) = bx pre :: SP r := by
 unfold SP
 have e : (pre ++ 47 :: r).length + 1 = (pre.length + r.length + 1) + 1 := by simp; omega
 rw [e]
 conv => lhs; unfold splitL
 rw [cut_at h]
 dsimp only
 rw [splitL_fuel (m := pre.length + r.length + 1) (n := r.length + 1) (by omega) (by omega)]
theorem SP_no {pre : List UInt8} (h : ∀ x ∈ pre, x ≠ 47) : SP pre = [bx pre] := by
 unfold SP splitL
 rw [cut_no h]
theorem namesOf_SP {L : List UInt8} : namesOf (bx L) = SP (L.drop 1) := by
 unfold namesOf SP
 rw [bx_data3, show (bx L).size = L.length from ba_size _]
 exact splitL_fuel (by simp; omega) (by simp)
theorem ref15_Split.s {L : List UInt8} {h : Heap} {K : Slc → Int → Heap → Prop}
 (hN : splitP (bx L) = none → ∀ h', Keep [] h h' → K ⟨none, 0, 0⟩ 1600 h')
 (hS : ∀ ns, splitP (bx L) = some ns → ∀ h' sl, Keep [] h h' → Row h' t_string .s sl ns → (∀ q ∈ own sl, h.size ≤ q) → K sl 0 h') : ref15_Split.C (bx L) h K := by
 apply ref15_Split.c
 unfold ref15_Split.m
 have hz : (bx L).size = L.length := ba_size _
 have hd : (bx L).data.toList = L := bx_data3 L
 by_cases hok : L.length ≤ 128 ∧ L.head? = some 47
 case neg =>
  have hnone : splitP (bx L) = none := by
   unfold splitP
   rw [hz, hd, if_neg hok]
  refine jn_at (true, ()) h ?_ ?_
  ·by_cases h1 : L.length ≤ 128
   ·rw [if_neg (show ¬ decide (((bx L).size : Int) > 128) = true by simp; omega)]
    cases L with
    | nil => rw [if_pos (by rfl)]; exact ⟨rfl, by first | rfl | trivial⟩
    | cons c r =>
      rw [if_neg (by simp only [decide_eq_true_eq]; intro e; have := bx_inj3.1 (show bx (c :: r) = bx [] from e); simp at this)]
      refine ixs_go (i := 0) (by rw [hd]; simp) ⟨rfl, ?_⟩
      refine ⟨?_, by first | rfl | trivial⟩
      have hc : c ≠ 47 := fun e => hok ⟨h1, by simp [e]⟩
      have : (bx (c :: r)).data.toList[0]'(by rw [hd]; simp) = c := by simp [hd]
      rw [this]
      have hn : ¬ ((c.toNat : Int) = ((47 : UInt8).toNat : Int)) := fun e => hc (UInt8.toNat_inj.1 (by omega))
      rw [decide_eq_false hn]; rfl
   ·rw [if_pos (show decide (((bx L).size : Int) > 128) = true from decide_eq_true (by omega))]
    exact ⟨rfl, by first | rfl | trivial⟩
  ·rw [if_pos (by rfl)]
   exact hN hnone h Keep.rfl
 obtain ⟨hl, hh⟩ := hok
 obtain ⟨r, rfl⟩ : ∃ r, L = 47 :: r := by
  cases L with
  | nil => simp at hh
  | cons c r => simp at hh; exact ⟨r, by rw [hh]⟩
 refine jn_at (false, ()) h ?_ ?_
 ·rw [if_neg (show ¬ decide (((bx (47 :: r)).size : Int) > 128) = true by simp; omega)]
  rw [if_neg (by simp only [decide_eq_true_eq]; intro e; have := bx_inj3.1 (show bx (47 :: r) = bx [] from e); simp at this)]
  refine ixs_go (i := 0) (by rw [hd]; simp) ⟨rfl, ?_⟩
  refine ⟨?_, by first | rfl | trivial⟩
  have : (bx (47 :: r)).data.toList[0]'(by rw [hd]; simp) = 47 := by simp [hd]
  rw [this]; rfl
 rw [if_neg (by simp)]
 have hsp : splitP (bx (47 :: r)) = if bx (47 :: r) = ⟨#[47]⟩ then some [] else if (namesOf (bx (47 :: r))).all nameMay = true ∧ (namesOf (bx (47 :: r))).length ≤ 8 then some (namesOf (bx (47 :: r))) else none := by
  unfold splitP
  rw [hz, hd, if_pos ⟨hl, rfl⟩]
 by_cases h1 : bx (47 :: r) = ⟨#[47]⟩
 ·rw [if_pos (by simpa using h1)]
  rw [if_pos h1] at hsp
  exact hS [] hsp h ⟨none, 0, 0⟩ Keep.rfl Row.nil (by simp [own])
 rw [if_neg (by simpa using h1)]
 rw [if_neg h1] at hsp
 generalize hN' : namesOf (bx (47 :: r)) = N at hsp
 have hNS : N = SP r := by rw [← hN', namesOf_SP]; rfl
 have hLl : (47 :: r).length = r.length + 1 := rfl
 refine lp_go (fun (y : Slc × Int × Int × Unit) (h2 : Heap) => Keep [] h h2 ∧ ∃ (acc : List ByteArray) (f i : Nat), Row h2 t_string .s y.1 acc ∧ (∀ q ∈ own y.1, h.size ≤ q) ∧ y.2.1 = f ∧ y.2.2.1 = i ∧ acc.all nameMay = true ∧ acc.length ≤ f ∧
  ((f ≤ i ∧ i ≤ r.length + 1 ∧ 1 ≤ f ∧ N = acc ++ SP ((47 :: r).drop f) ∧ ∀ x ∈ ((47 :: r).take i).drop f, x ≠ 47) ∨ (i = r.length + 2 ∧ N = acc ∧ f = i))) (fun (y : Slc × Int × Int × Unit) _ => r.length + 3 - y.2.2.1.toNat) ?_ ?_
 ·refine ⟨Keep.rfl, [], 1, 1, Row.nil, by simp [own], rfl, rfl, rfl, by simp, .inl ⟨by omega, by omega, by omega, by simpa using hNS, by simp⟩⟩
 ·rintro ⟨(sl : Slc), (fv : Int), (iv : Int), _⟩ h2 ⟨k2, acc, f, i, r2, o2, e1, e2, hall, hacc, hcase⟩
  dsimp only at r2 o2 e1 e2 ⊢
  subst e1; subst e2
  have rl := r2.len
  rcases hcase with ⟨hfi, hir, hf1, hNe, hno⟩ | ⟨hi, hNe, hfe⟩
  case inr =>
   rw [if_neg (show ¬ decide ((i : Int) ≤ ((bx (47 :: r)).size : Int)) = true by simp; omega)]
   subst hNe
   by_cases h8 : N.length ≤ 8
   ·rw [if_neg (show ¬ decide ((sl.len : Int) > 8) = true by simp; omega)]
    rw [if_pos ⟨hall, h8⟩] at hsp
    exact hS _ hsp h2 sl k2 r2 o2
   ·rw [if_pos (show decide ((sl.len : Int) > 8) = true from decide_eq_true (by omega))]
    rw [if_neg (fun h => h8 h.2)] at hsp
    exact hN hsp h2 k2
  rw [if_pos (show decide ((i : Int) ≤ ((bx (47 :: r)).size : Int)) = true from decide_eq_true (by omega))]
  have hwi : w64 ((i : Int) + 1) = ((i + 1 : Nat) : Int) := by rw [w64_id (by omega) (by omega)]; omega
  rw [hwi]
  -- is a name over here?
  have htk : ∀ (hi : i < r.length + 1), ((47 :: r).take (i + 1)).drop f = ((47 :: r).take i).drop f ++ [(47 :: r)[i]'(by simp; omega)] := fun hi => by
   rw [take_succ' (by simp; omega), List.drop_append_of_le_length (by simp; omega)]
  have hdr : ∀ (hi : i < r.length + 1), (47 :: r).drop f = ((47 :: r).take i).drop f ++ (47 :: r)[i]'(by simp; omega) :: (47 :: r).drop (i + 1) := fun hi => by
   have e1 : (47 :: r) = (47 :: r).take i ++ (47 :: r).drop i := (List.take_append_drop _ _).symm
   have e2 : (47 :: r).drop i = (47 :: r)[i]'(by simp; omega) :: (47 :: r).drop (i + 1) := List.drop_eq_getElem_cons (by simp; omega)
   conv => lhs; rw [e1]
   rw [List.drop_append_of_le_length (by simp; omega), e2]
  refine jn_in (fun y h' => Keep [] h h' ∧ ∃ (acc : List ByteArray) (f' : Nat), Row h' t_string .s y.1 acc ∧ (∀ q ∈ own y.1, h.size ≤ q) ∧ y.2.1 = f' ∧ acc.all nameMay = true ∧ acc.length ≤ f' ∧
   ((f' ≤ i + 1 ∧ i + 1 ≤ r.length + 1 ∧ 1 ≤ f' ∧ N = acc ++ SP ((47 :: r).drop f') ∧ ∀ x ∈ ((47 :: r).take (i + 1)).drop f', x ≠ 47) ∨ (i + 1 = r.length + 2 ∧ N = acc ∧ f' = i + 1))) ?_ ?_
  ·by_cases hcont : ∃ (hi : i < r.length + 1), (47 :: r)[i]'(by simp; omega) ≠ 47
   ·obtain ⟨hi, hc⟩ := hcont
    refine jn_at (true, ()) h2 ?_ ?_
    ·rw [if_pos (show decide ((i : Int) < ((bx (47 :: r)).size : Int)) = true from decide_eq_true (by omega))]
     refine ixs_go (i := i) (by rw [hd]; simp; omega) ⟨rfl, ?_⟩
     refine ⟨?_, by first | rfl | trivial⟩
     have hce : (bx (47 :: r)).data.toList[i]'(by rw [hd]; simp; omega) = (47 :: r)[i]'(by simp; omega) := by simp [hd]
     rw [hce]
     have hn : ¬ ((((47 :: r)[i]'(by simp; omega)).toNat : Int) = ((47 : UInt8).toNat : Int)) := fun e => hc (UInt8.toNat_inj.1 (by omega))
     rw [decide_eq_false hn]; rfl
    ·rw [if_pos (by rfl)]
     refine ⟨k2, acc, f, r2, o2, rfl, hall, hacc, .inl ⟨by omega, by omega, hf1, hNe, fun x hx => ?_⟩⟩
     rw [htk hi] at hx
     rcases List.mem_append.1 hx with e | e
     ·exact hno x e
     ·simp at e; rw [e]; exact hc
   ·-- the name ends
    have hpre : (bx (((47 :: r).take i).drop f)) ∈ N ∧ (N = (acc ++ [bx (((47 :: r).take i).drop f)]) ++ (if i < r.length + 1 then SP ((47 :: r).drop (i + 1)) else [])) := by
     by_cases hi : i < r.length + 1
     ·have hc : (47 :: r)[i]'(by simp; omega) = 47 := by
       by_cases hc : (47 :: r)[i]'(by simp; omega) = 47
       ·exact hc
       ·exact absurd ⟨hi, hc⟩ hcont
      have := hdr hi
      rw [hc] at this
      rw [this, SP_at hno] at hNe
      rw [if_pos hi]
      refine ⟨by rw [hNe]; simp, by rw [hNe]; simp⟩
     ·have hie : i = r.length + 1 := by omega
      have : ((47 :: r).take i).drop f = (47 :: r).drop f := by rw [List.take_of_length_le (by simp; omega)]
      rw [this] at hno ⊢
      rw [SP_no hno] at hNe
      rw [if_neg hi]
      refine ⟨by rw [hNe]; simp, by rw [hNe]; simp⟩
    refine jn_at (false, ()) h2 ?_ ?_
    ·by_cases hi : i < r.length + 1
     ·rw [if_pos (show decide ((i : Int) < ((bx (47 :: r)).size : Int)) = true from decide_eq_true (by omega))]
      refine ixs_go (i := i) (by rw [hd]; simp; omega) ⟨rfl, ?_⟩
      refine ⟨?_, by first | rfl | trivial⟩
      have hce : (bx (47 :: r)).data.toList[i]'(by rw [hd]; simp; omega) = (47 :: r)[i]'(by simp; omega) := by simp [hd]
      have hc : (47 :: r)[i]'(by simp; omega) = 47 := by
       by_cases hc : (47 :: r)[i]'(by simp; omega) = 47
       ·exact hc
       ·exact absurd ⟨hi, hc⟩ hcont
      rw [hce, hc]; rfl
     ·rw [if_neg (show ¬ decide ((i : Int) < ((bx (47 :: r)).size : Int)) = true by simp; omega)]
      exact ⟨rfl, by first | rfl | trivial⟩
    ·rw [if_neg (by simp)]
     refine sls_bx (lo := f) (hi := i) (by omega) (by simp; omega) ?_
     refine ref7_NameMay.s ?_
     cases hnm : nameMay (bx (((47 :: r).take i).drop f)) with
     | false =>
       rw [if_pos (by rfl)]
       rw [if_neg (fun h => by have := List.all_eq_true.1 h.1 _ hpre.1; rw [hnm] at this; simp at this)] at hsp
       exact hN hsp h2 k2
     | true =>
       rw [if_neg (by simp)]
       refine sls_bx (lo := f) (hi := i) (by omega) (by simp; omega) ?_
       refine app2 r2 rfl (by omega) fun s' h7 k7 r7 o7 => ?_
       refine ⟨?_, acc ++ [bx (((47 :: r).take i).drop f)], i + 1, r7, fun q hq => ?_, rfl, by simp [hall, hnm], by simp; omega, ?_⟩
       ·exact k2.new k7 o2
       ·rcases o7 q hq with e | e
        ·exact o2 q e
        ·have := k2.1; omega
       ·by_cases hi : i < r.length + 1
        ·rw [if_pos hi] at hpre
         exact .inl ⟨by omega, by omega, by omega, hpre.2, by simp⟩
        ·rw [if_neg hi, List.append_nil] at hpre
         exact .inr ⟨by omega, hpre.2, rfl⟩
  ·rintro ⟨(sl' : Slc), (fv : Int), _⟩ h3 ⟨k3, acc', f', r3, o3, e, hall', hacc', hcase'⟩
   dsimp only at r3 o3 e ⊢
   subst e
   exact ⟨⟨k3, acc', f', i + 1, r3, o3, rfl, rfl, hall', hacc', hcase'⟩, by simp; omega⟩
theorem st_mk {X : Fs} (h1 : 1 ≤ X.length) (h2 : X.length ≤ 24) (h3 : ∀ t ∈ X, tabMay t = true) {x : Nd} (h4 : findN X rootR = some x) (h5 : x.kind = 1) : stMay X = true := by
 unfold stMay
 rw [h4]
 simp only [Bool.and_eq_true, decide_eq_true_eq, List.all_eq_true]
 exact ⟨⟨⟨h1, h2⟩, h3⟩, h5⟩
theorem tabOf_mem {X : Fs} {o : Int} (h : 0 ≤ o ∧ o < X.length) : tabOf X o ∈ X := by
 unfold tabOf
 rw [if_pos h, List.getD_eq_getElem?_getD, List.getElem?_eq_getElem (by omega)]
 exact List.getElem_mem _
theorem tabOf_out {X : Fs} {o : Int} (h : ¬ (0 ≤ o ∧ o < X.length)) : tabOf X o = [] := by unfold tabOf; rw [if_neg h]
theorem tabOf_may {X : Fs} (hX : stMay X = true) {o : Int} : tabMay (tabOf X o) = true := by
 by_cases h : 0 ≤ o ∧ o < X.length
 ·exact (st_ok hX).2.2.1 _ (tabOf_mem h)
 ·rw [tabOf_out h]; rfl
theorem setT_len {X : Fs} {o : Int} {t : Tab} : (setT X o t).length = X.length := by unfold setT; split <;> simp
theorem setT_of {X : Fs} {o p : Int} {t : Tab} : tabOf (setT X o t) p = if p = o ∧ 0 ≤ o ∧ o < X.length then t else tabOf X p := by
 unfold setT
 by_cases h : 0 ≤ o ∧ o < X.length
 ·rw [if_pos h, tabOf_set (by omega)]
  have e : ((o.toNat : Nat) : Int) = o := by omega
  rw [e]
  by_cases hp : p = o
  ·rw [if_pos hp, if_pos ⟨hp, h⟩]
  ·rw [if_neg hp, if_neg fun q => hp q.1]
 ·rw [if_neg h, if_neg fun q => h q.2]
theorem setT_mem {X : Fs} {o : Int} {t y : Tab} (h : y ∈ setT X o t) : y ∈ X ∨ y = t := by
 unfold setT at h
 split at h
 ·rcases List.mem_or_eq_of_mem_set h with e | e
  ·exact .inl e
  ·exact .inr e
 ·exact .inl h
theorem findN_num {X : Fs} {r : Rf} {x : Nd} (h : findN X r = some x) : x.num = r.2.1 ∧ x ∈ tabOf X r.1 := by
 unfold findN at h
 exact ⟨by simpa using List.find?_some h, List.mem_of_find?_eq_some h⟩
theorem findN_may {X : Fs} (hX : stMay X = true) {r : Rf} {x : Nd} (h : findN X r = some x) : ndMay x = true := (tab_ok (tabOf_may hX)).2.1 x (findN_num h).2
theorem setN_len {X : Fs} {r : Rf} {y : Nd} : (setN X r y).length = X.length := setT_len
theorem setN_of {X : Fs} {r : Rf} {y : Nd} {p : Int} (h : p ≠ r.1) : tabOf (setN X r y) p = tabOf X p := by unfold setN; rw [setT_of, if_neg fun q => h q.1]
theorem setN_may {X : Fs} (hX : stMay X = true) {r : Rf} {x y : Nd} (hx : findN X r = some x) (hy : ndMay y = true) (hn : y.num = x.num) (hk : y.kind = x.kind) : stMay (setN X r y) = true := by
 obtain ⟨h1, h2, h3, z, h4, h5⟩ := st_ok hX
 have hxn := findN_num hx
 have hyn : y.num = r.2.1 := hn.trans hxn.1
 have hf := findN_setN (X := X) (q := rootR) hyn
 refine st_mk (x := if r.1 = rootR.1 ∧ r.2.1 = rootR.2.1 then y else z) (by rw [setN_len]; exact h1) (by rw [setN_len]; exact h2) (fun t ht => ?_) ?_ ?_
 ·rcases setT_mem ht with e | e
  ·exact h3 t e
  ·subst e
   have hm := tab_ok (tabOf_may hX (o := r.1))
   unfold tabMay
   rw [rises_map hyn, hm.1]
   simp only [Bool.true_and, List.all_eq_true, List.mem_map]
   rintro q ⟨q', hq', rfl⟩
   split
   ·exact hy
   ·exact hm.2.1 q' hq'
 ·rw [hf, h4]; split <;> rfl
 ·split
  ·rename_i e
   have er : rootR = r := by
    obtain ⟨(a : Int), (b : Int), ⟨⟩⟩ := r
    obtain ⟨e1, e2⟩ := e
    have e1 : a = 0 := e1
    have e2 : b = 1 := e2
    subst e1; subst e2; rfl
   rw [er, hx] at h4
   cases h4
   rw [hk]; exact h5
  ·exact h5
theorem find_mem {t : Tab} (hr : risesN t = true) {x : Nd} (hx : x ∈ t) : t.find? (fun y => decide (y.num = x.num)) = some x := by
 have hp := risesN_pair.1 hr
 induction t with
 | nil => simp at hx
 | cons y t ih =>
   rw [List.pairwise_cons] at hp
   rcases List.mem_cons.1 hx with e | e
   ·subst e; simp
   ·have := hp.1 x e
    rw [List.find?_cons_of_neg (by simp; omega)]
    exact ih (risesN_pair.2 hp.2) e hp.2
def insT (t : Tab) (nd : Nd) : Tab := t.take (freeS t - 1) ++ [nd] ++ t.drop (freeS t - 1)
theorem insT_mem {t : Tab} {nd x : Nd} : x ∈ insT t nd ↔ x ∈ t ∨ x = nd := by
 have h : ∀ n, x ∈ t ↔ x ∈ t.take n ∨ x ∈ t.drop n := fun n => by rw [← List.mem_append, List.take_append_drop]
 unfold insT
 simp only [List.mem_append, List.mem_singleton]
 rw [h (freeS t - 1)]
 constructor
 ·rintro ((a | a) | a)
  ·exact .inl (.inl a)
  ·exact .inr a
  ·exact .inl (.inr a)
 ·rintro ((a | a) | a)
  ·exact .inl (.inl a)
  ·exact .inr a
  ·exact .inl (.inr a)
theorem insT_rises {t : Tab} {nd : Nd} (ht : tabMay t = true) (hn : nd.num = (freeS t : Int)) : risesN (insT t nd) = true :=
 rises_new (tab_ok ht).1 (fun x hx => (nd_ok ((tab_ok ht).2.1 x hx)).1) hn
theorem insT_may {t : Tab} {nd : Nd} (ht : tabMay t = true) (hn : nd.num = (freeS t : Int)) (hd : ndMay nd = true) : tabMay (insT t nd) = true := by
 unfold tabMay
 rw [insT_rises ht hn]
 simp only [Bool.true_and, List.all_eq_true]
 intro x hx
 rcases insT_mem.1 hx with e | e
 ·exact (tab_ok ht).2.1 x e
 ·subst e; exact hd
theorem find_ins {X : Fs} (hX : stMay X = true) {o : Int} {nd : Nd} (hn : nd.num = (freeS (tabOf X o) : Int)) {q : Rf} {x : Nd} (hx : findN X q = some x) : findN (setT X o (insT (tabOf X o) nd)) q = some x := by
 obtain ⟨e1, e2⟩ := findN_num hx
 unfold findN
 rw [setT_of]
 split
 ·rename_i h
  rw [h.1] at e2
  have := find_mem (insT_rises (tabOf_may hX) hn) (insT_mem.2 (.inl e2))
  rw [e1] at this; exact this
 ·exact hx
theorem find_new {X : Fs} (hX : stMay X = true) {o : Int} (ho : 0 ≤ o ∧ o < X.length) {nd : Nd} (hn : nd.num = (freeS (tabOf X o) : Int)) : findN (setT X o (insT (tabOf X o) nd)) (rf o nd.num) = some nd := by
 unfold findN
 rw [setT_of, if_pos ⟨rfl, ho⟩]
 exact find_mem (insT_rises (tabOf_may hX) hn) (insT_mem.2 (.inr rfl))
theorem ins_may {X : Fs} (hX : stMay X = true) {o : Int} {nd : Nd} (hn : nd.num = (freeS (tabOf X o) : Int)) (hd : ndMay nd = true) : stMay (setT X o (insT (tabOf X o) nd)) = true := by
 obtain ⟨h1, h2, h3, z, h4, h5⟩ := st_ok hX
 refine st_mk (by rw [setT_len]; exact h1) (by rw [setT_len]; exact h2) (fun t ht => ?_) (find_ins hX hn h4) h5
 rcases setT_mem ht with e | e
 ·exact h3 t e
 ·subst e; exact insT_may (tabOf_may hX) hn hd
theorem nd_ents {x : Nd} (hx : ndMay x = true) (hk : x.kind = 1) {es : List Ent} (he : dirMay es = true) : ndMay { x with ents := es } = true := by
 unfold ndMay at hx ⊢
 simp only [Bool.and_eq_true] at hx ⊢
 refine ⟨hx.1, ?_⟩
 have h2 := hx.2
 rw [if_pos hk] at h2 ⊢
 simp only [Bool.and_eq_true] at h2 ⊢
 exact ⟨h2.1, he⟩
theorem setR_may {es : List Ent} {x : Ent} : dirMay (setR es x).1 = true := by
 unfold setR
 split
 ·rename_i h; exact h.2
 ·rfl
theorem remR_may {es : List Ent} {k : ByteArray} : dirMay (remR es k).1 = true := by
 unfold remR
 split
 ·rename_i h; exact remL_may h.1
 ·rfl
structure Okd (m : Mb) (u : Int) (X Y : Fs) : Prop where
 may : stMay Y = true
 len : Y.length = X.length
 tab : ∀ p, mIn m u p = false → tabOf Y p = tabOf X p
theorem Okd.rfl' {m : Mb} {u : Int} {X : Fs} (h : stMay X = true) : Okd m u X X := ⟨h, rfl, fun _ _ => rfl⟩
theorem Okd.trans {m : Mb} {u : Int} {X Y Z : Fs} (a : Okd m u X Y) (b : Okd m u Y Z) : Okd m u X Z := ⟨b.may, b.len.trans a.len, fun p hp => (b.tab p hp).trans (a.tab p hp)⟩
section
variable {m : Mb} {u : Int} {X : Fs}
theorem okd_setN (hX : stMay X = true) {r : Rf} (hr : mIn m u r.1 = true) {x y : Nd} (hx : findN X r = some x) (hy : ndMay y = true) (hn : y.num = x.num) (hk : y.kind = x.kind) : Okd m u X (setN X r y) :=
 ⟨setN_may hX hx hy hn hk, setN_len, fun p hp => setN_of fun e => by rw [e, hr] at hp; simp at hp⟩
theorem okd_ents (hX : stMay X = true) {r : Rf} (hr : mIn m u r.1 = true) {x : Nd} (hx : findN X r = some x) (hk : x.kind = 1) {es : List Ent} (he : dirMay es = true) : Okd m u X (setN X r { x with ents := es }) :=
 okd_setN hX hr hx (nd_ents (findN_may hX hx) hk he) rfl rfl
theorem okd_put (hX : stMay X = true) {p : Plc} (hr : mIn m u p.at_.1 = true) {x : Nd} (hx : findN X p.at_ = some x) (hk : x.kind = 1) {r : Rf} : Okd m u X (putS X p r) := by
 unfold putS; rw [hx]; exact okd_ents hX hr hx hk setR_may
theorem okd_drop (hX : stMay X = true) {p : Plc} (hr : mIn m u p.at_.1 = true) {x : Nd} (hx : findN X p.at_ = some x) (hk : x.kind = 1) : Okd m u X (dropS X p) := by
 unfold dropS; rw [hx]; exact okd_ents hX hr hx hk remR_may
theorem okd_ins (hX : stMay X = true) {o : Int} (hr : mIn m u o = true) {nd : Nd} (hn : nd.num = (freeS (tabOf X o) : Int)) (hd : ndMay nd = true) : Okd m u X (setT X o (insT (tabOf X o) nd)) :=
 ⟨ins_may hX hn hd, setT_len, fun p hp => by rw [setT_of, if_neg fun q => by rw [q.1, hr] at hp; simp at hp]⟩
theorem ndN_links {x : Nd} (h : ndMay x = true) {l : Int} (h1 : 1 ≤ l) (h2 : l ≤ 32) : ndMay { x with links := l } = true := by
 unfold ndMay ndNum ndN at h ⊢
 simp only [Bool.and_eq_true, decide_eq_true_eq] at h ⊢
 exact ⟨⟨⟨h.1.1.1, h1⟩, h2⟩, h.2⟩
theorem ndN_mode {x : Nd} (h : ndMay x = true) {l : Int} (h1 : l = 0 ∨ l = 1) : ndMay { x with mode := l } = true := by
 unfold ndMay ndNum ndN at h ⊢
 simp only [Bool.and_eq_true, decide_eq_true_eq, Bool.or_eq_true] at h ⊢
 exact ⟨⟨⟨⟨h.1.1.1.1, h1⟩, h.1.1.2⟩, h.1.2⟩, h.2⟩
theorem ndN_data {x : Nd} (h : ndMay x = true) (hk : x.kind ≠ 1) {d : ByteArray} (hd : d.size ≤ 4096) : ndMay { x with data := d } = true := by
 unfold ndMay at h ⊢
 simp only [Bool.and_eq_true] at h ⊢
 refine ⟨h.1, ?_⟩
 have h2 := h.2
 rw [if_neg hk] at h2 ⊢
 simp only [Bool.and_eq_true, decide_eq_true_eq] at h2 ⊢
 exact ⟨hd, h2.2⟩
theorem okd_more (hX : stMay X = true) {r : Rf} (hr : mIn m u r.1 = true) (hl : ∀ x, findN X r = some x → x.links < 32) : Okd m u X (moreS X r) := by
 unfold moreS
 cases hx : findN X r with
 | none => exact Okd.rfl' hX
 | some x =>
   have hm := findN_may hX hx
   have := (nd_ok hm).2.2.2.2.1
   have := hl x hx
   exact okd_setN hX hr hx (ndN_links hm (by omega) (by omega)) rfl rfl
theorem okd_less (hX : stMay X = true) {r : Rf} (hr : mIn m u r.1 = true) (hroot : r ≠ rootR) : Okd m u X (lessS X r) := by
 unfold lessS
 cases hx : findN X r with
 | none => exact Okd.rfl' hX
 | some x =>
   have hm := findN_may hX hx
   have h1 := (nd_ok hm).2.2.2.2
   dsimp only
   split
   ·obtain ⟨h1, h2, h3, z, h4, h5⟩ := st_ok hX
    refine ⟨st_mk (x := z) (by rw [setT_len]; exact h1) (by rw [setT_len]; exact h2) (fun t ht => ?_) ?_ h5, setT_len, fun p hp => by rw [setT_of, if_neg fun q => by rw [q.1, hr] at hp; simp at hp]⟩
    ·rcases setT_mem ht with e | e
     ·exact h3 t e
     ·subst e
      have hm := tab_ok (tabOf_may hX (o := r.1))
      unfold tabMay
      rw [risesN_filter hm.1]
      simp only [Bool.true_and, List.all_eq_true]
      exact fun q hq => hm.2.1 q (List.mem_filter.1 hq).1
    ·unfold findN
     rw [setT_of]
     split
     ·rename_i e
      have hne : (1 : Int) ≠ r.2.1 := fun e2 => hroot (by
       obtain ⟨(a : Int), (b : Int), ⟨⟩⟩ := r
       have e1 : (0 : Int) = a := e.1
       have e2 : (1 : Int) = b := e2
       subst e1; subst e2; rfl)
      rw [find_filter (show rootR.2.1 ≠ r.2.1 from hne), ← e.1]
      exact h4
     ·exact h4
   ·have h2 : x.links - 1 ≠ 0 := by assumption
    exact okd_setN hX hr hx (ndN_links hm (by omega) (by omega)) rfl rfl
end
section
variable {w : Wk}
theorem toS_is {ns : List ByteArray} {p : Plc} (h : toS w ns = .ok p) : ∃ x, findN w.X p.at_ = some x ∧ x.kind = 1 ∧ trn w p.at_ = true := by
 unfold toS at h
 split at h
 ·simp at h
 ·split at h
  ·simp at h
  ·split at h
   ·simp at h
   ·rename_i x hx
    split at h
    ·simp at h
    ·rename_i hk
     split at h
     ·simp at h
     ·rename_i ht
      cases h
      exact ⟨x, hx, by simpa using hk, by simpa using ht⟩
theorem ownS_ok {r : Rf} {x : Nd} (h : ownS w = .ok (r, x)) : findN w.X r = some x ∧ x.kind ≠ 1 ∧ trn w r = true := by
 unfold ownS at h
 split at h
 ·simp at h
 ·rename_i r' x' hf
  split at h
  ·simp at h
  ·rename_i ht
   cases h
   unfold fileS at hf
   split at hf
   ·simp at hf
   ·rename_i r' x' hm
    split at hf
    ·simp at hf
    ·rename_i hk
     cases hf
     refine ⟨?_, hk, by simpa using ht⟩
     unfold meant at hm
     split at hm
     ·simp at hm
     ·split at hm
      ·rename_i hx
       simp only [Except.ok.injEq, Prod.mk.injEq] at hm
       obtain ⟨rfl, rfl⟩ := hm
       exact hx
      ·simp at hm
theorem meant_ok {r : Rf} {x : Nd} (hm : meant w = .ok (r, x)) : findN w.X r = some x := by
 unfold meant at hm
 split at hm
 ·simp at hm
 ·split at hm
  ·rename_i hx
   simp only [Except.ok.injEq, Prod.mk.injEq] at hm
   obtain ⟨rfl, rfl⟩ := hm
   exact hx
  ·simp at hm
variable (hX : stMay w.X = true)
include hX
theorem create_okd {Y : Fs} {t : An} (h : createS w = .ok (Y, t)) : Okd w.m w.user w.X Y := by
 unfold createS at h
 split at h
 ·simp at h
 ·rename_i p hp
  obtain ⟨x, hx, hk, ht⟩ := toS_is hp
  by_cases q1 : mIn w.m w.user w.c.as_ = false
  ·rw [if_pos q1] at h; simp at h
  rw [if_neg q1] at h
  by_cases q2 : (thereS w.X p).isSome = true
  ·rw [if_pos q2] at h; simp at h
  rw [if_neg q2] at h
  by_cases q3 : 32 ≤ (tabOf w.X w.c.as_).length
  ·rw [if_pos q3] at h; simp at h
  rw [if_neg q3] at h
  by_cases q4 : roomS w.X p ≠ 0
  ·rw [if_pos q4] at h; simp at h
  rw [if_neg q4] at h
  simp only [Except.ok.injEq, Prod.mk.injEq] at h
  obtain ⟨rfl, _⟩ := h
  have hf := free_le (t := tabOf w.X w.c.as_)
  have hd : ndMay ⟨(freeS (tabOf w.X w.c.as_) : Int), if w.c.op = 2 then 1 else 0, 1, 1, ⟨#[]⟩, []⟩ = true := by
   have h1 : (1 : Int) ≤ (freeS (tabOf w.X w.c.as_) : Int) := by omega
   have h2 : (freeS (tabOf w.X w.c.as_) : Int) ≤ 32 := by omega
   unfold ndMay ndNum ndN
   rw [decide_eq_true h1, decide_eq_true h2]
   split <;> rfl
  have o1 := okd_ins (m := w.m) (u := w.user) hX (o := w.c.as_) (by simpa using q1) (nd := ⟨(freeS (tabOf w.X w.c.as_) : Int), if w.c.op = 2 then 1 else 0, 1, 1, ⟨#[]⟩, []⟩) rfl hd
  exact o1.trans (okd_put o1.may ht (find_ins hX (nd := ⟨(freeS (tabOf w.X w.c.as_) : Int), if w.c.op = 2 then 1 else 0, 1, 1, ⟨#[]⟩, []⟩) rfl hx) hk)
theorem write_okd {Y : Fs} {t : An} (h : writeS w = .ok (Y, t)) : Okd w.m w.user w.X Y := by
 unfold writeS at h
 split at h
 ·simp at h
 ·rename_i r x ho
  obtain ⟨hx, hk, ht⟩ := ownS_ok ho
  by_cases q1 : w.c.at_ < 0 ∨ (x.data.size : Int) < w.c.at_
  ·rw [if_pos q1] at h; simp at h
  rw [if_neg q1] at h
  by_cases q2 : 4096 - w.c.at_ < (w.c.data.size : Int)
  ·rw [if_pos q2] at h; simp at h
  rw [if_neg q2] at h
  dsimp only at h
  split at h
  ·simp at h
  ·simp only [Except.ok.injEq, Prod.mk.injEq] at h
   obtain ⟨rfl, _⟩ := h
   have hm := findN_may hX hx
   have hs := (nd_small hm).1
   refine okd_setN hX ht hx (ndN_data hm hk ?_) rfl rfl
   have e1 : x.data.size = x.data.data.toList.length := rfl
   have e2 : w.c.data.size = w.c.data.data.toList.length := rfl
   have : (bx (writeL x.data.data.toList w.c.data.data.toList w.c.at_.toNat)).size = (writeL x.data.data.toList w.c.data.data.toList w.c.at_.toNat).length := ba_size _
   rw [this]
   unfold writeL
   simp only [List.length_append, List.length_take, List.length_drop]
   omega
theorem trunc_okd {Y : Fs} {t : An} (h : truncS w = .ok (Y, t)) : Okd w.m w.user w.X Y := by
 unfold truncS at h
 split at h
 ·simp at h
 ·rename_i r x ho
  obtain ⟨hx, hk, ht⟩ := ownS_ok ho
  by_cases q1 : w.c.n < 0 ∨ (x.data.size : Int) < w.c.n
  ·rw [if_pos q1] at h; simp at h
  rw [if_neg q1] at h
  simp only [Except.ok.injEq, Prod.mk.injEq] at h
  obtain ⟨rfl, _⟩ := h
  have hm := findN_may hX hx
  have hs := (nd_small hm).1
  refine okd_setN hX ht hx (ndN_data hm hk ?_) rfl rfl
  have e1 : x.data.size = x.data.data.toList.length := rfl
  have : (bx (x.data.data.toList.take w.c.n.toNat)).size = (x.data.data.toList.take w.c.n.toNat).length := ba_size _
  rw [this, List.length_take]
  omega
theorem remove_okd {Y : Fs} {t : An} (h : removeS w = .ok (Y, t)) : Okd w.m w.user w.X Y := by
 unfold removeS at h
 split at h
 ·simp at h
 ·rename_i p r he
  obtain ⟨hp, hth, _⟩ := entryS_ok he
  obtain ⟨x, hx, hk, ht⟩ := toS_is hp
  split at h
  ·simp at h
  ·rename_i y hy
   by_cases q1 : w.c.op = 6 ∧ y.kind = 1
   ·rw [if_pos q1] at h; simp at h
   rw [if_neg q1] at h
   by_cases q2 : w.c.op ≠ 6 ∧ y.kind ≠ 1
   ·rw [if_pos q2] at h; simp at h
   rw [if_neg q2] at h
   by_cases q3 : trn w r = false ∨ (w.c.op ≠ 6 ∧ r = rootR)
   ·rw [if_pos q3] at h; simp at h
   rw [if_neg q3] at h
   by_cases q4 : y.ents ≠ []
   ·rw [if_pos q4] at h; simp at h
   rw [if_neg q4] at h
   simp only [Except.ok.injEq, Prod.mk.injEq] at h
   obtain ⟨rfl, _⟩ := h
   have htr : mIn w.m w.user r.1 = true := by
    have := fun e => q3 (.inl e)
    simpa [trn] using this
   have hroot : r ≠ rootR := by
    intro e
    by_cases ho : w.c.op = 6
    ·obtain ⟨_, _, _, z, hz, hzk⟩ := st_ok hX
     rw [e, hz] at hy
     cases hy
     exact q1 ⟨ho, hzk⟩
    ·exact q3 (.inr ⟨ho, e⟩)
   have o1 := okd_drop (m := w.m) (u := w.user) hX ht hx hk
   exact o1.trans (okd_less o1.may htr hroot)
omit hX in
theorem drop_find {p : Plc} {r : Rf} {x : Nd} (hx : findN w.X r = some x) : ∃ y, findN (dropS w.X p) r = some y ∧ y.kind = x.kind ∧ y.links = x.links := by
 unfold dropS
 cases hp : findN w.X p.at_ with
 | none => exact ⟨x, hx, rfl, rfl⟩
 | some z =>
   dsimp only
   rw [findN_setN (show ({ z with ents := (remR z.ents p.name).1 } : Nd).num = p.at_.2.1 from (findN_num hp).1), hx]
   split
   ·rename_i e
    have er : p.at_ = r := by
     obtain ⟨(a : Int), (b : Int), ⟨⟩⟩ := r
     obtain ⟨e1, e2⟩ := e
     cases hq : p.at_ with
     | mk c d =>
       obtain ⟨d, ⟨⟩⟩ := d
       rw [hq] at e1 e2
       have e1 : c = a := e1
       have e2 : d = b := e2
       subst e1; subst e2; rfl
    rw [er, hx] at hp
    cases hp
    exact ⟨_, rfl, rfl, rfl⟩
   ·exact ⟨x, rfl, rfl, rfl⟩
theorem rename_okd {Y : Fs} {t : An} (h : renameS w = .ok (Y, t)) : Okd w.m w.user w.X Y := by
 unfold renameS at h
 split at h
 ·simp at h
 ·rename_i f hf
  obtain ⟨x, hx, hk, ht⟩ := toS_is hf
  split at h
  ·simp at h
  ·rename_i g hg
   obtain ⟨y, hy, hk', ht'⟩ := toS_is hg
   split at h
   ·simp at h
   ·rename_i r hr
    by_cases q1 : (findN w.X r).isNone = true
    ·rw [if_pos q1] at h; simp at h
    rw [if_neg q1] at h
    by_cases q2 : (thereS w.X g).isSome = true
    ·rw [if_pos q2] at h; simp at h
    rw [if_neg q2] at h
    by_cases q3 : r ∈ g.way
    ·rw [if_pos q3] at h; simp at h
    rw [if_neg q3] at h
    by_cases q4 : f.at_ ≠ g.at_ ∧ roomS w.X g ≠ 0
    ·rw [if_pos q4] at h; simp at h
    rw [if_neg q4] at h
    simp only [Except.ok.injEq, Prod.mk.injEq] at h
    obtain ⟨rfl, _⟩ := h
    have o1 := okd_drop (m := w.m) (u := w.user) hX ht hx hk
    obtain ⟨z, hz, hzk, _⟩ := drop_find (p := f) hy
    exact o1.trans (okd_put o1.may ht' hz (by rw [hzk]; exact hk'))
omit hX in
theorem put_find {p : Plc} {q r : Rf} {x : Nd} (hx : findN w.X r = some x) : ∃ y, findN (putS w.X p q) r = some y ∧ y.kind = x.kind ∧ y.links = x.links := by
 unfold putS
 cases hp : findN w.X p.at_ with
 | none => exact ⟨x, hx, rfl, rfl⟩
 | some z =>
   dsimp only
   rw [findN_setN (show ({ z with ents := (setR z.ents (p.name, (q, ()))).1 } : Nd).num = p.at_.2.1 from (findN_num hp).1), hx]
   split
   ·rename_i e
    have er : p.at_ = r := by
     obtain ⟨(a : Int), (b : Int), ⟨⟩⟩ := r
     obtain ⟨e1, e2⟩ := e
     cases hq : p.at_ with
     | mk c d =>
       obtain ⟨d, ⟨⟩⟩ := d
       rw [hq] at e1 e2
       have e1 : c = a := e1
       have e2 : d = b := e2
       subst e1; subst e2; rfl
    rw [er, hx] at hp
    cases hp
    exact ⟨_, rfl, rfl, rfl⟩
   ·exact ⟨x, rfl, rfl, rfl⟩
theorem link_okd {Y : Fs} {t : An} (h : linkS w = .ok (Y, t)) : Okd w.m w.user w.X Y := by
 unfold linkS at h
 split at h
 ·simp at h
 ·rename_i r x ho
  obtain ⟨hx, hk, ht⟩ := ownS_ok ho
  split at h
  ·simp at h
  ·rename_i g hg
   obtain ⟨y, hy, hk', ht'⟩ := toS_is hg
   by_cases q1 : (thereS w.X g).isSome = true
   ·rw [if_pos q1] at h; simp at h
   rw [if_neg q1] at h
   by_cases q2 : 32 ≤ x.links
   ·rw [if_pos q2] at h; simp at h
   rw [if_neg q2] at h
   by_cases q3 : roomS w.X g ≠ 0
   ·rw [if_pos q3] at h; simp at h
   rw [if_neg q3] at h
   simp only [Except.ok.injEq, Prod.mk.injEq] at h
   obtain ⟨rfl, _⟩ := h
   have o1 := okd_put (m := w.m) (u := w.user) hX (r := r) ht' hy hk'
   obtain ⟨z, hz, _, hzl⟩ := put_find (p := g) (q := r) hx
   exact o1.trans (okd_more o1.may ht fun q hq => by rw [hz] at hq; cases hq; omega)
theorem chmod_okd {Y : Fs} {t : An} (h : chmodS w = .ok (Y, t)) : Okd w.m w.user w.X Y := by
 unfold chmodS at h
 split at h
 ·simp at h
 ·rename_i r x hm
  have hx := meant_ok hm
  by_cases q1 : trn w r = false
  ·rw [if_pos q1] at h; simp at h
  rw [if_neg q1] at h
  by_cases q2 : w.c.n ≠ 0 ∧ w.c.n ≠ 1
  ·rw [if_pos q2] at h; simp at h
  rw [if_neg q2] at h
  simp only [Except.ok.injEq, Prod.mk.injEq] at h
  obtain ⟨rfl, _⟩ := h
  exact okd_setN hX (by simpa [trn] using q1) hx (ndN_mode (findN_may hX hx) (by omega)) rfl rfl
theorem same_okd {Y : Fs} {t : An} (h : lookS w = .ok (Y, t) ∨ readS w = .ok (Y, t) ∨ listS w = .ok (Y, t)) : Okd w.m w.user w.X Y := by
 have : Y = w.X := by
  rcases h with hd | hd | hd
  ·unfold lookS at hd
   split at hd <;> simp at hd
   exact hd.1.symm
  ·unfold readS at hd
   split at hd
   ·simp at hd
   ·split at hd
    ·simp at hd
    ·split at hd <;> simp at hd
     exact hd.1.symm
  ·unfold listS at hd
   split at hd
   ·simp at hd
   ·split at hd
    ·simp at hd
    ·split at hd <;> simp at hd
     exact hd.1.symm
 rw [this]; exact Okd.rfl' hX
theorem doS_okd {Y : Fs} {t : An} (h : doS w = .ok (Y, t)) : Okd w.m w.user w.X Y := by
 unfold doS at h
 split at h
 ·exact same_okd hX (.inl h)
 split at h
 ·exact create_okd hX h
 split at h
 ·exact same_okd hX (.inr (.inl h))
 split at h
 ·exact write_okd hX h
 split at h
 ·exact trunc_okd hX h
 split at h
 ·exact remove_okd hX h
 split at h
 ·exact rename_okd hX h
 split at h
 ·exact link_okd hX h
 split at h
 ·exact same_okd hX (.inr (.inr h))
 ·exact chmod_okd hX h
end
theorem err_ne {w : Wk} {Y : Fs} {t : An} (h : doS w = .ok (Y, t)) : t.code = 0 := by
 have st : ∀ X r, (statS X r).code = 0 := fun X r => by unfold statS; split <;> rfl
 unfold doS at h
 repeat' split at h
 all_goals
  first
  | (unfold lookS at h; repeat' split at h)
  | (unfold createS at h; repeat' split at h)
  | (unfold readS at h; repeat' split at h)
  | (unfold writeS at h; dsimp only at h; repeat' split at h)
  | (unfold truncS at h; repeat' split at h)
  | (unfold removeS at h; repeat' split at h)
  | (unfold renameS at h; repeat' split at h)
  | (unfold linkS at h; repeat' split at h)
  | (unfold listS at h; repeat' split at h)
  | (unfold chmodS at h; repeat' split at h)
 all_goals simp at h
 all_goals obtain ⟨_, rfl⟩ := h
 all_goals first | exact st _ _ | rfl
theorem DoS_okd {m : Mb} {X : Fs} {u : Int} {c : Cl} : DoS m X u c = ([], an0, 1700) ∨ ((DoS m X u c).2.2 = 0 ∧ stMay X = true ∧ Okd m u X (DoS m X u c).1 ∧ ((DoS m X u c).2.1.code = 0 ∨ ∃ e, (DoS m X u c).1 = X ∧ (DoS m X u c).2.1 = anE e)) := by
 unfold DoS
 by_cases hd : doMay m X u c = false
 ·rw [if_pos hd]; exact .inl rfl
 ·rw [if_neg hd]
  right
  have hX : stMay X = true := by
   have h1 : doMay m X u c = true := by simpa using hd
   unfold doMay at h1
   simp only [Bool.and_eq_true, decide_eq_true_eq] at h1
   exact h1.1.1.1.1.1.2
  split
  ·exact ⟨rfl, hX, Okd.rfl' hX, .inr ⟨_, rfl, rfl⟩⟩
  ·rename_i a b _
   split
   ·exact ⟨rfl, hX, Okd.rfl' hX, .inr ⟨_, rfl, rfl⟩⟩
   ·rename_i Y t hY
    exact ⟨rfl, hX, doS_okd (w := ⟨m, X, u, c, a, b⟩) hX hY, .inl (err_ne hY)⟩
theorem ref15_In.s {v : MbK.Ty} {m : Mb} {u p : Int} {h : Heap} {K : Bool → Heap → Prop} (a : MbAt h v m) (hgl : m.groups.length ≤ 9223372036854775807) (hK : ∀ h', Keep [] h h' → K (mbMay m && mIn m u p) h') : ref15_In.C v u p h K := by
 apply ref15_In.c
 unfold ref15_In.m
 refine new_gen fun b h1 hb k1 e1 hs1 => ?_
 have e1 : h1[b]? = some (vobj 24 MbK v) := e1
 have a1 := a.keep k1
 have s0 : ∀ h', Keep [] h1 h' → sm .i ((Pl.mk b 0).fld 0) m.users h' := fun h' k => by
  rw [← a.u]
  exact sm_sub (sm_all (k.get e1 (by simp))) (by decide) rfl
 have s1 : ∀ h', Keep [] h1 h' → sm .sl ((Pl.mk b 0).fld 1) v.2.1 h' := fun h' k => sm_sub (sm_all (k.get e1 (by simp))) (by decide) rfl
 refine jn_in (fun y h' => Keep [] h1 h' ∧ ((y.1 = true ∧ (mbMay m && mIn m u p) = false) ∨ (y.1 = false ∧ mbMay m = true ∧ 0 ≤ u ∧ u < m.users ∧ 0 ≤ p ∧ p < prins m))) ?_ ?_
 ·refine ld_go (sm_all e1) ?_
  refine ref15_MembersMay.s a1 hgl fun h3 k3 => ?_
  cases hm : mbMay m with
  | false => rw [if_pos (by rfl)]; exact ⟨k3, .inl ⟨rfl, rfl⟩⟩
  | true =>
    rw [if_neg (by simp)]
    have no : (u < 0 ∨ m.users ≤ u ∨ p < 0 ∨ prins m ≤ p) → (true && mIn m u p) = false := fun h => by
     unfold mIn; rw [if_pos h]; rfl
    by_cases h0 : u < 0
    ·rw [if_pos (by simpa using h0)]; exact ⟨k3, .inl ⟨rfl, no (.inl h0)⟩⟩
    rw [if_neg (by simpa using h0)]
    refine ld_go (s0 h3 k3) ?_
    by_cases h1 : m.users ≤ u
    ·rw [if_pos (show decide (u ≥ m.users) = true from decide_eq_true h1)]; exact ⟨k3, .inl ⟨rfl, no (.inr (.inl h1))⟩⟩
    rw [if_neg (show ¬ decide (u ≥ m.users) = true by simp; omega)]
    by_cases h2 : p < 0
    ·rw [if_pos (by simpa using h2)]; exact ⟨k3, .inl ⟨rfl, no (.inr (.inr (.inl h2)))⟩⟩
    rw [if_neg (by simpa using h2)]
    refine ld_go (sm_all (k3.get e1 (by simp))) ?_
    refine ref15_Principals.s (a1.keep k3) hm fun h4 k4 => ?_
    by_cases h3 : prins m ≤ p
    ·exact ⟨k3.new k4 (by simp), .inl ⟨decide_eq_true h3, no (.inr (.inr (.inr h3)))⟩⟩
    ·exact ⟨k3.new k4 (by simp), .inr ⟨decide_eq_false h3, rfl, by omega, by omega, by omega, by omega⟩⟩
 ·rintro ⟨(y : Bool), _⟩ h2 ⟨k2, hy⟩
  dsimp only at hy ⊢
  have k02 : Keep [] h h2 := k1.new k2 (by simp)
  rcases hy with ⟨rfl, hf⟩ | ⟨rfl, hm, c1, c2, c3, c4⟩
  ·rw [if_pos rfl]; rw [hf] at hK; exact hK h2 k02
  rw [if_neg (by simp)]
  rw [hm, Bool.true_and] at hK
  have hmi : mIn m u p = if p < m.users then decide (u = p) else (m.groups.getD (p - m.users).toNat []).contains u := by
   unfold mIn; rw [if_neg (by omega)]
  rw [hmi] at hK
  refine ld_go (s0 h2 k2) ?_
  by_cases hp : p < m.users
  ·rw [if_pos (by simpa using hp)]
   rw [if_pos hp] at hK
   rw [show decide (p = u) = decide (u = p) by by_cases e : p = u <;> simp [e]; exact fun h => e h.symm]
   exact hK h2 k02
  rw [if_neg (by simpa using hp)]
  rw [if_neg hp] at hK
  refine ld_go (s1 h2 k2) (ld_go (s0 h2 k2) ?_)
  obtain ⟨q1, q2, q3, _⟩ := mb_ok hm
  have a2 := a1.keep k2
  obtain ⟨_, gs, g1, g2⟩ := a2
  have glen := g1.len
  have l2 := g2.len
  unfold prins at c4
  have hw : w64 (p - m.users) = (((p - m.users).toNat : Nat) : Int) := by rw [w64_id (by omega) (by omega)]; omega
  rw [hw]
  generalize hj : (p - m.users).toNat = j at hK
  have hj1 : j < gs.length := by omega
  have hj2 : j < m.groups.length := by omega
  refine seg_ix g1 (x := gs[j]) (by omega) (by simp [hj1]) rfl ?_
  have gg := g2.getI hj1 hj2
  have ggl := gg.1.len
  have hgl2 := gg.2
  have hgd : m.groups.getD j [] = m.groups[j] := getD_at hj2
  rw [hgd] at hK
  refine lp_go (fun (y : Int × Unit) (h5 : Heap) => h5 = h2 ∧ ∃ n : Nat, y.1 = n ∧ n ≤ (m.groups[j]).length ∧ ∀ t, (ht : t < (m.groups[j]).length) → t < n → (m.groups[j])[t] ≠ u) (fun (y : Int × Unit) _ => (m.groups[j]).length - y.1.toNat) ?_ ?_
  ·exact ⟨rfl, 0, rfl, by omega, fun t ht h => by omega⟩
  ·rintro ⟨(i : Int), _⟩ h5 ⟨rfl, n, e, hn, hall⟩
   dsimp only at e ⊢
   subst e
   by_cases hlt : n < (m.groups[j]).length
   ·rw [if_pos (show decide ((n : Int) < ((gs[j]).len : Int)) = true from decide_eq_true (by omega))]
    have hw : w64 ((n : Int) + 1) = ((n + 1 : Nat) : Int) := by rw [w64_id (by omega) (by omega)]; omega
    rw [hw]
    refine seg_ix gg.1 (x := (m.groups[j])[n]) (by omega) (by simp [hlt]) rfl ?_
    by_cases he : (m.groups[j])[n] = u
    ·rw [if_pos (by simpa using he)]
     have : (m.groups[j]).contains u = true := by rw [List.contains_iff_mem, ← he]; exact List.getElem_mem hlt
     rw [this] at hK
     exact hK h5 k02
    ·rw [if_neg (by simpa using he)]
     refine ⟨⟨by first | rfl | trivial, n + 1, rfl, by omega, fun t ht htn => ?_⟩, by simp; omega⟩
     by_cases hte : t = n
     ·subst hte; exact he
     ·exact hall t ht (by omega)
   ·rw [if_neg (show ¬ decide ((n : Int) < ((gs[j]).len : Int)) = true by simp; omega)]
    have : (m.groups[j]).contains u = false := by
     cases hc : (m.groups[j]).contains u with
     | false => rfl
     | true =>
       rw [List.contains_iff_mem] at hc
       obtain ⟨t, ht, e⟩ := List.mem_iff_getElem.1 hc
       exact absurd e (hall t ht (by omega))
    rw [this] at hK
    exact hK h5 k02
theorem ref15_Used.s {t0 : Slc} {ss : List Slc} {vv : List (List NdV)} {X : Fs} {o : Int} {h : Heap} {K : Int → Heap → Prop} (w : StW h t0 ss vv X) (hs : Small X) (hK : ∀ h', Keep [] h h' → K (usedS X o) h') : ref15_Used.C (t0, ()) o h K := by
 apply ref15_Used.c
 unfold ref15_Used.m
 refine new_gen fun b h1 hb k1 e1 hs1 => ?_
 have e1 : h1[b]? = some (vobj 27 StaK ((t0, ()) : StaK.Ty)) := e1
 have s0 : ∀ h', Keep [] h1 h' → sm .sl ((Pl.mk b 0).fld 0) t0 h' := fun h' k => sm_sub (sm_all (k.get e1 (by simp))) (by decide) rfl
 have L := w.lens
 by_cases hc : 0 ≤ o ∧ o < X.length
 case neg =>
  refine jn_at (true, ()) h1 ?_ ?_
  ·by_cases c1 : o < 0
   ·rw [if_pos (by simpa using c1)]; exact ⟨by first | rfl | trivial, by first | rfl | trivial⟩
   rw [if_neg (by simpa using c1)]
   refine ld_go (s0 h1 Keep.rfl) ?_
   exact ⟨by simp; omega, by first | rfl | trivial⟩
  ·rw [if_pos (by rfl)]
   have : usedS X o = 0 := by unfold usedS tabOf; rw [if_neg hc]; rfl
   rw [← this]; exact hK h1 k1
 obtain ⟨n, rfl⟩ : ∃ t : Nat, o = t := ⟨o.toNat, by omega⟩
 have hlt : n < X.length := by omega
 refine jn_at (false, ()) h1 ?_ ?_
 ·rw [if_neg (by simp)]
  refine ld_go (s0 h1 Keep.rfl) ?_
  exact ⟨by simp; omega, by first | rfl | trivial⟩
 rw [if_neg (by simp)]
 have w1 := w.keep k1
 have rl := w1.rlen hlt
 obtain ⟨h32, hE⟩ := hs.2 _ (List.getElem_mem hlt)
 have hu : usedS X (n : Int) = (X[n].map ndUsed).sum := by unfold usedS; rw [tabOf_at hlt]
 refine lp_go (fun (y : Int × Int × Unit) (h3 : Heap) => ∃ q : Nat, y.2.1 = q ∧ q ≤ X[n].length ∧ Keep [] h1 h3 ∧ y.1 = ((X[n].take q).map ndUsed).sum) (fun (y : Int × Int × Unit) _ => X[n].length - y.2.1.toNat) ?_ ?_
 ·exact ⟨0, rfl, Nat.zero_le _, Keep.rfl, rfl⟩
 ·rintro ⟨(a : Int), (i : Int), _⟩ h3 ⟨q, e, hq, k3, ea⟩
  dsimp only at e ea ⊢
  subst e; subst ea
  have w3 := w1.keep k3
  refine ld_go (s0 h3 k3) (w3.tab hlt ?_)
  by_cases hlq : q < X[n].length
  ·rw [if_pos (show decide ((q : Int) < ((ss[n]'(by omega)).len : Int)) = true from decide_eq_true (by omega))]
   refine ld_go (s0 h3 k3) (w3.tab hlt ?_)
   refine w3.nd hlt hlq fun v hv => ?_
   refine new_st_gen fun b2 h5 hb2 k5 e5 hs5 => ?_
   have e5 : h5[b2]? = some (vobj 83 NdK v) := e5
   obtain ⟨_, _, _, _, g4, g5⟩ := nd_f (sm_all e5)
   rw [hv.d] at g4
   refine ld_go g4 (ld_go g5 ?_)
   have el := hv.e.len
   have hx := hE _ (List.getElem_mem hlq)
   have hle := used_le (t := X[n].take q) fun x hx => hE x (List.mem_of_mem_take hx)
   have hlt32 : (X[n].take q).length ≤ 32 := by rw [List.length_take]; omega
   have e1 : w64 (32 * ((vEnts v).len : Int)) = 32 * ((X[n][q]).ents.length : Int) := by rw [el, w64_id (by omega) (by omega)]
   have e2 : w64 (((X[n].take q).map ndUsed).sum + ((X[n][q]).data.size : Int)) = ((X[n].take q).map ndUsed).sum + ((X[n][q]).data.size : Int) := by rw [w64_id (by omega) (by omega)]
   have e3 : w64 ((q : Int) + 1) = ((q + 1 : Nat) : Int) := by rw [w64_id (by omega) (by omega)]; omega
   have e4 : w64 (((X[n].take q).map ndUsed).sum + ((X[n][q]).data.size : Int) + 32 * ((X[n][q]).ents.length : Int)) = ((X[n].take (q + 1)).map ndUsed).sum := by
    rw [w64_id (by omega) (by omega), take_succ' hlq, List.map_append, List.sum_append]
    simp only [List.map_cons, List.map_nil, List.sum_cons, List.sum_nil, ndUsed]
    omega
   rw [e1, e2, e3, e4]
   exact ⟨⟨q + 1, rfl, by omega, k3.new k5 (by simp), rfl⟩, by simp; omega⟩
  ·rw [if_neg (show ¬ decide ((q : Int) < ((ss[n]'(by omega)).len : Int)) = true by simp; omega)]
   have : X[n].take q = X[n] := List.take_of_length_le (by omega)
   rw [this, ← hu]
   exact hK h3 (k1.new k3 (by simp))
def ZX (X : Fs) (n : Nat) : Fs := X.take n ++ List.replicate (X.length - n) []
theorem zx_len {X : Fs} {n : Nat} (hn : n ≤ X.length) : (ZX X n).length = X.length := by unfold ZX; simp; omega
theorem zx_get {X : Fs} {n j : Nat} (hn : n ≤ X.length) (hj : j < (ZX X n).length) (hj' : j < X.length) : (ZX X n)[j] = if j < n then X[j] else [] := by
 have h : (ZX X n)[j]? = some (if j < n then X[j] else []) := by
  unfold ZX
  by_cases h : j < n
  ·rw [if_pos h, List.getElem?_append_left (by simp; omega), List.getElem?_take_of_lt h, List.getElem?_eq_getElem hj']
  ·rw [if_neg h, List.getElem?_append_right (by simp; omega), List.getElem?_replicate, if_pos (by simp; omega)]
 rw [List.getElem?_eq_getElem hj] at h
 exact Option.some.inj h
theorem zx_next {X : Fs} {n : Nat} (hn : n < X.length) : (ZX X n).set n X[n] = ZX X (n + 1) := by
 have h1 := zx_len (X := X) (n := n) (by omega)
 have h2 := zx_len (X := X) (n := n + 1) (by omega)
 refine List.ext_getElem (by simp; omega) fun j g1 g2 => ?_
 rw [List.getElem_set, zx_get (by omega) (by simp at g1; omega) (by omega), zx_get (by omega) g2 (by omega)]
 by_cases e : n = j
 ·subst e; rw [if_pos rfl, if_pos (by omega)]
 ·rw [if_neg e]
  by_cases h : j < n
  ·rw [if_pos h, if_pos (by omega)]
  ·rw [if_neg h, if_neg (by omega)]
theorem zx_same {X : Fs} {n : Nat} (hn : n < X.length) : (ZX X n).set n [] = ZX X n := by
 have h1 := zx_len (X := X) (n := n) (by omega)
 refine List.ext_getElem (by simp) fun j g1 g2 => ?_
 rw [List.getElem_set]
 split
 ·rename_i e
  subst e
  rw [zx_get (by omega) g2 hn, if_neg (by omega)]
 ·rfl
theorem zx_all {X : Fs} : ZX X X.length = X := by unfold ZX; simp
theorem OwS.rep {h h' : Heap} {b n : Nat} (hb : h.size ≤ b) (r : Row h' t_s_api_Node .sl ⟨some ⟨b, 0⟩, n, n⟩ (List.replicate n (⟨none, 0, 0⟩ : Slc))) : OwS h h' ⟨some ⟨b, 0⟩, n, n⟩ (List.replicate n ⟨none, 0, 0⟩) (List.replicate n []) (List.replicate n []) := by
 have hn : ∀ s ∈ List.replicate n (⟨none, 0, 0⟩ : Slc), own s = [] := fun s hs => by rw [List.eq_of_mem_replicate hs]; rfl
 refine ⟨r, ?_, ?_, ?_, ?_, ?_, ?_, ?_⟩
 ·exact all2_rep (Row.nil (T := t_api_Node)) n
 ·exact all2_rep all2_nil n
 ·intro q hq
  rcases fpS_mem hq with e | ⟨s, hs, e⟩
  ·simp [own] at e; omega
  ·rw [hn s hs] at e; simp at e
 ·intro s hs q hq; rw [hn s hs] at hq; simp at hq
 ·refine List.pairwise_iff_getElem.2 fun i j hi hj hij q hq => ?_
  rw [hn _ (List.getElem_mem hi)] at hq; simp at hq
 ·intro vs hv v hvv; rw [List.eq_of_mem_replicate hv] at hvv; simp at hvv
 ·intro vs hv v hvv; rw [List.eq_of_mem_replicate hv] at hvv; simp at hvv
theorem ref15_copied.s {t0 : Slc} {ss : List Slc} {vv : List (List NdV)} {X : Fs} {h : Heap} {K : StaK.Ty → Heap → Prop} (w : StW h t0 ss vv X) (hs : Small X)
 (hK : ∀ h' t0' ss' vv', Keep [] h h' → OwS h h' t0' ss' vv' X → K (t0', ()) h') : ref15_copied.C (t0, ()) h K := by
 apply ref15_copied.c
 unfold ref15_copied.m
 refine new_gen fun b1 h1 hb1 k1 e1 hs1 => ?_
 have e1 : h1[b1]? = some (vobj 27 StaK ((t0, ()) : StaK.Ty)) := e1
 refine new_gen fun b2 h2 hb2 k2 e2 hs2 => ?_
 have e2 : h2[b2]? = some (vobj 27 StaK (((⟨none, 0, 0⟩ : Slc), ()) : StaK.Ty)) := e2
 have e1 := k2.get e1 (by simp)
 have k02 : Keep [] h h2 := k1.new k2 (by simp)
 have L := w.lens
 refine ld_go (k := .sl) (x := t0) (sm_sub (sm_all e1) (by decide) rfl) ?_
 have hX := hs.1
 rw [show (t0.len : Int) = (X.length : Int) by omega]
 refine mk_gen (by omega) (by omega) fun b3 h3 hb3 k3 r3 hs3 => ?_
 refine new_st_gen fun b4 h5 hb4 k5 e5 hs5 => ?_
 have e5 : h5[b4]? = some (vobj 27 StaK (((⟨some ⟨b3, 0⟩, X.length, X.length⟩ : Slc), ()) : StaK.Ty)) := e5
 have k25 : Keep [] h2 h5 := k3.new k5 (by simp)
 have k05 : Keep [] h h5 := k02.new k25 (by simp)
 have z02 := k02.1
 have o5 : OwS h2 h5 ⟨some ⟨b3, 0⟩, X.length, X.length⟩ _ _ _ := OwS.rep (by omega) (r3.keep k5 (by simp))
 have f0 : ∀ h', Keep [b2] h2 h' → sm .sl ((Pl.mk b1 0).fld 0) t0 h' := fun h' k => sm_sub (sm_all (k.get e1 (by simp; omega))) (by decide) rfl
 generalize hs1g : (⟨some ⟨b3, 0⟩, X.length, X.length⟩ : Slc) = s1 at o5 e5
 -- everything old stays, the copy grows
 let Inv (Y : Fs) (h' : Heap) : Prop := Keep [] h h' ∧ h2.size ≤ h'.size ∧ h'[b1]? = some (vobj 27 StaK ((t0, ()) : StaK.Ty)) ∧ h'[b2]? = some (vobj 27 StaK (((⟨none, 0, 0⟩ : Slc), ()) : StaK.Ty)) ∧ h'[b4]? = some (vobj 27 StaK ((s1, ()) : StaK.Ty)) ∧ ∃ ss' vv', OwS h2 h' s1 ss' vv' Y ∧ (∀ q ∈ fpS s1 ss', q ≠ b1 ∧ q ≠ b2 ∧ q ≠ b4)
 have hfin : ∀ {Y : Fs} {ss' : List Slc} {vv' : List (List NdV)} {h' : Heap}, OwS h2 h' s1 ss' vv' Y → ss'.length = vv'.length ∧ vv'.length = Y.length := fun o => ⟨o.r.len, o.n.len⟩
 refine lp_go (fun (y : Int × Unit) (h6 : Heap) => ∃ n : Nat, y.1 = n ∧ n ≤ X.length ∧ Inv (ZX X n) h6) (fun (y : Int × Unit) _ => X.length - y.1.toNat) ?_ ?_
 ·refine ⟨0, rfl, by omega, k05, k25.1, k25.get e1 (by simp), k25.get e2 (by simp), e5, List.replicate X.length ⟨none, 0, 0⟩, List.replicate X.length [], ?_, ?_⟩
  ·have : ZX X 0 = List.replicate X.length [] := by unfold ZX; simp
   rw [this]; exact o5
  ·intro q hq
   rcases fpS_mem hq with e | ⟨s, hs, e⟩
   ·rw [← hs1g] at e; simp [own] at e; omega
   ·rw [List.eq_of_mem_replicate hs] at e; simp [own] at e
 ·rintro ⟨(i : Int), _⟩ h6 ⟨n, e, hn, k6, z6, g1, g2, g4, ss', vv', o6, hf6⟩
  dsimp only at e ⊢
  subst e
  refine ld_go (k := .sl) (x := t0) (sm_sub (sm_all g1) (by decide) rfl) ?_
  by_cases hlt : n < X.length
  ·rw [if_pos (show decide ((n : Int) < (t0.len : Int)) = true from decide_eq_true (by omega))]
   have hwn : w64 ((n : Int) + 1) = ((n + 1 : Nat) : Int) := by rw [w64_id (by omega) (by omega)]; omega
   rw [hwn]
   have hX32 := hs.2 _ (List.getElem_mem hlt)
   refine lp_go (fun (y : Int × Unit) (h7 : Heap) => ∃ q : Nat, y.1 = q ∧ q ≤ X[n].length ∧ Inv ((ZX X n).set n (X[n].take q)) h7) (fun (y : Int × Unit) _ => X[n].length - y.1.toNat) ?_ ?_
   ·refine ⟨0, rfl, by omega, k6, z6, g1, g2, g4, ss', vv', ?_, hf6⟩
    rw [List.take_zero, zx_same hlt]; exact o6
   ·rintro ⟨(i : Int), _⟩ h7 ⟨q, e, hq, k7, z7, g1, g2, g4, ss', vv', o7, hf7⟩
    dsimp only at e ⊢
    subst e
    have w7 := w.keep k7
    have rl := w7.rlen hlt
    refine ld_go (k := .sl) (x := t0) (sm_sub (sm_all g1) (by decide) rfl) (w7.tab hlt ?_)
    by_cases hlq : q < X[n].length
    ·rw [if_pos (show decide ((q : Int) < ((ss[n]'(by omega)).len : Int)) = true from decide_eq_true (by omega))]
     have hwq : w64 ((q : Int) + 1) = ((q + 1 : Nat) : Int) := by rw [w64_id (by omega) (by omega)]; omega
     rw [hwq]
     refine ld_go (k := .sl) (x := t0) (sm_sub (sm_all g1) (by decide) rfl) (w7.tab hlt ?_)
     refine w7.nd hlt hlq fun v hv => ?_
     have hx := hX32.2 _ (List.getElem_mem hlq)
     refine new_st_gen fun b5 h9 hb5 k9 e9 hs9 => ?_
     have e9 : h9[b5]? = some (vobj 83 NdK v) := e9
     refine bs_gen fun b6 h10 hb6 k10 r10 hs10 => ?_
     have k710 : Keep [] h7 h10 := k9.new k10 (by simp)
     have e10 := k10.get e9 (by simp)
     refine ld_go (nd_f (sm_all e10)).2.2.2.2.2 ?_
     have el := hv.e.len
     have ge := hv.e.keep (by decide) k710
     refine slCells_seg ge (by rw [el]; rfl) ?_
     refine ap_row (T := 119) (k := DE) (ys := (X[n][q]).ents) r10 el rfl (by simp only [List.length_nil, Nat.zero_add]; omega) fun s3 h11 r11 k11 o11 => ?_
     have z7' := k710.1
     have hb5s : b5 = h7.size := hb5
     have e11 : h11[b5]? = some (vobj 83 NdK v) := k11.get e10 (by simp [own]; omega)
     have k711 : Keep [] h7 h11 := k710.new k11 (by simp [own]; omega)
     have r11 : Row h11 119 DE s3 (X[n][q]).ents := by simpa using r11
     have os3 : ∀ p ∈ own s3, h9.size ≤ p := fun p hp => by
      rcases own_of o11 p hp with e | e
      ·simp [own] at e; omega
      ·omega
     have ls3 : ∀ p ∈ own s3, p < h11.size := fun p hp => r11.lt p hp
     obtain ⟨v0, v1, v2, v3, v4, v5, ⟨⟩⟩ := v
     refine st_fld (k := NdK) (k' := .sl) (y := s3) (n := 5) (x := ((v0, (v1, (v2, (v3, (v4, (v5, ())))))) : NdV)) (x' := ((v0, (v1, (v2, (v3, (v4, (s3, ())))))) : NdV)) e11 (by decide) rfl ?_
     generalize hv' : ((v0, (v1, (v2, (v3, (v4, (s3, ())))))) : NdV) = v'
     have e12 : (h11.setIfInBounds b5 (vobj 83 NdK v'))[b5]? = some (vobj 83 NdK v') := get_set e11
     have k12 : Keep [b5] h11 (h11.setIfInBounds b5 (vobj 83 NdK v')) := keep_set
     generalize hh12 : h11.setIfInBounds b5 (vobj 83 NdK v') = h12 at e12 k12
     have z12 := k12.1
     have k712 : Keep [] h7 h12 := k711.new k12 (by simp; omega)
     have o12 := o7.keep k712
     have g4' := k712.get g4 (by simp)
     have ff : ∀ h', Keep [] h12 h' → sm .sl ((Pl.mk b4 0).fld 0) s1 h' := fun h' k => sm_sub (sm_all (k.get g4' (by simp))) (by decide) rfl
     have hL := hfin o12
     have hZl := zx_len (X := X) (n := n) (by omega)
     rw [List.length_set] at hL
     have hns : n < ss'.length := by omega
     have hnv : n < vv'.length := by omega
     refine ld_go (ff h12 Keep.rfl) (ld_go (ff h12 Keep.rfl) ?_)
     refine seg_ixl o12.t.seg (x := ss'[n]) (by omega) (by first | (simp [hns]; done) | (simp; omega)) rfl fun l4 hl4 => ?_
     refine ld_go hl4 (ld_go (sm_all e12) ?_)
     refine bs_gen fun b7 h13 hb7 k13 r13 hs13 => ?_
     refine ⟨sm_keep (by decide) hl4 k13, ff h13 k13, ff h13 k13, ?_⟩
     have k713 : Keep [] h7 h13 := k712.new k13 (by simp)
     have o13 := o12.keep k13
     refine slCells_seg r13.seg rfl ?_
     have hrow := o13.r.getI hns hnv
     have hnl : (vv'[n]).length = q := by
      have h1 := (o13.n.getI hnv (by rw [List.length_set]; omega)).len
      rw [h1, List.getElem_set_self, List.length_take]; omega
     refine ap_row (ys := [v']) hrow rfl rfl (by simp only [List.length_singleton]; rw [hnl]; omega) fun s5 h14 r14 k14 o14 => ?_
     have hft : own s1 = [b3] := by rw [← hs1g]; rfl
     have hfo : ∀ p ∈ own ss'[n], p ∈ fpS s1 ss' := fun p hp => fpS_s (List.getElem_mem hns) hp
     refine ⟨sm_keep' (ff h13 k13) k14 (fun hm => (hf7 _ (hfo _ hm)).2.2 rfl), ?_⟩
     have rt14 : Row h14 t_s_api_Node .sl s1 ss' := o13.t.keep k14 fun p hp hm => o13.d0 _ (List.getElem_mem hns) p hm hp
     refine ix_st rt14 (by omega) (by omega) rfl fun h15 k15 r15 => ?_
     rw [Int.toNat_natCast] at r15
     have hlt5 : ∀ p ∈ own s5, p ∈ own ss'[n] ∨ h13.size ≤ p := fun p hp => by
      rcases own_of o14 p hp with e | e
      ·exact .inl e
      ·exact .inr (by omega)
     have k1315 : Keep (own ss'[n] ++ own s1) h13 h15 := (k14.weak (fun x hx => by simp [hx])).then k15 (fun _ h _ => h) (fun x hx _ => by simp [hx])
     have sub : ∀ p ∈ own ss'[n] ++ own s1, p ∈ fpS s1 ss' := fun p hp => by
      rcases List.mem_append.1 hp with e | e
      ·exact hfo p e
      ·exact fpS_t e
     have fl : ∀ p ∈ fpS s1 ss', p < h7.size := fun p hp => o7.lt p hp
     have s3no : ∀ p ∈ own s3, p ∉ fpS s1 ss' := fun p hp hm => by have := os3 p hp; have := fl p hm; omega
     have rs15 : Row h15 t_api_Node NdK s5 (vv'[n] ++ [v']) := by
      have r14' : Row h14 t_api_Node NdK s5 (vv'[n] ++ [v']) := r14
      refine r14'.keep k15 fun p hp hm => ?_
      rcases hlt5 p hp with e | e
      ·exact o13.d0 _ (List.getElem_mem hns) p e hm
      ·have := o13.lt p (fpS_t hm); omega
     have hvE : vEnts v' = s3 := by rw [← hv']; rfl
     have k1113 : Keep [b5] h11 h13 := k12.then k13 (fun _ h _ => h) (fun _ h => by simp at h)
     have rE13 : Row h13 119 DE s3 (X[n][q]).ents := r11.keep k1113 fun p hp hm => by have := os3 p hp; simp at hm; omega
     have rE15 : Row h15 119 DE s3 (X[n][q]).ents := rE13.keep k1315 fun p hp hm => s3no p hp (sub p hm)
     have z13 := k13.1
     have aX : NdAt h15 v' X[n][q] := by
      rw [← hv']
      exact ⟨hv.n, hv.k, hv.m, hv.l, hv.d, rE15.seg⟩
     have hY : ((ZX X n).set n (X[n].take q)).set n (X[n].take q ++ [X[n][q]]) = (ZX X n).set n (X[n].take (q + 1)) := by
      rw [List.set_set, take_succ' hlq]
     have oput := OwS.put (W := ⟨⟨0, []⟩, (ZX X n).set n (X[n].take q), 0, ⟨0, ⟨#[]⟩, ⟨#[]⟩, ⟨#[]⟩, 0, 0, 0⟩, [], []⟩) o13 (by have := k713.1; omega) hns k1315 (fun p hp => by rcases List.mem_append.1 hp with e | e; exact .inr e; exact .inl e) r15 rs15 (t' := X[n].take q ++ [X[n][q]])
      (by
       refine All2.app ?_ ⟨aX, trivial⟩
       have := o13.n.getI hnv (by rw [List.length_set]; omega)
       rw [List.getElem_set_self] at this
       refine All2.monoM (fun u hu x _ a => a.keep k1315 fun p hp hm => ?_) this
       exact o13.e _ (List.getElem_mem hnv) u hu p hp (sub p hm)) hlt5
      (fun u hu p hp => by
       rcases List.mem_append.1 hu with e | e
       ·exact ⟨(o13.x _ (List.getElem_mem hnv) u e).1.elim fun L r => r.lt p hp, o13.e _ (List.getElem_mem hnv) u e p hp⟩
       ·simp at e; subst e
        rw [hvE] at hp
        exact ⟨by have := ls3 p hp; have := k1113.1; omega, s3no p hp⟩)
      (fun u hu => by
       rcases List.mem_append.1 hu with e | e
       ·exact o13.x _ (List.getElem_mem hnv) u e
       ·simp at e; subst e
        rw [hvE]
        exact ⟨⟨_, rE13⟩, fun p hp => by have := os3 p hp; omega⟩)
     dsimp only at oput
     rw [hY] at oput
     have nb : ∀ p, (p = b1 ∨ p = b2 ∨ p = b4) → p < h7.size ∧ p ∉ own ss'[n] ++ own s1 := fun p hp => by
      refine ⟨?_, fun hm => ?_⟩
      ·rcases hp with e | e | e <;> subst e
       ·exact lt_of_some g1
       ·exact lt_of_some g2
       ·exact lt_of_some g4
      ·have := hf7 p (sub p hm)
       rcases hp with e | e | e
       ·exact this.1 e
       ·exact this.2.1 e
       ·exact this.2.2 e
     have kk : Keep [] h h15 := (k7.new k713 (by simp)).new k1315 fun p hp => by
      have := o13.f p (sub p hp); omega
     refine ⟨⟨q + 1, rfl, by omega, kk, by have := k713.1; have := k1315.1; omega, k1315.get (k713.get g1 (by simp)) (nb b1 (.inl rfl)).2, k1315.get (k713.get g2 (by simp)) (nb b2 (.inr (.inl rfl))).2, k1315.get (k713.get g4 (by simp)) (nb b4 (.inr (.inr rfl))).2, _, _, oput, fun p hp => ?_⟩, by simp; omega⟩
     rcases fpS_set hp with e | e
     ·exact hf7 p e
     ·rcases hlt5 p e with e | e
      ·exact hf7 p (hfo p e)
      ·have h1 := (nb b1 (.inl rfl)).1
       have h2 := (nb b2 (.inr (.inl rfl))).1
       have h4 := (nb b4 (.inr (.inr rfl))).1
       have := k713.1
       exact ⟨by omega, by omega, by omega⟩
    ·rw [if_neg (show ¬ decide ((q : Int) < ((ss[n]'(by omega)).len : Int)) = true by simp; omega)]
     refine ⟨⟨n + 1, rfl, by omega, k7, z7, g1, g2, g4, ss', vv', ?_, hf7⟩, by simp; omega⟩
     have : X[n].take q = X[n] := List.take_of_length_le (by omega)
     rw [this, zx_next hlt] at o7
     exact o7
  ·rw [if_neg (show ¬ decide ((n : Int) < (t0.len : Int)) = true from fun h => by have := of_decide_eq_true h; omega)]
   obtain rfl : n = X.length := by omega
   rw [zx_all] at o6
   refine ld_go (sm_all g4) ?_
   refine st_to (y := ((s1, ()) : StaK.Ty)) g2 fun h7 k7 e7 hs7 => ?_
   refine ld_go (sm_all e7) ?_
   exact hK h7 s1 ss' vv' (k6.new k7 (by simp; omega)) ((o6.old k7 (by omega)).down (by omega))
section
variable {nm : ByteArray} {u : Int} {c : Cl}
end
def dN : ByteArray := ⟨#[100]⟩
structure DirI (k many : Nat) (X : Fs) : Prop where
 may : stMay X = true
 len : X.length = 3
 ch : ∀ i, i < k → ∃ x, findN X (rf 0 ((i + 1 : Nat) : Int)) = some x ∧ x.kind = 1 ∧ x.mode = 1 ∧ ∃ e, findE x.ents dN = some e ∧ e.2.1 = rf 0 ((i + 2 : Nat) : Int)
 la : ∃ x, findN X (rf 0 ((k + 1 : Nat) : Int)) = some x ∧ x.kind = 1 ∧ x.mode = 1 ∧ x.ents.length = many ∧ ∀ e ∈ x.ents, ∀ y, findN X e.2.1 = some y → y.kind = 0
section
variable {k many : Nat} {X : Fs} (hi : DirI k many X)
include hi
end
abbrev RwK : Kd := .ag (.pr MbK (.pr StaK (.pr .i (.pr ClK .un))))
def rwv (mv : MbK.Ty) (t0 : Slc) (u : Int) (c : Cl) : RwK.Ty := (mv, ((t0, ()), (u, (clv c, ()))))
structure IsRw (h0 h : Heap) (w : Nat) (mv : MbK.Ty) (t0 : Slc) (ss : List Slc) (vv : List (List NdV)) (W : Wk) : Prop where
 o : h[w]? = some (vobj 97 RwK (rwv mv t0 W.user W.c))
 s : OwS h0 h t0 ss vv W.X
 k : Keep [] h0 h
 m : MbAt h0 mv W.m
 mm : mbMay W.m = true
 wn : w ∉ fpS t0 ss
 wl : h0.size ≤ w
 may : stMay W.X = true
def nd0 : NdV := (0, (0, (0, (0, (⟨#[]⟩, ((⟨none, 0, 0⟩ : Slc), ()))))))
section
variable {h0 h : Heap} {w : Nat} {mv : MbK.Ty} {t0 : Slc} {ss : List Slc} {vv : List (List NdV)} {W : Wk}
theorem IsRw.keep {h' : Heap} (i : IsRw h0 h w mv t0 ss vv W) (k : Keep [] h h') : IsRw h0 h' w mv t0 ss vv W :=
 ⟨k.get i.o (by simp), i.s.keep k, i.k.new k (by simp), i.m, i.mm, i.wn, i.wl, i.may⟩
theorem IsRw.me (i : IsRw h0 h w mv t0 ss vv W) : sm MbK ((Pl.mk w 0).fld 0) mv h := sm_sub (sm_all i.o) (by decide) rfl
theorem IsRw.t (i : IsRw h0 h w mv t0 ss vv W) : sm .sl (((Pl.mk w 0).fld 2).fld 0) t0 h := sm_sub (l := Pl.mk w 0) (n := 2) (k := RwK) (sm_all i.o) (by decide) rfl
theorem IsRw.ts (i : IsRw h0 h w mv t0 ss vv W) : sm StaK ((Pl.mk w 0).fld 2) ((t0, ()) : StaK.Ty) h := sm_sub (sm_all i.o) (by decide) rfl
theorem IsRw.u (i : IsRw h0 h w mv t0 ss vv W) : sm .i ((Pl.mk w 0).fld 3) W.user h := sm_sub (sm_all i.o) (by decide) rfl
theorem IsRw.c (i : IsRw h0 h w mv t0 ss vv W) : sm ClK ((Pl.mk w 0).fld 4) (clv W.c) h := sm_sub (sm_all i.o) (by decide) rfl
theorem IsRw.op (i : IsRw h0 h w mv t0 ss vv W) : sm .i (((Pl.mk w 0).fld 4).fld 0) W.c.op h := sm_sub i.c (by decide) rfl
theorem IsRw.path (i : IsRw h0 h w mv t0 ss vv W) : sm .s (((Pl.mk w 0).fld 4).fld 1) W.c.path h := sm_sub i.c (by decide) rfl
theorem IsRw.other (i : IsRw h0 h w mv t0 ss vv W) : sm .s (((Pl.mk w 0).fld 4).fld 2) W.c.other h := sm_sub i.c (by decide) rfl
theorem IsRw.data (i : IsRw h0 h w mv t0 ss vv W) : sm .s (((Pl.mk w 0).fld 4).fld 3) W.c.data h := sm_sub i.c (by decide) rfl
theorem IsRw.at_ (i : IsRw h0 h w mv t0 ss vv W) : sm .i (((Pl.mk w 0).fld 4).fld 4) W.c.at_ h := sm_sub i.c (by decide) rfl
theorem IsRw.n (i : IsRw h0 h w mv t0 ss vv W) : sm .i (((Pl.mk w 0).fld 4).fld 5) W.c.n h := sm_sub i.c (by decide) rfl
theorem IsRw.as_ (i : IsRw h0 h w mv t0 ss vv W) : sm .i (((Pl.mk w 0).fld 4).fld 6) W.c.as_ h := sm_sub i.c (by decide) rfl
theorem IsRw.small (i : IsRw h0 h w mv t0 ss vv W) : Small W.X := st_small i.may
theorem IsRw.root (i : IsRw h0 h w mv t0 ss vv W) : (findN W.X rootR).isSome = true := by
 obtain ⟨_, _, _, x, hx, _⟩ := st_ok i.may
 rw [hx]; rfl
structure NV (h : Heap) (vv : List (List NdV)) (X : Fs) (r : Rf) (v : NdV) (x : Nd) : Prop where
 f : findN X r = some x
 a : NdAt h v x
 m : ∃ vs ∈ vv, v ∈ vs
theorem NV.keep {h' : Heap} {X : Fs} {r : Rf} {v : NdV} {x : Nd} (n : NV h vv X r v x) (k : Keep [] h h') : NV h' vv X r v x := ⟨n.f, n.a.keep k (by simp), n.m⟩
theorem rw_node.s {r : Rf} {K : NdV → Bool → Heap → Prop} (i : IsRw h0 h w mv t0 ss vv W) (hN : findN W.X r = none → ∀ h', Keep [] h h' → K nd0 false h')
 (hS : ∀ x v, NV h vv W.X r v x → ∀ h', Keep [] h h' → K v true h') : ref15_work_node.C (some ⟨w, 0⟩) r h K := by
 apply ref15_work_node.c
 unfold ref15_work_node.m
 refine new_gen fun b1 h1 hb1 k1 e1 hs1 => ?_
 have e1 : h1[b1]? = some (vobj 34 RF r) := e1
 refine new_gen fun b2 h2 hb2 k2 e2 hs2 => ?_
 have e2 : h2[b2]? = some (vobj 83 NdK nd0) := e2
 have k02 : Keep [] h h2 := k1.new k2 (by simp)
 have i2 := i.keep k02
 have e1 := k2.get e1 (by simp)
 refine nck_go (ld_go i2.ts (ld_go (sm_all e1) ?_))
 refine ref15_at.s i2.s.w (fun t ht => by have := (i.small.2 t ht).1; omega) (fun hnone h3 k3 => ?_) fun o j ho hj hro hfi h3 k3 => ?_
 ·rw [if_pos (by decide)]
  refine st_to (y := nd0) (k3.get e2 (by simp)) fun h4 k4 e4 hs4 => ?_
  refine ld_go (sm_all e4) ?_
  exact hN hnone h4 ((k02.new k3 (by simp)).new k4 (by have := k02.1; have := k1.1; simp; omega))
 ·rw [if_neg (show ¬ decide ((j : Int) < 0) = true from fun h => by have := of_decide_eq_true h; omega)]
  have i3 := i2.keep k3
  have k03 : Keep [] h h3 := k02.new k3 (by simp)
  refine nck_go (ld_go i3.t (ld_go (k := .i) (x := r.1) (sm_sub (sm_all (k3.get e1 (by simp))) (by decide) rfl) ?_))
  rw [hro]
  have rl := i3.s.w.rlen ho
  have L := i3.s.w.lens
  refine i3.s.w.tab ho ?_
  have hv1 := seg_ix (K := fun x8 => Go.Al.st NdK (Pl.mk b2 0) x8 h3 fun h5 => ld NdK (Pl.mk b2 0) h5 fun x9 => K x9 true h5) (i3.s.w.row ho) (i := (j : Int)) (sz := 6) (x := (vv[o]'(by omega))[j]'(by omega)) (by omega) (by first | (simp; done) | (simp; omega)) rfl ?_
  ·exact hv1
  refine st_to (k := NdK) (y := (vv[o]'(by omega))[j]'(by omega)) (k3.get e2 (by simp)) fun h4 k4 e4 hs4 => ?_
  refine ld_go (sm_all e4) ?_
  refine hS _ _ ⟨hfi, (i.s.w.nds ho).getI (by omega) hj, _, List.getElem_mem (by omega), List.getElem_mem _⟩ h4 (k03.new k4 (by have := k02.1; have := k1.1; simp; omega))
theorem rw_turns.s {o : Int} {K : Bool → Heap → Prop} (i : IsRw h0 h w mv t0 ss vv W) (hK : ∀ h', Keep [] h h' → K (mIn W.m W.user o) h') : ref15_work_turns.C (some ⟨w, 0⟩) o h K := by
 apply ref15_work_turns.c
 unfold ref15_work_turns.m
 refine nck_go (ld_go i.me (nck_go (ld_go i.u ?_)))
 refine ref15_In.s (i.m.keep i.k) (by have := (mb_ok i.mm).2.2.1; omega) fun h2 k2 => ?_
 rw [i.mm]
 exact hK h2 k2
theorem rw_reads.s {r : Rf} {v : NdV} {x : Nd} {K : Bool → Heap → Prop} (i : IsRw h0 h w mv t0 ss vv W) (a : NdAt h v x) (hK : ∀ h', Keep [] h h' → K (rdb W r x) h') : ref15_work_reads.C (some ⟨w, 0⟩) r v h K := by
 apply ref15_work_reads.c
 unfold ref15_work_reads.m
 refine new_gen fun b1 h1 hb1 k1 e1 hs1 => ?_
 have e1 : h1[b1]? = some (vobj 34 RF r) := e1
 refine new_gen fun b2 h2 hb2 k2 e2 hs2 => ?_
 have e2 : h2[b2]? = some (vobj 83 NdK v) := e2
 have k02 : Keep [] h h2 := k1.new k2 (by simp)
 have i2 := i.keep k02
 refine jn_in (fun y h' => Keep [] h2 h' ∧ y.1 = rdb W r x) ?_ ?_
 ·refine ld_go (k := .i) (x := r.1) (sm_sub (sm_all (k2.get e1 (by simp))) (by decide) rfl) ?_
  refine rw_turns.s i2 fun h3 k3 => ?_
  cases ht : mIn W.m W.user r.1 with
  | true => rw [if_pos rfl]; exact ⟨k3, by unfold rdb trn; rw [ht]; rfl⟩
  | false =>
    rw [if_neg (by simp)]
    have f2 := (nd_f (sm_all (k3.get e2 (by simp)))).2.2.1
    rw [a.m] at f2
    exact ld_go f2 ⟨k3, by unfold rdb trn; rw [ht]; rfl⟩
 ·rintro ⟨(y : Bool), _⟩ h3 ⟨k3, e3⟩
  dsimp only at e3 ⊢
  rw [e3]
  exact hK h3 (k02.new k3 (by simp))
theorem rw_going.s {s : Slc} {ns : List ByteArray} {K : Slc → Int → Heap → Prop} (i : IsRw h0 h w mv t0 ss vv W) (g : Seg .s s ns h) (hl : ns.length ≤ 8)
 (hE : ∀ e, goesS W ns = .error e → ∀ h', Keep [] h h' → e ≠ 0 → K ⟨none, 0, 0⟩ e h')
 (hO : ∀ l, goesS W ns = .ok l → ∀ h' sl, Keep [] h h' → Row h' t_api_Ref RF sl l → (∀ q ∈ own sl, h.size ≤ q) → K sl 0 h') : ref15_work_going.C (some ⟨w, 0⟩) s h K := by
 apply ref15_work_going.c
 unfold ref15_work_going.m
 have gl := g.len
 apply ref15_root.c
 unfold ref15_root.m
 refine new_gen fun b0 h1 hb0 k1 e1 hs1 => ?_
 refine st_to (y := rootR) e1 fun h1' k1' e1' hs1' => ?_
 refine ld_go (sm_all e1') ?_
 have k1 : Keep [] h h1' := k1.new k1' (by simp; omega)
 refine new_st_gen fun b1 h3 hb1 k3 e3 hs3 => ?_
 have e3 : h3[b1]? = some (vobj t_api_Ref RF rootR) := e3
 have k13 : Keep [] h h3 := k1.new k3 (by simp)
 refine ld_go (sm_all e3) ?_
 refine bs_gen fun bq h4 hbq k4 r4 hs4 => ?_
 have s1 := k1.1
 have s3 := k3.1
 refine lp_go (fun (y : Slc × Int × Unit) (h5 : Heap) => ∃ t : Nat, y.2.1 = t ∧ t ≤ ns.length ∧ Keep [] h h5 ∧ h4.size ≤ h5.size ∧ ∃ cur acc, h5[b1]? = some (vobj t_api_Ref RF cur) ∧ Row h5 t_api_Ref RF y.1 acc ∧ (∀ q ∈ own y.1, h3.size ≤ q) ∧ acc.length = t + 1 ∧ (findN W.X cur).isSome = true ∧ goesS W ns = (match goesG W cur (ns.drop t) with | .ok l => .ok (acc ++ l) | .error e => .error e)) (fun (y : Slc × Int × Unit) _ => ns.length - y.2.1.toNat) ?_ ?_
 ·refine ⟨0, rfl, Nat.zero_le _, k13.new k4 (by simp), Nat.le_refl _, rootR, [rootR], k4.get e3 (by simp), r4, by simp [own]; omega, rfl, i.root, ?_⟩
  unfold goesS
  rw [List.drop_zero]
  cases goesG W rootR ns <;> rfl
 ·rintro ⟨(sl : Slc), (q : Int), _⟩ h5 ⟨t, e, ht, k5, hs5, cur, acc, e5, r5, o5, hal, hcur, hgo⟩
  dsimp only at e r5 o5 ⊢
  subst e
  have i5 := i.keep k5
  by_cases hlt : t < ns.length
  ·rw [if_pos (show decide ((t : Int) < (s.len : Int)) = true from decide_eq_true (by omega))]
   obtain ⟨x, hx⟩ := Option.isSome_iff_exists.1 hcur
   have hd : ns.drop t = ns[t] :: ns.drop (t + 1) := List.drop_eq_getElem_cons hlt
   rw [hd] at hgo
   unfold goesG at hgo
   rw [hx] at hgo
   dsimp only at hgo
   have hw : w64 ((t : Int) + 1) = ((t + 1 : Nat) : Int) := by rw [w64_id (by omega) (by omega)]; omega
   rw [hw]
   refine ld_go (sm_all e5) ?_
   refine rw_node.s i5 (fun hnone _ _ => by rw [hx] at hnone; simp at hnone) fun x' v nv h6 k6 => ?_
   have hxx := nv.f
   rw [hx] at hxx
   cases hxx
   refine new_st_gen fun b2 h8 hb2 k8 e8 hs8 => ?_
   have e8 : h8[b2]? = some (vobj 83 NdK v) := e8
   have k58 : Keep [] h5 h8 := k6.new k8 (by simp)
   have i8 := i5.keep k58
   have a8 := (nv.keep k58).a
   have ff := nd_f (sm_all e8)
   have f1 := ff.2.1
   rw [a8.k] at f1
   have k08 := k5.new k58 (by simp)
   refine ld_go f1 ?_
   by_cases hk : x.kind = 1
   case neg =>
    rw [if_pos (by simpa using hk)]
    rw [if_pos hk] at hgo
    exact hE _ hgo h8 k08 (by decide)
   rw [if_neg (by simpa using hk)]
   rw [if_neg (by simpa using hk)] at hgo
   refine ld_go (sm_all (k58.get e5 (by simp))) (ld_go (sm_all e8) ?_)
   refine rw_reads.s i8 a8 fun h9 k9 => ?_
   have k09 := k08.new k9 (by simp)
   cases hr : rdb W cur x with
   | false =>
     rw [if_pos (by rfl)]
     rw [hr, if_pos (by rfl)] at hgo
     exact hE _ hgo h9 k09 (by decide)
   | true =>
     rw [if_neg (by simp)]
     rw [hr, if_neg (by simp)] at hgo
     have a9 := a8.keep k9 (by simp)
     have f5 : ∀ h', Keep [] h9 h' → sm .sl ((Pl.mk b2 0).fld 5) (vEnts v) h' := fun h' k => (nd_f (sm_all (k.get (k9.get e8 (by simp)) (by simp)))).2.2.2.2.2
     have hsmE : x.ents.length ≤ 32 := (nd_small (findN_may i.may hx)).2.1
     refine jn_in (fun y h' => Keep [] h9 h' ∧ h9.size ≤ y.1.b ∧ sm RF y.1 (refOf (findE x.ents ns[t])) h' ∧ y.2.1 = (findE x.ents ns[t]).isSome) ?_ ?_
     ·refine ld_go (f5 h9 Keep.rfl) ?_
      refine seg_ixl (g.keep (by decide) k09) (x := ns[t]) (by omega) (by simp [hlt]) rfl fun l1 hl1 => ?_
      refine ld_go hl1 ⟨?_, ?_⟩
      ·refine ref7_Find.s a9.e (by omega) fun h11 k11 => ?_
       refine new_st_gen fun b3 h13 hb3 k13 e13 hs13 => ?_
       exact ⟨k11.new k13 (by simp), by have := k11.1; show h9.size ≤ b3; omega, sm_all e13, rfl⟩
      ·refine new_gen fun b4 h14 hb4 k14 e14 hs14 => ?_
       refine ⟨sm_keep (by decide) hl1 k14, f5 h14 k14, ?_⟩
       refine ref7_Find.s (a9.e.keep (by decide) k14) (by omega) fun h15 k15 => ?_
       refine st_to (y := refOf (findE x.ents ns[t])) (k15.get e14 (by simp)) fun h16 k16 e16 hs16 => ?_
       exact ⟨(k14.new k15 (by simp)).new k16 (by simp; omega), by show h9.size ≤ b4; omega, sm_all e16, rfl⟩
     ·rintro ⟨(pl : Pl), (y : Bool), _⟩ h10 ⟨k10, lpl, spl, ey⟩
      dsimp only at lpl spl ey ⊢
      subst ey
      have k010 := k09.new k10 (by simp)
      cases hf : findE x.ents ns[t] with
      | none =>
        rw [hf] at hgo
        rw [if_pos (by rfl)]
        exact hE _ hgo h10 k010 (by decide)
      | some en =>
        rw [hf] at hgo spl
        dsimp only at hgo
        rw [if_neg (by simp)]
        have spl : sm RF pl en.2.1 h10 := spl
        have i10 := i.keep k010
        refine ld_go spl ?_
        refine rw_node.s i10 (fun hnone h17 k17 => ?_) fun x2 v2 nv2 h17 k17 => ?_
        ·rw [show findN W.X en.2.1 = none from hnone, if_pos (by rfl)] at hgo
         refine new_st_gen fun b5 h19 hb5 k19 e19 hs19 => ?_
         rw [if_pos (by rfl)]
         exact hE _ hgo h19 ((k010.new k17 (by simp)).new k19 (by simp)) (by decide)
        ·have hn := nv2.f
         rw [hn, if_neg (by simp)] at hgo
         refine new_st_gen fun b5 h19 hb5 k19 e19 hs19 => ?_
         rw [if_neg (by simp)]
         have k1019 : Keep [] h10 h19 := k17.new k19 (by simp)
         refine ld_go (sm_keep (by decide) spl k1019) ?_
         have k519 : Keep [] h5 h19 := ((k58.new k9 (by simp)).new k10 (by simp)).new k1019 (by simp)
         refine st_to (y := en.2.1) (k519.get e5 (by simp)) fun h20 k20 e20 hs20 => ?_
         have hplb : pl.b ≠ b1 := fun e => by
          have h1 := lt_of_some e5
          have h2 := (k58.new k9 (by simp)).1
          omega
         refine ld_go (sm_keep' (sm_keep (by decide) spl k1019) k20 (by simpa using hplb)) ?_
         have r20 := (r5.keep k519 (by simp)).keep k20 (fun q hq hm => by have := o5 q hq; simp at hm; omega)
         have z519 := k519.1
         have z20 := k20.1
         refine app2 (by_ := 16) r20 rfl (by omega) fun s22 h22 k22 r22 o22 => ?_
         have z22 := k22.1
         refine ⟨⟨t + 1, rfl, by omega, ((k5.new k519 (by simp)).new k20 (by simp; omega)).new k22 (fun q hq => by have := o5 q hq; omega), by omega, en.2.1, acc ++ [en.2.1], k22.get e20 (fun hm => by have := o5 b1 hm; omega), r22, fun q hq => ?_, by rw [List.length_append, hal]; rfl, by rw [hn]; rfl, ?_⟩, by simp; omega⟩
         ·rcases o22 q hq with e | e
          ·exact o5 q e
          ·omega
         ·rw [hgo]
          cases goesG W en.2.1 (ns.drop (t + 1)) with
          | ok l => simp
          | error e => rfl
  ·rw [if_neg (show ¬ decide ((t : Int) < (s.len : Int)) = true by simp; omega)]
   have hd : ns.drop t = [] := List.drop_eq_nil_of_le (by omega)
   rw [hd] at hgo
   have hgo' : goesS W ns = .ok acc := by rw [hgo]; simp [goesG]
   exact hO acc hgo' h5 sl k5 r5 fun q hq => by have := o5 q hq; omega
end
def Nx (t0 : Slc) (h : Heap) (ss : List Slc) (h' : Heap) (ss' : List Slc) : Prop := h.size ≤ h'.size ∧ ∀ q, q < h.size → q ∉ fpS t0 ss → q ∉ fpS t0 ss' ∧ h'[q]? = h[q]?
theorem Nx.of {t0 : Slc} {h h' : Heap} {ss : List Slc} (k : Keep [] h h') : Nx t0 h ss h' ss := ⟨k.1, fun q hq hn => ⟨hn, k.2 q hq (by simp)⟩⟩
theorem Nx.trans {t0 : Slc} {h h' h'' : Heap} {ss ss' ss'' : List Slc} (a : Nx t0 h ss h' ss') (b : Nx t0 h' ss' h'' ss'') : Nx t0 h ss h'' ss'' :=
 ⟨Nat.le_trans a.1 b.1, fun q hq hn => ⟨(b.2 q (Nat.lt_of_lt_of_le hq a.1) (a.2 q hq hn).1).1, ((b.2 q (Nat.lt_of_lt_of_le hq a.1) (a.2 q hq hn).1).2).trans (a.2 q hq hn).2⟩⟩
theorem Nx.get {t0 : Slc} {h h' : Heap} {ss ss' : List Slc} (n : Nx t0 h ss h' ss') {q : Nat} {o : Obj} (e : h[q]? = some o) (hn : q ∉ fpS t0 ss) : h'[q]? = some o := by
 rw [(n.2 q (lt_of_some e) hn).2]; exact e
section
variable {h0 h : Heap} {w : Nat} {mv : MbK.Ty} {t0 : Slc} {ss : List Slc} {vv : List (List NdV)} {W : Wk}
theorem tab_in {X : Fs} {o : Int} {x : Nd} (h : x ∈ tabOf X o) : ∃ n : Nat, o = n ∧ n < X.length := by
 unfold tabOf at h
 split at h
 ·exact ⟨o.toNat, by omega, by omega⟩
 ·simp at h
theorem IsRw.off (i : IsRw h0 h w mv t0 ss vv W) {q : Nat} (hq : h.size ≤ q) : q ∉ fpS t0 ss := fun hm => by have := i.s.lt q hm; omega
theorem NV.ents {X : Fs} {r : Rf} {v : NdV} {x : Nd} (n : NV h vv X r v x) (o : OwS h0 h t0 ss vv X) : (∀ q ∈ own (vEnts v), q ∉ fpS t0 ss ∧ q < h.size) ∧ EntR h0 h (vEnts v) := by
 obtain ⟨vs, hvs, hv⟩ := n.m
 exact ⟨fun q hq => ⟨o.e vs hvs v hv q hq, o.elt2 hvs hv q hq⟩, o.x vs hvs v hv⟩
theorem rw_set.s {r : Rf} {x y : Nd} {v : NdV} {K : Heap → Prop} (i : IsRw h0 h w mv t0 ss vv W) (hx : findN W.X r = some x) (hv : NdAt h v y) (hn : y.num = x.num) (hm : stMay (setN W.X r y) = true)
 (he : ∀ q ∈ own (vEnts v), q ∉ fpS t0 ss ∧ q < h.size) (hE : EntR h0 h (vEnts v)) (hK : ∀ h' vv', IsRw h0 h' w mv t0 ss vv' { W with X := setN W.X r y } → Nx t0 h ss h' ss → K h') : ref15_work_set.C (some ⟨w, 0⟩) r v h K := by
 apply ref15_work_set.c
 unfold ref15_work_set.m
 refine new_gen fun b1 h1 hb1 k1 e1 hs1 => ?_
 have e1 : h1[b1]? = some (vobj 34 RF r) := e1
 refine new_gen fun b2 h2 hb2 k2 e2 hs2 => ?_
 have e2 : h2[b2]? = some (vobj 83 NdK v) := e2
 have k02 : Keep [] h h2 := k1.new k2 (by simp)
 have i2 := i.keep k02
 have e1 := k2.get e1 (by simp)
 have fo : ∀ h', Keep [] h2 h' → sm .i ((Pl.mk b1 0).fld 0) r.1 h' := fun h' k => sm_sub (sm_all (k.get e1 (by simp))) (by decide) rfl
 -- where it stands
 have hin : ∃ o : Nat, r.1 = (o : Int) ∧ o < W.X.length := tab_in (findN_num hx).2
 obtain ⟨o, hro, ho⟩ := hin
 have L := i2.s.w.lens
 refine nck_go (ld_go i2.t (ld_go (fo h2 Keep.rfl) ?_))
 rw [hro]
 refine seg_ixl i2.s.t.seg (x := ss[o]'(by omega)) (by omega) (by first | (simp; done) | (simp; omega)) rfl fun l2 hl2 => ?_
 refine ld_go hl2 (nck_go (ld_go i2.ts (ld_go (sm_all e1) (ld_go (sm_all e2) ?_))))
 refine ref15_at.s i2.s.w (fun t ht => by have := (i.small.2 t ht).1; omega) (fun hnone => by rw [hx] at hnone; simp at hnone) fun o' j ho' hj hro' hfi h3 k3 => ?_
 obtain rfl : o' = o := by have : (o' : Int) = (o : Int) := hro'.symm.trans hro; omega
 rw [hx] at hfi
 simp only [Option.some.injEq] at hfi
 have k03 : Keep [] h h3 := k02.new k3 (by simp)
 have i3 := i2.keep k3
 have hfo := fo h3 k3
 rw [hro] at hfo
 refine ⟨sm_all (k3.get e2 (by simp)), sm_keep (by decide) hl2 k3, hfo, i3.t, ?_⟩
 have hrl := i3.s.w.rlen ho'
 have hrow := i3.s.r.getI (show o' < ss.length by omega) (show o' < vv.length by omega)
 refine ix_st hrow (by omega) (by omega) rfl fun h4 k4 r4 => ?_
 rw [Int.toNat_natCast] at r4
 have hns : o' < ss.length := by omega
 have hnv : o' < vv.length := by omega
 have hoX := i3.s.w.nds ho'
 have hset : setN W.X r y = W.X.set o' ((W.X[o']).set j y) := by
  have hr : ∀ t ∈ W.X, risesN t = true := fun t ht => (st_rises i.may t ht).1
  unfold setN setT
  rw [hro, if_pos ⟨by omega, by omega⟩, Int.toNat_natCast, tabOf_at ho']
  have hmm := map_set (hr _ (List.getElem_mem ho')) hj (x' := y)
  have hnn : (W.X[o'])[j].num = r.2.1 := by rw [← hfi]; exact (findN_num hx).1
  rw [hnn] at hmm
  rw [hmm]
 have sub : ∀ p ∈ own (ss[o']'hns), p ∈ fpS t0 ss := fun p hp => fpS_s (List.getElem_mem hns) hp
 have hss : ss.set o' (ss[o']'hns) = ss := List.set_getElem_self hns
 have oput := OwS.put (W := W) i3.s (by have := i3.k.1; exact this) hns (S := own (ss[o']'hns)) k4 (fun p hp => .inr hp) (s' := ss[o']'hns) (vs' := (vv[o']'hnv).set j v) (t' := (W.X[o']).set j y)
  (by rw [hss]; exact i3.s.t.keep k4 fun p hp hm => i3.s.d0 _ (List.getElem_mem hns) p hm hp) r4
  (by
   have h1 : All2 (NdAt h4) (vv[o']'hnv) W.X[o'] := All2.monoM (fun u hu z _ a => a.keep k4 fun p hp hm => i3.s.e _ (List.getElem_mem hnv) u hu p hp (sub p hm)) hoX
   exact h1.set ((hv.keep k03 (by simp)).keep k4 fun p hp hm => (he p hp).1 (sub p hm)))
  (fun p hp => .inl hp)
  (fun u hu p hp => by
   rcases List.mem_or_eq_of_mem_set hu with e | e
   ·exact ⟨i3.s.elt2 (List.getElem_mem hnv) e p hp, i3.s.e _ (List.getElem_mem hnv) u e p hp⟩
   ·subst e; exact ⟨by have := (he p hp).2; have := k03.1; omega, (he p hp).1⟩)
  (fun u hu => by
   rcases List.mem_or_eq_of_mem_set hu with e | e
   ·exact i3.s.x _ (List.getElem_mem hnv) u e
   ·subst e; exact hE.keep k03 (by simp))
 rw [hss] at oput
 rw [← hset] at oput
 refine hK h4 _ ⟨?_, oput, i3.k.new k4 (fun p hp => i3.s.f p (sub p hp)), i3.m, i3.mm, i3.wn, i3.wl, hm⟩ ⟨Nat.le_trans k03.1 k4.1, fun q hq hnq => ⟨hnq, ?_⟩⟩
 ·exact k4.get i3.o fun hm => i3.wn (sub w hm)
 ·rw [k4.2 q (by have := k03.1; omega) fun hm => hnq (sub q hm), k03.2 q hq (by simp)]
theorem rw_code.s {e : Int} {K : AnK.Ty → Heap → Prop} (hK : ∀ h', Keep [] h h' → K (anv (anE e) ⟨none, 0, 0⟩) h') : ref15_code.C e h K := by
 apply ref15_code.c
 unfold ref15_code.m
 refine new_gen fun b1 h1 hb1 k1 e1 hs1 => ?_
 refine st_to (y := anv (anE e) ⟨none, 0, 0⟩) e1 fun h2 k2 e2 hs2 => ?_
 exact ld_go (sm_all e2) (hK h2 (k1.new k2 (by simp; omega)))
theorem rw_stat.s {r : Rf} {K : AnK.Ty → Heap → Prop} (i : IsRw h0 h w mv t0 ss vv W) (hr : (findN W.X r).isSome = true) (hK : ∀ h', Keep [] h h' → K (anv (statS W.X r) ⟨none, 0, 0⟩) h') : ref15_work_stat.C (some ⟨w, 0⟩) r h K := by
 apply ref15_work_stat.c
 unfold ref15_work_stat.m
 refine new_gen fun b1 h1 hb1 k1 e1 hs1 => ?_
 have e1 : h1[b1]? = some (vobj 34 RF r) := e1
 refine new_gen fun b2 h2 hb2 k2 e2 hs2 => ?_
 have e2 : h2[b2]? = some (vobj 43 AnK an0v) := e2
 have k02 : Keep [] h h2 := k1.new k2 (by simp)
 have e1 := k2.get e1 (by simp)
 refine ld_go (sm_all e1) ?_
 refine rw_node.s (i.keep k02) (fun hnone => by rw [hnone] at hr; simp at hr) fun x v nv h3 k3 => ?_
 refine new_st_gen fun b3 h5 hb3 k5 e5 hs5 => ?_
 have e5 : h5[b3]? = some (vobj 83 NdK v) := e5
 have k25 : Keep [] h2 h5 := k3.new k5 (by simp)
 obtain ⟨f0, f1, f2, f3, f4, f5⟩ := nd_f (sm_all e5)
 rw [nv.a.k] at f1
 rw [nv.a.m] at f2
 rw [nv.a.l] at f3
 rw [nv.a.d] at f4
 refine ld_go (sm_all (k25.get e1 (by simp))) (ld_go f1 (ld_go f2 (ld_go f3 (ld_go f4 ?_))))
 have hst : statS W.X r = ⟨0, (r, (x.kind, (x.mode, (x.links, ((x.data.size : Int), ()))))), ⟨#[]⟩, []⟩ := by unfold statS; rw [nv.f]
 rw [hst] at hK
 refine st_to (k25.get e2 (by simp)) fun h6 k6 e6 hs6 => ?_
 exact ld_go (sm_all e6) (hK h6 ((k02.new k25 (by simp)).new k6 (by have := k02.1; have := k1.1; simp; omega)))
end
theorem Nx.new {t0 : Slc} {h h' h'' : Heap} {ss ss' : List Slc} {b : Nat} (n : Nx t0 h ss h' ss') (k : Keep [b] h' h'') (hb : h.size ≤ b) : Nx t0 h ss h'' ss' :=
 ⟨Nat.le_trans n.1 k.1, fun q hq hn => ⟨(n.2 q hq hn).1, by rw [k.2 q (Nat.lt_of_lt_of_le hq n.1) (by simp; omega)]; exact (n.2 q hq hn).2⟩⟩
theorem Nx.keep {t0 : Slc} {h h' h'' : Heap} {ss ss' : List Slc} (n : Nx t0 h ss h' ss') (k : Keep [] h' h'') : Nx t0 h ss h'' ss' := n.trans (Nx.of k)
section
variable {h0 h : Heap} {w : Nat} {mv : MbK.Ty} {t0 : Slc} {ss : List Slc} {vv : List (List NdV)} {W : Wk}
theorem IsRw.keepO (i : IsRw h0 h w mv t0 ss vv W) {b : Nat} {h' : Heap} {c : Array Value} {T : Nat} {f : Nat × Nat} (e : h[b]? = some (.cells c T f)) (hT : T ≠ 119) (hb : b ∉ fpS t0 ss) (hw : b ≠ w) (hl : h0.size ≤ b) (k : Keep [b] h h') : IsRw h0 h' w mv t0 ss vv W := by
 refine ⟨k.get i.o (by simpa using fun e => hw e.symm), i.s.keepS k (fun p hp hm => by simp at hm; subst hm; exact hb hp) (fun vs hvs v hv p hp hm => ?_), i.k.new k (by simpa using hl), i.m, i.mm, i.wn, i.wl, i.may⟩
 simp at hm
 subst hm
 obtain ⟨⟨L, r⟩, _⟩ := i.s.x vs hvs v hv
 rcases r with ⟨rfl', _⟩ | ⟨b', zs, ea, _, _, eh⟩
 ·rw [rfl'] at hp; simp [own] at hp
 ·have : p = b' := by unfold own at hp; rw [ea] at hp; simpa using hp
  subst this
  rw [e] at eh
  simp only [Option.some.injEq, robj, Obj.cells.injEq] at eh
  exact hT eh.2.1
theorem bx_self {p : ByteArray} : bx p.data.toList = p := by
 unfold bx; cases p; rfl
theorem last_row {l : List Rf} {n : Nat} {d : Rf} (h : l.length = n + 1) : l[n]? = some (l.getLastD d) := last_at h
theorem rw_place.s {p : ByteArray} {ns : List ByteArray} {K : Slc → ByteArray → Int → Heap → Prop} (i : IsRw h0 h w mv t0 ss vv W) (hp : splitP p = some ns)
 (hE : ∀ e, toS W ns = .error e → ∀ h', Keep [] h h' → e ≠ 0 → K ⟨none, 0, 0⟩ ⟨#[]⟩ e h')
 (hO : ∀ q, toS W ns = .ok q → ∀ h' sl, Keep [] h h' → Row h' t_api_Ref RF sl q.way → (∀ p ∈ own sl, h.size ≤ p) → K sl q.name 0 h') : ref15_work_place.C (some ⟨w, 0⟩) p h K := by
 apply ref15_work_place.c
 unfold ref15_work_place.m
 rw [← bx_self (p := p)]
 refine ref15_Split.s (fun hn => by rw [bx_self, hp] at hn; simp at hn) fun ns' hs h1 x1 k1 r1 o1 => ?_
 rw [bx_self, hp] at hs
 simp only [Option.some.injEq] at hs
 subst hs
 have hl8 := splitP_len hp
 have rl := r1.len
 have i1 := i.keep k1
 rw [if_neg (by decide)]
 cases ns with
 | nil =>
   have rl : x1.len = 0 := rl
   rw [if_pos (show decide ((x1.len : Int) = 0) = true from decide_eq_true (by omega))]
   exact hE 1709 (by unfold toS; rfl) h1 k1 (by decide)
 | cons n0 nr =>
   rw [if_neg (show ¬ decide ((x1.len : Int) = 0) = true from fun h => by have := of_decide_eq_true h; simp at rl; omega)]
   generalize hns : n0 :: nr = ns at *
   have hne : ns ≠ [] := by rw [← hns]; simp
   have hpos : 0 < ns.length := List.length_pos_iff.2 hne
   have hw : w64 ((x1.len : Int) - 1) = ((ns.length - 1 : Nat) : Int) := by rw [w64_id (by omega) (by omega)]; omega
   rw [hw]
   have hdl : ns.take (ns.length - 1) = ns.dropLast := List.dropLast_eq_take.symm
   have hcap := r1.cap
   refine seg_pre r1.seg (by omega) (n := ns.length - 1) (by omega) fun s1 g1 => ?_
   rw [hdl] at g1
   have hgl : ns.getLast? = some (ns.getLast hne) := List.getLast?_eq_some_getLast hne
   have hto : toS W ns = match goesS W ns.dropLast with
    | .error e => .error e
    | .ok way => match findN W.X (way.getLastD rootR) with
      | none => .error 1701
      | some x => if x.kind ≠ 1 then .error 1704 else if trn W (way.getLastD rootR) = false then .error 1705 else .ok ⟨ns.getLast hne, way.getLastD rootR, way⟩ := by
    unfold toS; rw [hgl]
    dsimp only
    cases goesS W ns.dropLast with
    | error e => rfl
    | ok way => cases findN W.X (way.getLastD rootR) <;> rfl
   refine rw_going.s i1 g1 (by simp; omega) (fun e he h2 k2 hne0 => ?_) fun l hl h2 sl k2 r2 o2 => ?_
   ·rw [if_pos (by simpa using hne0)]
    rw [he] at hto
    exact hE e hto h2 (k1.new k2 (by simp)) hne0
   ·rw [if_neg (by decide)]
    rw [hl] at hto
    dsimp only at hto
    obtain ⟨hsome, hlen⟩ := goesS_last (W := W) i.root hl
    have rl2 := r2.len
    have hlp : l.length = (l.length - 1) + 1 := by omega
    have hw2 : w64 ((sl.len : Int) - 1) = ((l.length - 1 : Nat) : Int) := by
     have : l.length ≤ 9 := by rw [hlen]; simp; omega
     rw [w64_id (by omega) (by omega)]; omega
    rw [hw2]
    refine seg_ix r2.seg (x := l.getLastD rootR) (by omega) (by rw [Int.toNat_natCast]; exact last_row hlp) rfl ?_
    refine new_st_gen fun b1 h4 hb1 k4 e4 hs4 => ?_
    have e4 : h4[b1]? = some (vobj 34 RF (l.getLastD rootR)) := e4
    refine ld_go (sm_all e4) ?_
    have k24 : Keep [] h1 h4 := k2.new k4 (by simp)
    have i4 := i1.keep k24
    refine rw_node.s i4 (fun hnone => by rw [hnone] at hsome; simp at hsome) fun x v nv h5 k5 => ?_
    rw [nv.f] at hto
    dsimp only at hto
    refine new_st_gen fun b2 h7 hb2 k7 e7 hs7 => ?_
    have e7 : h7[b2]? = some (vobj 83 NdK v) := e7
    have k47 : Keep [] h4 h7 := k5.new k7 (by simp)
    have k07 : Keep [] h h7 := (k1.new k24 (by simp)).new k47 (by simp)
    have f1 := (nd_f (sm_all e7)).2.1
    rw [nv.a.k] at f1
    refine ld_go f1 ?_
    by_cases hk : x.kind = 1
    case neg =>
     rw [if_pos (by simpa using hk)]
     rw [if_pos hk] at hto
     exact hE _ hto h7 k07 (by decide)
    rw [if_neg (by simpa using hk)]
    rw [if_neg (by simpa using hk)] at hto
    refine ld_go (k := .i) (x := (l.getLastD rootR).1) (sm_sub (sm_all (k47.get e4 (by simp))) (by decide) rfl) ?_
    refine rw_turns.s (i4.keep k47) fun h8 k8 => ?_
    have k08 := k07.new k8 (by simp)
    have htr : trn W (l.getLastD rootR) = mIn W.m W.user (l.getLastD rootR).1 := rfl
    rw [← htr]
    cases ht : trn W (l.getLastD rootR) with
    | false =>
      rw [if_pos (by rfl)]
      rw [ht, if_pos rfl] at hto
      exact hE _ hto h8 k08 (by decide)
    | true =>
      rw [if_neg (by simp)]
      rw [ht, if_neg (by simp)] at hto
      have k18 : Keep [] h1 h8 := (k24.new k47 (by simp)).new k8 (by simp)
      have k28 : Keep [] h2 h8 := (k4.new k47 (by simp)).new k8 (by simp)
      refine seg_ix (r1.seg.keep (by decide) k18) (x := ns.getLast hne) (by omega) (by rw [Int.toNat_natCast, List.getElem?_eq_getElem (by omega), List.getLast_eq_getElem]) rfl ?_
      exact hO _ hto h8 sl k08 (r2.keep k28 (by simp)) fun q hq => Nat.le_trans k1.1 (o2 q hq)
theorem rw_goes.s {p : ByteArray} {K : Rf → Int → Heap → Prop} (i : IsRw h0 h w mv t0 ss vv W) (hp : splitP p = some W.w0)
 (hE : ∀ e, meant W = .error e → ∀ h', Keep [] h h' → e ≠ 0 → K (rf 0 0) e h')
 (hO : ∀ r x, meant W = .ok (r, x) → ∀ h', Keep [] h h' → K r 0 h') : ref15_work_goes.C (some ⟨w, 0⟩) p h K := by
 apply ref15_work_goes.c
 unfold ref15_work_goes.m
 refine new_gen fun b1 h1 hb1 k1 e1 hs1 => ?_
 have e1 : h1[b1]? = some (vobj 34 RF (rf 0 0)) := e1
 rw [← bx_self (p := p)]
 refine ref15_Split.s (fun hn => by rw [bx_self, hp] at hn; simp at hn) fun ns' hs h2 x1 k2 r2 o2 => ?_
 rw [bx_self, hp] at hs
 simp only [Option.some.injEq] at hs
 subst hs
 rw [if_neg (by decide)]
 have k02 : Keep [] h h2 := k1.new k2 (by simp)
 have i2 := i.keep k02
 have hl8 := splitP_len hp
 have hb1g : h.size ≤ b1 := by omega
 refine rw_going.s i2 r2.seg hl8 (fun e he h4 k4 hne => ?_) fun l hl h4 sl k4 r4 o4 => ?_
 ·rw [if_pos (by simpa using hne)]
  refine st_to (y := rf 0 0) (k4.get (k2.get e1 (by simp)) (by simp)) fun h5 k5 e5 hs5 => ?_
  refine ld_go (sm_all e5) ?_
  exact hE e (by unfold meant; rw [he]) h5 ((k02.new k4 (by simp)).new k5 (by simpa using hb1g)) hne
 ·rw [if_neg (by decide)]
  obtain ⟨hsome, hlen⟩ := goesS_last (W := W) i.root hl
  obtain ⟨x, hx⟩ := Option.isSome_iff_exists.1 hsome
  have rl := r4.len
  have hlp : l.length = (l.length - 1) + 1 := by omega
  have hw2 : w64 ((sl.len : Int) - 1) = ((l.length - 1 : Nat) : Int) := by rw [w64_id (by omega) (by omega)]; omega
  rw [hw2]
  refine seg_ix r4.seg (x := l.getLastD rootR) (by omega) (by rw [Int.toNat_natCast]; exact last_row hlp) rfl ?_
  refine st_to (y := l.getLastD rootR) (k4.get (k2.get e1 (by simp)) (by simp)) fun h5 k5 e5 hs5 => ?_
  refine ld_go (sm_all e5) ?_
  exact hO _ x (by unfold meant; rw [hl]; dsimp only; rw [hx]) h5 ((k02.new k4 (by simp)).new k5 (by simpa using hb1g))
theorem rw_room.s {p : Plc} {x : Nd} {K : Int → Heap → Prop} (i : IsRw h0 h w mv t0 ss vv W) (hx : findN W.X p.at_ = some x) (hK : ∀ h', Keep [] h h' → K (roomS W.X p) h') : ref15_work_room.C (some ⟨w, 0⟩) p.at_ h K := by
 apply ref15_work_room.c
 unfold ref15_work_room.m
 refine new_gen fun b1 h1 hb1 k1 e1 hs1 => ?_
 have e1 : h1[b1]? = some (vobj 34 RF p.at_) := e1
 refine ld_go (sm_all e1) ?_
 refine rw_node.s (i.keep k1) (fun hnone => by rw [hx] at hnone; simp at hnone) fun x' v nv h2 k2 => ?_
 have hxx := nv.f
 rw [hx] at hxx
 cases hxx
 refine new_st_gen fun b2 h4 hb2 k4 e4 hs4 => ?_
 have e4 : h4[b2]? = some (vobj 83 NdK v) := e4
 have k14 : Keep [] h1 h4 := k2.new k4 (by simp)
 have k04 : Keep [] h h4 := k1.new k14 (by simp)
 refine ld_go (nd_f (sm_all e4)).2.2.2.2.2 ?_
 have el := nv.a.e.len
 have hen : entsOf W.X p.at_ = x.ents := by unfold entsOf; rw [hx]
 unfold roomS at hK
 rw [hen] at hK
 by_cases h32 : 32 ≤ x.ents.length
 ·rw [if_pos (show decide (((vEnts v).len : Int) ≥ 32) = true from decide_eq_true (by omega))]
  rw [if_pos h32] at hK
  exact hK h4 k04
 rw [if_neg (show ¬ decide (((vEnts v).len : Int) ≥ 32) = true from fun h => by have := of_decide_eq_true h; omega)]
 rw [if_neg h32] at hK
 have i4 := i.keep k04
 refine nck_go (ld_go i4.ts (ld_go (k := .i) (x := p.at_.1) (sm_sub (sm_all (k14.get e1 (by simp))) (by decide) rfl) ?_))
 refine ref15_Used.s i4.s.w i.small fun h5 k5 => ?_
 have hub := used_bound (X := W.X) (o := p.at_.1) i.small
 have hw : w64 (usedS W.X p.at_.1 + 32) = usedS W.X p.at_.1 + 32 := w64_id (by omega) (by omega)
 rw [hw]
 by_cases hq : usedS W.X p.at_.1 + 32 > 8192
 ·rw [if_pos (by simpa using hq)]
  rw [if_pos hq] at hK
  exact hK h5 (k04.new k5 (by simp))
 ·rw [if_neg (by simpa using hq)]
  rw [if_neg hq] at hK
  exact hK h5 (k04.new k5 (by simp))
end
section
variable {h0 h : Heap} {w : Nat} {mv : MbK.Ty} {t0 : Slc} {ss : List Slc} {vv : List (List NdV)} {W : Wk}
theorem IsRw.w_lt (i : IsRw h0 h w mv t0 ss vv W) : w < h.size := lt_of_some i.o
theorem rw_ents {d : Rf} {x : Nd} {v : NdV} {b1 b3 : Nat} {s' : Slc} {es : List Ent} {h6 : Heap} {K : Heap → Prop} (i : IsRw h0 h w mv t0 ss vv W) (k6 : Keep [] h h6) (nv : NV h6 vv W.X d v x) (e1 : h6[b1]? = some (vobj 34 RF d)) (e3 : h6[b3]? = some (vobj 83 NdK v))
 (hb1 : h.size ≤ b1) (hb3 : h.size ≤ b3) (hne : b1 ≠ b3) (r : Row h6 t_api_Dirent DE s' es) (ho : ∀ q ∈ own s', h.size ≤ q ∧ q ≠ b3) (hm : stMay (setN W.X d { x with ents := es }) = true)
 (hK : ∀ h' vv', IsRw h0 h' w mv t0 ss vv' { W with X := setN W.X d { x with ents := es } } → Nx t0 h ss h' ss → K h') :
 st .sl ((Pl.mk b3 0).fld 5) s' h6 fun h7 => ld RF (Pl.mk b1 0) h7 fun x8 => ld NdK (Pl.mk b3 0) h7 fun x9 => ref15_work_set.C (some ⟨w, 0⟩) x8 x9 h7 K := by
 have i6 := i.keep k6
 obtain ⟨v0, v1, v2, v3, v4, v5, ⟨⟩⟩ := v
 refine st_fld (k := NdK) (k' := .sl) (y := s') (n := 5) (x := ((v0, (v1, (v2, (v3, (v4, (v5, ())))))) : NdV)) (x' := ((v0, (v1, (v2, (v3, (v4, (s', ())))))) : NdV)) e3 (by decide) rfl ?_
 have e7 := get_set (o' := vobj 83 NdK ((v0, (v1, (v2, (v3, (v4, (s', ())))))) : NdV)) e3
 have k7 : Keep [b3] h6 (h6.setIfInBounds b3 (vobj 83 NdK ((v0, (v1, (v2, (v3, (v4, (s', ())))))) : NdV))) := keep_set
 generalize h6.setIfInBounds b3 (vobj 83 NdK ((v0, (v1, (v2, (v3, (v4, (s', ())))))) : NdV)) = h7 at e7 k7
 have hz := i.w_lt
 have hb3n : b3 ∉ fpS t0 ss := i.off hb3
 have i7 := i6.keepO e3 (by decide) hb3n (by omega) (by have := i.k.1; omega) k7
 refine ld_go (sm_all (k7.get e1 (by simpa using hne))) (ld_go (sm_all e7) ?_)
 have r7 : Row h7 t_api_Dirent DE s' es := r.keep k7 fun q hq hm => by simp at hm; exact (ho q hq).2 hm
 refine rw_set.s (x := x) (y := { x with ents := es }) i7 nv.f ⟨nv.a.n, nv.a.k, nv.a.m, nv.a.l, nv.a.d, r7.seg⟩ rfl hm (fun q hq => ⟨i.off (ho q hq).1, r7.lt q hq⟩) ⟨⟨_, r7⟩, fun q hq => by have := (ho q hq).1; have := i.k.1; omega⟩ fun h' vv' i' n' => ?_
 exact hK h' vv' i' (((Nx.of k6).new k7 hb3).trans n')
theorem rw_enter.s {p : Plc} {r : Rf} {x : Nd} {K : Heap → Prop} (i : IsRw h0 h w mv t0 ss vv W) (hx : findN W.X p.at_ = some x) (hm : stMay (putS W.X p r) = true)
 (hK : ∀ h' vv', IsRw h0 h' w mv t0 ss vv' { W with X := putS W.X p r } → Nx t0 h ss h' ss → K h') : ref15_work_enter.C (some ⟨w, 0⟩) p.at_ p.name r h K := by
 apply ref15_work_enter.c
 unfold ref15_work_enter.m
 refine new_gen fun b1 h1 hb1 k1 e1 hs1 => ?_
 have e1 : h1[b1]? = some (vobj 34 RF p.at_) := e1
 refine new_gen fun b2 h2 hb2 k2 e2 hs2 => ?_
 have e2 : h2[b2]? = some (vobj 34 RF r) := e2
 have e1 := k2.get e1 (by simp)
 have k02 : Keep [] h h2 := k1.new k2 (by simp)
 refine ld_go (sm_all e1) ?_
 refine rw_node.s (i.keep k02) (fun hnone => by rw [hx] at hnone; simp at hnone) fun x' v nv h3 k3 => ?_
 have hxx := nv.f
 rw [hx] at hxx
 cases hxx
 refine new_st_gen fun b3 h5 hb3 k5 e5 hs5 => ?_
 have e5 : h5[b3]? = some (vobj 83 NdK v) := e5
 have k25 : Keep [] h2 h5 := k3.new k5 (by simp)
 have k05 : Keep [] h h5 := k02.new k25 (by simp)
 have nv5 := nv.keep k25
 refine ld_go (nd_f (sm_all e5)).2.2.2.2.2 (ld_go (sm_all (k25.get e2 (by simp))) ?_)
 have hsm : x.ents.length ≤ 32 := (nd_small (findN_may i.may hx)).2.1
 refine ref7_SetDir.u nv5.a.e (by omega) fun s' h6 k6 r6 o6 => ?_
 have hput : putS W.X p r = setN W.X p.at_ { x with ents := (setR x.ents (p.name, (r, ()))).1 } := by unfold putS; rw [hx]
 rw [hput] at hm hK
 have z02 := k02.1
 have z25 := k3.1
 exact rw_ents i (k05.new k6 (by simp)) (nv5.keep k6) (k6.get (k25.get e1 (by simp)) (by simp)) (k6.get e5 (by simp)) (by omega) (by omega) (by omega) r6 (fun q hq => by have := o6 q hq; have := lt_of_some e5; have := k05.1; omega) hm hK
theorem rw_leave.s {p : Plc} {x : Nd} {K : Heap → Prop} (i : IsRw h0 h w mv t0 ss vv W) (hx : findN W.X p.at_ = some x) (hm : stMay (dropS W.X p) = true)
 (hK : ∀ h' vv', IsRw h0 h' w mv t0 ss vv' { W with X := dropS W.X p } → Nx t0 h ss h' ss → K h') : ref15_work_leave.C (some ⟨w, 0⟩) p.at_ p.name h K := by
 apply ref15_work_leave.c
 unfold ref15_work_leave.m
 refine new_gen fun b1 h1 hb1 k1 e1 hs1 => ?_
 have e1 : h1[b1]? = some (vobj 34 RF p.at_) := e1
 refine ld_go (sm_all e1) ?_
 refine rw_node.s (i.keep k1) (fun hnone => by rw [hx] at hnone; simp at hnone) fun x' v nv h3 k3 => ?_
 have hxx := nv.f
 rw [hx] at hxx
 cases hxx
 refine new_st_gen fun b3 h5 hb3 k5 e5 hs5 => ?_
 have e5 : h5[b3]? = some (vobj 83 NdK v) := e5
 have k15 : Keep [] h1 h5 := k3.new k5 (by simp)
 have k05 : Keep [] h h5 := k1.new k15 (by simp)
 have nv5 := nv.keep k15
 refine ld_go (nd_f (sm_all e5)).2.2.2.2.2 ?_
 have hsm : x.ents.length ≤ 32 := (nd_small (findN_may i.may hx)).2.1
 refine ref7_RemoveDir.u nv5.a.e (by omega) fun s' h6 k6 r6 o6 => ?_
 have hput : dropS W.X p = setN W.X p.at_ { x with ents := (remR x.ents p.name).1 } := by unfold dropS; rw [hx]
 rw [hput] at hm hK
 have z15 := k3.1
 exact rw_ents i (k05.new k6 (by simp)) (nv5.keep k6) (k6.get (k15.get e1 (by simp)) (by simp)) (k6.get e5 (by simp)) (by omega) (by omega) (by omega) r6 (fun q hq => by have := o6 q hq; have := lt_of_some e5; have := k05.1; omega) hm hK
theorem rw_table {ha : Heap} {o : Nat} (i : IsRw h0 ha w mv t0 ss vv W) (kk : Keep [] ha h) (ho : o < W.X.length) {s' : Slc} {vs' : List NdV} {t' : Tab} (r : Row h t_api_Node NdK s' vs') (na : All2 (NdAt h) vs' t') (os : ∀ q ∈ own s', ha.size ≤ q)
 (oe : ∀ v ∈ vs', ∀ q ∈ own (vEnts v), q < ha.size ∧ q ∉ fpS t0 ss) (ox : ∀ v ∈ vs', EntR h0 ha (vEnts v)) (hm : stMay (W.X.set o t') = true) {K : Heap → Prop}
 (hK : ∀ h' ss' vv', IsRw h0 h' w mv t0 ss' vv' { W with X := W.X.set o t' } → Nx t0 ha ss h' ss' → K h') :
 ix t0 (o : Int) 1 fun l17 => Go.Al.st .sl l17 s' h K := by
 have L := i.s.w.lens
 have ih := i.keep kk
 refine ix_st ih.s.t (by omega) (by omega) rfl fun h' k' r' => ?_
 rw [Int.toNat_natCast] at r'
 have ka : Keep (own t0) ha h' := (kk.weak (by simp)).then k' (fun _ h _ => h) (fun _ h _ => h)
 have ft : ∀ q ∈ own t0, q < ha.size := fun q hq => i.s.lt q (fpS_t hq)
 have ho' : o < ss.length := by omega
 have oput := OwS.put (W := W) i.s i.k.1 ho' (S := own t0) ka (fun q hq => .inl hq) (s' := s') (vs' := vs') (t' := t') r'
  (r.keep k' fun q hq hm => by have := os q hq; have := ft q hm; omega)
  (All2.monoM (fun u hu z _ a => a.keep k' fun q hq hm => (oe u hu q hq).2 (fpS_t hm)) na) (fun q hq => .inr (os q hq)) oe ox
 have hwn : w ∉ fpS t0 (ss.set o s') := fun hm => by
  rcases fpS_set hm with e | e
  ·exact i.wn e
  ·have := os w e; have := i.w_lt; omega
 refine hK h' _ _ ⟨ka.get i.o fun hm => i.wn (fpS_t hm), oput, i.k.new ka (fun q hq => i.s.f q (fpS_t hq)), i.m, i.mm, hwn, i.wl, hm⟩ ⟨ka.1, fun q hq hn => ⟨fun hm => ?_, ka.2 q hq fun hm => hn (fpS_t hm)⟩⟩
 rcases fpS_set hm with e | e
 ·exact hn e
 ·have := os q e; omega
theorem tab_at {X : Fs} {o : Nat} {t : Tab} (ho : o < X.length) : setT X (o : Int) t = X.set o t := by
 unfold setT; rw [if_pos ⟨by omega, by omega⟩, Int.toNat_natCast]
theorem rw_loose.s {r : Rf} {x : Nd} {K : Heap → Prop} (i : IsRw h0 h w mv t0 ss vv W) (hx : findN W.X r = some x) (hm : stMay (lessS W.X r) = true)
 (hK : ∀ h' ss' vv', IsRw h0 h' w mv t0 ss' vv' { W with X := lessS W.X r } → Nx t0 h ss h' ss' → K h') : ref15_work_loose.C (some ⟨w, 0⟩) r h K := by
 apply ref15_work_loose.c
 unfold ref15_work_loose.m
 refine new_gen fun b1 h1 hb1 k1 e1 hs1 => ?_
 have e1 : h1[b1]? = some (vobj 34 RF r) := e1
 refine ld_go (sm_all e1) ?_
 refine rw_node.s (i.keep k1) (fun hnone => by rw [hx] at hnone; simp at hnone) fun x' v nv h3 k3 => ?_
 have hxx := nv.f
 rw [hx] at hxx
 cases hxx
 refine new_st_gen fun b2 h4 hb2 k4 e4 hs4 => ?_
 have e4 : h4[b2]? = some (vobj 83 NdK v) := e4
 have k14 : Keep [] h1 h4 := k3.new k4 (by simp)
 have k04 : Keep [] h h4 := k1.new k14 (by simp)
 have nv4 := nv.keep k14
 have hlk := (nd_ok (findN_may i.may hx)).2.2.2.2
 have f3 := (nd_f (sm_all e4)).2.2.2.1
 rw [nv.a.l] at f3
 refine ld_go f3 ?_
 have hw : w64 (x.links - 1) = x.links - 1 := w64_id (by omega) (by omega)
 rw [hw]
 have hents := nv4.ents (i.keep k04).s
 have n4 := nv4.a
 obtain ⟨v0, v1, v2, v3, v4, v5, ⟨⟩⟩ := v
 refine st_fld (k := NdK) (k' := .i) (y := x.links - 1) (n := 3) (x := ((v0, (v1, (v2, (v3, (v4, (v5, ())))))) : NdV)) (x' := ((v0, (v1, (v2, (x.links - 1, (v4, (v5, ())))))) : NdV)) e4 (by decide) rfl ?_
 have e5 := get_set (o' := vobj 83 NdK ((v0, (v1, (v2, (x.links - 1, (v4, (v5, ())))))) : NdV)) e4
 have k5 : Keep [b2] h4 (h4.setIfInBounds b2 (vobj 83 NdK ((v0, (v1, (v2, (x.links - 1, (v4, (v5, ())))))) : NdV))) := keep_set
 generalize h4.setIfInBounds b2 (vobj 83 NdK ((v0, (v1, (v2, (x.links - 1, (v4, (v5, ())))))) : NdV)) = h5 at e5 k5
 have z1 := k1.1
 have z3 := k3.1
 have hb2g : h.size ≤ b2 := by omega
 have i4 := i.keep k04
 have i5 := i4.keepO e4 (by decide) (i.off hb2g) (by have := i.w_lt; omega) (by have := i.k.1; omega) k5
 have k05 : Keep [] h h5 := k04.new k5 (by simpa using hb2g)
 have e1' : h5[b1]? = some (vobj 34 RF r) := k5.get (k14.get e1 (by simp)) (by simp; omega)
 refine ld_go (k := .i) (x := x.links - 1) (nd_f (sm_all e5)).2.2.2.1 ?_
 have hless : lessS W.X r = if x.links - 1 = 0 then setT W.X r.1 ((tabOf W.X r.1).filter fun y => !decide (y.num = r.2.1)) else setN W.X r { x with links := x.links - 1 } := by unfold lessS; rw [hx]
 by_cases hl : x.links - 1 > 0
 ·rw [if_pos (by simpa using hl)]
  rw [if_neg (by omega)] at hless
  rw [hless] at hm hK
  refine ld_go (sm_all e1') (ld_go (sm_all e5) ?_)
  have hb2e : ∀ q ∈ own v5, q ≠ b2 := fun q hq e => by
   have h1 := (hents.1 q hq).2
   obtain ⟨⟨L, rr⟩, _⟩ := hents.2
   rcases rr with ⟨rn, _⟩ | ⟨b', zs, ea, _, _, eh⟩
   ·have rn : v5 = _ := rn
    rw [rn] at hq; simp [own] at hq
   ·have ea : Slc.a v5 = some ⟨b', 0⟩ := ea
    have : q = b' := by unfold own at hq; rw [ea] at hq; simpa using hq
    subst this; subst e
    rw [e4] at eh
    simp only [Option.some.injEq, robj, vobj, Obj.cells.injEq] at eh
    exact absurd eh.2.1 (by decide)
  refine rw_set.s (x := x) (y := { x with links := x.links - 1 }) i5 hx ⟨n4.n, n4.k, n4.m, rfl, n4.d, n4.e.keep' k5 fun q hq hm => by simp at hm; exact hb2e q hq hm⟩ rfl hm (fun q hq => ⟨(hents.1 q hq).1, by have := (hents.1 q hq).2; have := k5.1; omega⟩) (hents.2.keep k5 fun q hq hm => by simp at hm; exact hb2e q hq hm) fun h' vv' i' n' => ?_
  exact hK h' ss vv' i' (((Nx.of k04).new k5 hb2g).trans n')
 ·rw [if_neg (by simpa using hl)]
  rw [if_pos (by omega)] at hless
  obtain ⟨o, hro, ho⟩ := tab_in (findN_num hx).2
  have L := i5.s.w.lens
  have fo : ∀ h', Keep [] h5 h' → sm .i ((Pl.mk b1 0).fld 0) (o : Int) h' := fun h' k => by rw [← hro]; exact sm_sub (sm_all (k.get e1' (by simp))) (by decide) rfl
  have fn : ∀ h', Keep [] h5 h' → sm .i ((Pl.mk b1 0).fld 1) r.2.1 h' := fun h' k => sm_sub (sm_all (k.get e1' (by simp))) (by decide) rfl
  refine nck_go (ld_go i5.t (ld_go (fo h5 Keep.rfl) (i5.s.w.tab ho ?_)))
  rw [hro, tab_at ho, tabOf_at ho] at hless
  rw [hless] at hm hK
  have rl := i5.s.w.rlen ho
  have row := i5.s.w.row ho
  have nds := i5.s.w.nds ho
  have hsz := i.small.2 _ (List.getElem_mem ho)
  have hvl : (vv[o]'(by omega)).length ≤ 32 := by omega
  refine lp_go (fun (y : Slc × Int × Unit) (h7 : Heap) => ∃ q : Nat, y.2.1 = q ∧ q ≤ (W.X[o]).length ∧ Keep [] h5 h7 ∧ Row h7 t_api_Node NdK y.1 (((vv[o]'(by omega)).take q).filter fun v => !decide (vNum v = r.2.1)) ∧ ∀ p ∈ own y.1, h5.size ≤ p) (fun (y : Slc × Int × Unit) _ => (W.X[o]).length - y.2.1.toNat) ?_ ?_
  ·exact ⟨0, rfl, by omega, Keep.rfl, Row.nil, by simp [own]⟩
  ·rintro ⟨(sl : Slc), (iv : Int), _⟩ h7 ⟨q, e, hq, k7, r7, o7⟩
   dsimp only at e r7 o7 ⊢
   subst e
   by_cases hlt : q < (W.X[o]).length
   ·rw [if_pos (show decide ((q : Int) < ((ss[o]'(by omega)).len : Int)) = true from decide_eq_true (by omega))]
    have hwq : w64 ((q : Int) + 1) = ((q + 1 : Nat) : Int) := by rw [w64_id (by omega) (by omega)]; omega
    rw [hwq]
    have hqv : q < (vv[o]'(by omega)).length := by omega
    have hnd := nds.getI hqv hlt
    have hxs : (vv[o]'(by omega))[(q : Int).toNat]? = some ((vv[o]'(by omega))[q]) := by rw [Int.toNat_natCast]; exact List.getElem?_eq_getElem hqv
    have htk : (vv[o]'(by omega)).take (q + 1) = (vv[o]'(by omega)).take q ++ [(vv[o]'(by omega))[q]] := take_succ' hqv
    refine jn_in (fun y h' => Keep [] h5 h' ∧ Row h' t_api_Node NdK y.1 (((vv[o]'(by omega)).take (q + 1)).filter fun v => !decide (vNum v = r.2.1)) ∧ ∀ p ∈ own y.1, h5.size ≤ p) ?_ ?_
    ·refine seg_ixl (row.keep (by decide) k7) (by omega) hxs rfl fun l3 hl3 => ?_
     have g0 := (nd_f hl3).1
     refine ld_go g0 (ld_go (fn h7 k7) ?_)
     refine jn_in (fun y h' => Keep [] h5 h' ∧ Row h' t_api_Node NdK y.1 (((vv[o]'(by omega)).take (q + 1)).filter fun v => !decide (vNum v = r.2.1)) ∧ ∀ p ∈ own y.1, h5.size ≤ p) ?_ ?_
     ·by_cases hnum : vNum ((vv[o]'(by omega))[q]) = r.2.1
      ·rw [if_neg (by simpa using hnum)]
       refine ⟨k7, ?_, o7⟩
       rw [htk, List.filter_append]
       simpa [hnum] using r7
      ·rw [if_pos (by simpa using hnum)]
       refine seg_ix (row.keep (by decide) k7) (by omega) hxs rfl ?_
       have hfl : (((vv[o]'(by omega)).take q).filter fun v => !decide (vNum v = r.2.1)).length ≤ 32 := Nat.le_trans (List.length_filter_le _ _) (by rw [List.length_take]; omega)
       refine app2 r7 rfl (Nat.le_trans (Nat.mul_le_mul_right 72 (Nat.succ_le_succ hfl)) (by decide)) fun s' h11 k11 r11 o11 => ?_
       refine ⟨k7.new k11 o7, ?_, fun p hp => ?_⟩
       ·rw [htk, List.filter_append]
        simpa [hnum] using r11
       ·rcases o11 p hp with e | e
        ·exact o7 p e
        ·have := k7.1; omega
     ·rintro ⟨(s' : Slc), _⟩ h9 hh
      exact hh
    ·rintro ⟨(s' : Slc), _⟩ h8 ⟨k8, r8, o8⟩
     exact ⟨⟨q + 1, rfl, by omega, k8, r8, o8⟩, by simp; omega⟩
   ·rw [if_neg (show ¬ decide ((q : Int) < ((ss[o]'(by omega)).len : Int)) = true from fun h => by have := of_decide_eq_true h; omega)]
    obtain rfl : q = (W.X[o]).length := by omega
    have htk : (vv[o]'(by omega)).take (W.X[o]).length = vv[o]'(by omega) := List.take_of_length_le (by omega)
    rw [htk] at r7
    have i7 := i5.keep k7
    refine nck_go (ld_go i7.t (ld_go (fo h7 k7) ?_))
    have hmem : ∀ u, u ∈ (vv[o]'(by omega)).filter (fun v => !decide (vNum v = r.2.1)) → u ∈ vv[o]'(by omega) := fun u hu => (List.mem_filter.1 hu).1
    have hvm : vv[o]'(by omega) ∈ vv := List.getElem_mem _
    refine rw_table i5 k7 ho r7 (t' := (W.X[o]).filter fun y => !decide (y.num = r.2.1)) (all2_filter (fun a b h => by rw [h.n]) ((nds.mono fun _ _ a => a.keep k7 (by simp)))) o7
     (fun u hu p hp => ⟨i5.s.elt2 hvm (hmem u hu) p hp, i5.s.e _ hvm u (hmem u hu) p hp⟩) (fun u hu => i5.s.x _ hvm u (hmem u hu)) hm fun h' ss' vv' i' n' => ?_
    exact hK h' ss' vv' i' (((Nx.of k04).new k5 hb2g).trans n')
end
section
variable {h0 h : Heap} {w : Nat} {mv : MbK.Ty} {t0 : Slc} {ss : List Slc} {vv : List (List NdV)} {W : Wk}
theorem row_tag {T T' b : Nat} {k : Kd} {s : Slc} {L : List k.Ty} {c : Array Value} {f : Nat × Nat} (r : Row h T k s L) (e : h[b]? = some (.cells c T' f)) (hT : T' ≠ T) : b ∉ own s := fun hm => by
 rcases r with ⟨rfl, _⟩ | ⟨b', zs, ea, _, _, eh⟩
 ·simp [own] at hm
 ·have : b = b' := by unfold own at hm; rw [ea] at hm; simpa using hm
  subst this
  rw [e] at eh
  simp only [Option.some.injEq, robj, Obj.cells.injEq] at eh
  exact hT eh.2.1
theorem tag_off {X : Fs} (o : OwS h0 h t0 ss vv X) {b T : Nat} {c : Array Value} {f : Nat × Nat} (e : h[b]? = some (.cells c T f)) (h1 : T ≠ 61) (h2 : T ≠ 83) : b ∉ fpS t0 ss := fun hm => by
 rcases fpS_mem hm with hq | ⟨s, hs, hq⟩
 ·exact row_tag o.t e h1 hq
 ·obtain ⟨j, hj, rfl⟩ := List.mem_iff_getElem.1 hs
  have := o.r.len
  exact row_tag (o.r.getI hj (by omega)) e h2 hq
theorem IsRw.keepV (i : IsRw h0 h w mv t0 ss vv W) {b T : Nat} {c : Array Value} {f : Nat × Nat} {h' : Heap} (e : h[b]? = some (.cells c T f)) (h1 : T ≠ 61) (h2 : T ≠ 83) (h3 : T ≠ 119) (h4 : T ≠ 97) (hl : h0.size ≤ b) (k : Keep [b] h h') : IsRw h0 h' w mv t0 ss vv W :=
 i.keepO e h3 (tag_off i.s e h1 h2) (fun hw => by subst hw; have := i.o; rw [e] at this; simp only [Option.some.injEq, vobj, Obj.cells.injEq] at this; exact h4 this.2.1) hl k
theorem NV.keepN {h1 h2 : Heap} {X : Fs} {r : Rf} {v : NdV} {x : Nd} {S : List Nat} (n : NV h1 vv X r v x) (o : OwS h0 h t0 ss vv X) (k : Keep S h1 h2) (hS : ∀ q ∈ S, h.size ≤ q) : NV h2 vv X r v x := by
 obtain ⟨vs, hvs, hv⟩ := n.m
 exact ⟨n.f, n.a.keep k fun q hq hm => by have := o.elt2 hvs hv q hq; have := hS q hm; omega, n.m⟩
def RwOp (h0 h : Heap) (w : Nat) (mv : MbK.Ty) (t0 : Slc) (ss : List Slc) (W : Wk) (R : Rs) (K : AnK.Ty → Heap → Prop) : Prop :=
 (∀ e, R = .error e → ∀ h', Keep [] h h' → e ≠ 0 → K (anv (anE e) ⟨none, 0, 0⟩) h') ∧
 (∀ Y t, R = .ok (Y, t) → ∀ h' ss' vv' sl, IsRw h0 h' w mv t0 ss' vv' { W with X := Y } → Nx t0 h ss h' ss' → Seg .s sl t.names h' → (∀ q ∈ own sl, h.size ≤ q) → K (anv t sl) h')
theorem rw_fail {R : Rs} {K : AnK.Ty → Heap → Prop} {h1 : Heap} {b1 : Nat} {x : AnK.Ty} {e : Int} (hO : RwOp h0 h w mv t0 ss W R K) (hR : R = .error e) (hne : e ≠ 0) (k : Keep [] h h1) (e1 : h1[b1]? = some (vobj 43 AnK x)) (hb : h.size ≤ b1) :
 ref15_code.C e h1 fun x5 h3 => st AnK (Pl.mk b1 0) x5 h3 fun h4 => ld AnK (Pl.mk b1 0) h4 fun x6 => K x6 h4 := by
 refine rw_code.s fun h3 k3 => ?_
 refine st_to (y := anv (anE e) ⟨none, 0, 0⟩) (k3.get e1 (by simp)) fun h4 k4 e4 hs4 => ?_
 exact ld_go (sm_all e4) (hO.1 e hR h4 ((k.new k3 (by simp)).new k4 (by simpa using hb)) hne)
theorem rw_done {R : Rs} {K : AnK.Ty → Heap → Prop} {h1 : Heap} {b1 : Nat} {x : AnK.Ty} {Y : Fs} {t : An} {ss' : List Slc} {vv' : List (List NdV)} (hO : RwOp h0 h w mv t0 ss W R K) (hR : R = .ok (Y, t)) (hn : t.names = []) (i' : IsRw h0 h1 w mv t0 ss' vv' { W with X := Y })
 (n : Nx t0 h ss h1 ss') (e1 : h1[b1]? = some (vobj 43 AnK x)) (hb : h.size ≤ b1) (h0h : h0.size ≤ h.size) : st AnK (Pl.mk b1 0) (anv t ⟨none, 0, 0⟩) h1 fun h4 => ld AnK (Pl.mk b1 0) h4 fun x6 => K x6 h4 := by
 refine st_to (y := anv t ⟨none, 0, 0⟩) e1 fun h4 k4 e4 hs4 => ?_
 refine ld_go (sm_all e4) ?_
 refine hO.2 Y t hR h4 ss' vv' ⟨none, 0, 0⟩ (i'.keepV e1 (by decide) (by decide) (by decide) (by decide) (by omega) k4) (n.new k4 hb) ?_ (by simp [own])
 rw [hn]; exact (Row.nil (T := t_string)).seg
def fileR (W : Wk) : Except Int (Rf × Nd) := match fileS W with | .error e => .error e | .ok (r, x) => if rdb W r x = false then .error 1705 else .ok (r, x)
def fileT (W : Wk) (turn : Bool) : Except Int (Rf × Nd) := if turn then ownS W else fileR W
theorem rw_file.s {turn : Bool} {K : Rf → NdV → Int → Heap → Prop} (i : IsRw h0 h w mv t0 ss vv W) (hp : splitP W.c.path = some W.w0)
 (hE : ∀ e, fileT W turn = .error e → ∀ h' r v, Keep [] h h' → e ≠ 0 → K r v e h')
 (hO : ∀ r x, fileT W turn = .ok (r, x) → ∀ h' v, Keep [] h h' → NV h' vv W.X r v x → K r v 0 h') : ref15_work_file.C (some ⟨w, 0⟩) turn h K := by
 apply ref15_work_file.c
 unfold ref15_work_file.m
 refine new_gen fun b1 h1 hb1 k1 e1 hs1 => ?_
 have e1 : h1[b1]? = some (vobj 34 RF (rf 0 0)) := e1
 refine new_gen fun b2 h2 hb2 k2 e2 hs2 => ?_
 have e2 : h2[b2]? = some (vobj 83 NdK nd0) := e2
 have e1 := k2.get e1 (by simp)
 have k02 : Keep [] h h2 := k1.new k2 (by simp)
 have z02 := k02.1
 have i2 := i.keep k02
 refine nck_go (ld_go i2.path ?_)
 -- how it ends
 have fin : ∀ (hh : Heap) (r : Rf) (v : NdV) (e : Int) (b3 b4 : Nat), Keep [] h2 hh → hh[b3]? = some (vobj 34 RF r) → hh[b4]? = some (vobj 83 NdK v) → h2.size ≤ b3 → h2.size ≤ b4 → (∀ h', Keep [b1, b2] hh h' → Keep [] h h' → K r v e h') →
  ld RF (Pl.mk b3 0) hh fun x27 => ld NdK (Pl.mk b4 0) hh fun x28 => Go.Al.st RF (Pl.mk b1 0) x27 hh fun h20 => sm NdK (Pl.mk b4 0) x28 h20 ∧ Go.Al.st NdK (Pl.mk b2 0) x28 h20 fun h21 => ld RF (Pl.mk b1 0) h21 fun x29 => ld NdK (Pl.mk b2 0) h21 fun x30 => K x29 x30 e h21 := by
  intro hh r v e b3 b4 k e3 e4 g3 g4 hK
  refine ld_go (sm_all e3) (ld_go (sm_all e4) ?_)
  refine st_to (y := r) (k.get e1 (by simp)) fun h20 k20 e20 hs20 => ?_
  refine ⟨sm_all (k20.get e4 (by simp; omega)), ?_⟩
  refine st_to (y := v) (k20.get (k.get e2 (by simp)) (by simp; omega)) fun h21 k21 e21 hs21 => ?_
  refine ld_go (sm_all (k21.get e20 (by simp; omega))) (ld_go (sm_all e21) ?_)
  exact hK h21 (keep_add2 Keep.rfl k20 k21) (((k02.new k (by simp)).new k20 (by simp; omega)).new k21 (by simp; omega))
 refine rw_goes.s i2 hp (fun e he h3 k3 hne => ?_) fun r x hm h3 k3 => ?_
 ·refine new_st_gen fun b3 h5 hb3 k5 e5 hs5 => ?_
  have e5 : h5[b3]? = some (vobj 34 RF (rf 0 0)) := e5
  rw [if_pos (by simpa using hne)]
  refine ld_go (sm_all e5) ?_
  have k25 : Keep [] h2 h5 := k3.new k5 (by simp)
  refine st_to (y := rf 0 0) (k25.get e1 (by simp)) fun h6 k6 e6 hs6 => ?_
  refine st_to (y := nd0) (k6.get (k25.get e2 (by simp)) (by simp; omega)) fun h7 k7 e7 hs7 => ?_
  refine ld_go (sm_all (k7.get e6 (by simp; omega))) (ld_go (sm_all e7) ?_)
  refine hE e ?_ h7 _ _ (((k02.new k25 (by simp)).new k6 (by simp; omega)).new k7 (by simp; omega)) hne
  unfold fileT ownS fileR fileS
  rw [he]
  cases turn <;> rfl
 ·refine new_st_gen fun b3 h5 hb3 k5 e5 hs5 => ?_
  have e5 : h5[b3]? = some (vobj 34 RF r) := e5
  rw [if_neg (by decide)]
  refine ld_go (sm_all e5) ?_
  have k25 : Keep [] h2 h5 := k3.new k5 (by simp)
  have hx := meant_ok hm
  have i5 := i2.keep k25
  refine rw_node.s i5 (fun hnone => by rw [hx] at hnone; simp at hnone) fun x' v nv h8 k8 => ?_
  have hxx := nv.f
  rw [hx] at hxx
  cases hxx
  refine new_st_gen fun b4 h10 hb4 k10 e10 hs10 => ?_
  have e10 : h10[b4]? = some (vobj 83 NdK v) := e10
  have k510 : Keep [] h5 h10 := k8.new k10 (by simp)
  have k210 : Keep [] h2 h10 := k25.new k510 (by simp)
  have nv10 := nv.keep k510
  have i10 := i2.keep k210
  have e3' := k510.get e5 (by simp)
  have z3 := k3.1
  have z8 := k8.1
  have k010 := k02.new k210 (by simp)
  have hfs : fileS W = if x.kind = 1 then .error 1703 else .ok (r, x) := by unfold fileS; rw [hm]
  refine jn_in (fun _ h' => Keep [] h10 h' ∧ fileT W turn = .ok (r, x)) ?_ ?_
  ·have f1 := (nd_f (sm_all e10)).2.1
   rw [nv.a.k] at f1
   refine ld_go f1 ?_
   by_cases hk : x.kind = 1
   ·rw [if_pos (by simpa using hk)]
    refine fin h10 r v 1703 b3 b4 k210 e3' e10 (by omega) (by omega) fun h' _ k' => hE 1703 ?_ h' _ _ k' (by decide)
    rw [if_pos hk] at hfs
    unfold fileT ownS fileR
    rw [hfs]
    cases turn <;> rfl
   rw [if_neg (by simpa using hk)]
   rw [if_neg hk] at hfs
   have hown : ownS W = if trn W r = false then .error 1705 else .ok (r, x) := by unfold ownS; rw [hfs]
   have hrd : fileR W = if rdb W r x = false then .error 1705 else .ok (r, x) := by unfold fileR; rw [hfs]
   refine jn_in (fun y h' => Keep [] h10 h' ∧ ((y.1 = true ∧ fileT W turn = .error 1705) ∨ (y.1 = false ∧ fileT W turn = .ok (r, x)))) ?_ ?_
   ·cases turn with
    | true =>
      rw [if_pos rfl]
      refine ld_go (k := .i) (x := r.1) (sm_sub (sm_all e3') (by decide) rfl) ?_
      refine rw_turns.s i10 fun h15 k15 => ?_
      have htr : trn W r = mIn W.m W.user r.1 := rfl
      cases ht : mIn W.m W.user r.1 with
      | false =>
        rw [if_pos (by rfl)]
        refine ⟨k15, .inl ⟨rfl, ?_⟩⟩
        show ownS W = _
        rw [hown, htr, ht]; rfl
      | true =>
        rw [if_neg (by simp)]
        refine ld_go (sm_all (k15.get e3' (by simp))) (ld_go (sm_all (k15.get e10 (by simp))) ?_)
        refine rw_reads.s (i10.keep k15) (nv10.keep k15).a fun h16 k16 => ?_
        have hrt : rdb W r x = true := by unfold rdb; rw [htr, ht]; rfl
        rw [hrt]
        refine ⟨k15.new k16 (by simp), .inr ⟨rfl, ?_⟩⟩
        show ownS W = _
        rw [hown, htr, ht]; rfl
    | false =>
      rw [if_neg (by simp)]
      refine ld_go (sm_all e3') (ld_go (sm_all e10) ?_)
      refine rw_reads.s i10 nv10.a fun h17 k17 => ?_
      cases hr : rdb W r x with
      | false => exact ⟨k17, .inl ⟨rfl, by show fileR W = _; rw [hrd, hr]; rfl⟩⟩
      | true => exact ⟨k17, .inr ⟨rfl, by show fileR W = _; rw [hrd, hr]; rfl⟩⟩
   ·rintro ⟨(y : Bool), _⟩ h14 ⟨k14, hy⟩
    dsimp only at hy ⊢
    rcases hy with ⟨rfl, hf⟩ | ⟨rfl, hf⟩
    ·rw [if_pos rfl]
     exact fin h14 r v 1705 b3 b4 (k210.new k14 (by simp)) (k14.get e3' (by simp)) (k14.get e10 (by simp)) (by omega) (by omega) fun h' _ k' => hE 1705 hf h' _ _ k' (by decide)
    ·rw [if_neg (by simp)]
     exact ⟨k14, hf⟩
  ·rintro ⟨⟩ h11 ⟨k11, hf⟩
   refine fin h11 r v 0 b3 b4 (k210.new k11 (by simp)) (k11.get e3' (by simp)) (k11.get e10 (by simp)) (by omega) (by omega) fun h' kb k' => hO r x hf h' v k' ?_
   exact (nv10.keep k11).keepN i.s kb fun q hq => by simp at hq; omega
theorem toS_way {ns : List ByteArray} {q : Plc} (h : toS W ns = .ok q) : 0 < q.way.length := by
 unfold toS at h
 split at h
 ·simp at h
 ·split at h
  ·simp at h
  ·rename_i way hw
   split at h
   ·simp at h
   ·split at h
    ·simp at h
    ·split at h
     ·simp at h
     ·cases h
      unfold goesS at hw
      split at hw
      ·simp at hw; rw [← hw]; simp
      ·simp at hw
theorem way_last {sl : Slc} {q : Plc} {ns : List ByteArray} {K : Rf → Prop} (hq : toS W ns = .ok q) (hl : q.way.length ≤ 1000) (r : Row h t_api_Ref RF sl q.way) (hK : K q.at_) : ix sl (w64 ((sl.len : Int) - 1)) 2 fun l1 => ld RF l1 h K := by
 have hp := toS_way hq
 have rl := r.len
 obtain ⟨_, _, _, _, hat, _⟩ := toS_ok hq
 have hw2 : w64 ((sl.len : Int) - 1) = ((q.way.length - 1 : Nat) : Int) := by rw [w64_id (by omega) (by omega)]; omega
 rw [hw2]
 refine seg_ix r.seg (x := q.at_) (by omega) ?_ rfl hK
 rw [Int.toNat_natCast, hat]
 exact last_row (by omega)
end
section
variable {h0 h : Heap} {w : Nat} {mv : MbK.Ty} {t0 : Slc} {ss : List Slc} {vv : List (List NdV)} {W : Wk}
theorem sls_ba {s : ByteArray} {lo hi : Nat} {K : ByteArray → Prop} (h1 : lo ≤ hi) (h2 : hi ≤ s.data.toList.length) (hK : K (bx ((s.data.toList.take hi).drop lo))) : sls s (lo : Int) (hi : Int) K := by
 have := sls_bx (l := s.data.toList) (lo := lo) (hi := hi) (K := K) h1 h2 hK
 rw [bx_self] at this
 exact this
theorem find_set {X : Fs} {r : Rf} {x y : Nd} (hx : findN X r = some x) (hn : y.num = x.num) : findN (setN X r y) r = some y := by
 rw [findN_setN (hn.trans (findN_num hx).1), hx]; simp
theorem rw_tail {R : Rs} {K : AnK.Ty → Heap → Prop} {h6 : Heap} {r : Rf} {x y : Nd} {v v' : NdV} {b1 b2 b3 n : Nat} {a : AnK.Ty} {k' : Kd} {z : k'.Ty} (hO : RwOp h0 h w mv t0 ss W R K) (i : IsRw h0 h w mv t0 ss vv W) (k6 : Keep [] h h6) (nv : NV h6 vv W.X r v x)
 (e1 : h6[b1]? = some (vobj 43 AnK a)) (e2 : h6[b2]? = some (vobj 34 RF r)) (e3 : h6[b3]? = some (vobj 83 NdK v)) (g1 : h.size ≤ b1) (g2 : h.size ≤ b2) (g3 : h.size ≤ b3) (hn : n + k'.size ≤ NdK.size) (hw : wrL (NdK.cells v) n (k'.cells z) = NdK.cells v')
 (hE : vEnts v' = vEnts v) (ha : NdAt h6 v' y) (hy : ndMay y = true) (hnum : y.num = x.num) (hkind : y.kind = x.kind) (hR : R = .ok (setN W.X r y, statS (setN W.X r y) r)) :
 Go.Al.st k' ((Pl.mk b3 0).fld n) z h6 fun h7 => ld RF (Pl.mk b2 0) h7 fun x1 => ld NdK (Pl.mk b3 0) h7 fun x2 => ref15_work_set.C (some ⟨w, 0⟩) x1 x2 h7 fun h8 => ld RF (Pl.mk b2 0) h8 fun x3 => ref15_work_stat.C (some ⟨w, 0⟩) x3 h8 fun x4 h9 => Go.Al.st AnK (Pl.mk b1 0) x4 h9 fun h10 => ld AnK (Pl.mk b1 0) h10 fun x5 => K x5 h10 := by
 have i6 := i.keep k6
 have hents := nv.ents i6.s
 have hvE : ∀ q ∈ own (vEnts v'), q ≠ b3 := fun q hq e => by
  rw [hE] at hq
  obtain ⟨⟨L, rr⟩, _⟩ := hents.2
  subst e
  exact row_tag rr e3 (by decide) hq
 refine st_fld (k := NdK) (n := n) (x := v) (x' := v') e3 hn hw ?_
 have e7 := get_set (o' := vobj 83 NdK v') e3
 have k7 : Keep [b3] h6 (h6.setIfInBounds b3 (vobj 83 NdK v')) := keep_set
 generalize h6.setIfInBounds b3 (vobj 83 NdK v') = h7 at e7 k7
 have hne2 : b2 ≠ b3 := fun e => by subst e; rw [e2] at e3; simp only [Option.some.injEq, vobj, Obj.cells.injEq] at e3; exact absurd e3.2.1 (by decide)
 have hne1 : b1 ≠ b3 := fun e => by subst e; rw [e1] at e3; simp only [Option.some.injEq, vobj, Obj.cells.injEq] at e3; exact absurd e3.2.1 (by decide)
 have i7 := i6.keepO e3 (by decide) (i.off g3) (by have := i.w_lt; omega) (by have := i.k.1; omega) k7
 have e27 := k7.get e2 (by simpa using hne2)
 have e17 := k7.get e1 (by simpa using hne1)
 refine ld_go (sm_all e27) (ld_go (sm_all e7) ?_)
 refine rw_set.s (x := x) (y := y) i7 nv.f (ha.keep k7 fun q hq hm => by simp at hm; exact hvE q hq hm) hnum (setN_may i.may nv.f hy hnum hkind)
  (fun q hq => by rw [hE] at hq; exact ⟨(hents.1 q hq).1, by have := (hents.1 q hq).2; have := k7.1; omega⟩) (by
   have := hents.2.keep k7 fun q hq hm => by simp at hm; exact hvE q (by rw [hE]; exact hq) hm
   rw [← hE] at this; exact this) fun h8 vv' i8 n8 => ?_
 have e28 := n8.get e27 (i.off g2)
 have e18 := n8.get e17 (i.off g1)
 refine ld_go (sm_all e28) ?_
 refine rw_stat.s i8 (by show (findN (setN W.X r y) r).isSome = true; rw [find_set nv.f hnum]; rfl) fun h9 k9 => ?_
 exact rw_done hO hR stat_names (i8.keep k9) ((((Nx.of k6).new k7 g3).trans n8).keep k9) (k9.get e18 (by simp)) g1 i.k.1
theorem rw_read.s {K : AnK.Ty → Heap → Prop} (i : IsRw h0 h w mv t0 ss vv W) (hp : splitP W.c.path = some W.w0) (hO : RwOp h0 h w mv t0 ss W (readS W) K) : ref15_work_read.C (some ⟨w, 0⟩) h K := by
 apply ref15_work_read.c
 unfold ref15_work_read.m
 refine new_gen fun b1 h1 hb1 k1 e1 hs1 => ?_
 have e1 : h1[b1]? = some (vobj 43 AnK an0v) := e1
 have i1 := i.keep k1
 have hb1g : h.size ≤ b1 := by omega
 have hsplit : readS W = match fileR W with | .error e => .error e | .ok (r, x) => if W.c.at_ < 0 ∨ W.c.n < 0 ∨ (x.data.size : Int) < W.c.at_ then .error 1700 else .ok (W.X, ⟨0, stat0, bx ((x.data.data.toList.drop W.c.at_.toNat).take W.c.n.toNat), []⟩) := by
  unfold readS fileR
  cases fileS W with
  | error e => rfl
  | ok rx =>
    obtain ⟨r, x⟩ := rx
    dsimp only
    by_cases hr : rdb W r x = false
    ·rw [if_pos hr, if_pos hr]
    ·rw [if_neg hr, if_neg hr]
 have vars : ∀ (h2 : Heap) (r : Rf) (v : NdV) (P : Nat → Nat → Heap → Prop), Keep [] h1 h2 → (∀ b2 b3 h6, Keep [] h2 h6 → h6[b2]? = some (vobj 34 RF r) → h6[b3]? = some (vobj 83 NdK v) → h.size ≤ b2 → h.size ≤ b3 → P b2 b3 h6) →
  new 34 RF (rf 0 0) h2 fun b2 h3 => new 83 NdK nd0 h3 fun b3 h4 => Go.Al.st RF (Pl.mk b2 0) r h4 fun h5 => Go.Al.st NdK (Pl.mk b3 0) v h5 fun h6 => P b2 b3 h6 := by
  intro h2 r v P k2 hP
  refine new_gen fun b2 h3 hb2 k3 e3 hs3 => ?_
  refine new_gen fun b3 h4 hb3 k4 e4 hs4 => ?_
  refine st_to (y := r) (k4.get e3 (by simp)) fun h5 k5 e5 hs5 => ?_
  refine st_to (y := v) (k5.get e4 (by simp; omega)) fun h6 k6 e6 hs6 => ?_
  have := k1.1
  have := k2.1
  exact hP b2 b3 h6 (((k3.new k4 (by simp)).new k5 (by simp; omega)).new k6 (by simp; omega)) (k6.get e5 (by simp; omega)) e6 (by omega) (by omega)
 refine rw_file.s i1 hp (fun e he h2 r v k2 hne => ?_) fun r x he h2 v k2 nv => ?_
 ·have he : fileR W = .error e := he
  rw [he] at hsplit
  refine vars h2 r v _ k2 fun b2 b3 h6 k6 e2 e3 g2 g3 => ?_
  refine jn_in (fun _ _ => False) ?_ (fun _ _ h => h.elim)
  rw [if_pos (by simpa using hne)]
  have k16 : Keep [] h1 h6 := k2.new k6 (by simp)
  exact rw_fail hO hsplit hne (k1.new k16 (by simp)) (k16.get e1 (by simp)) hb1g
 ·have he : fileR W = .ok (r, x) := he
  rw [he] at hsplit
  dsimp only at hsplit
  refine vars h2 r v _ k2 fun b2 b3 h6 k6 e2 e3 g2 g3 => ?_
  have k16 : Keep [] h1 h6 := k2.new k6 (by simp)
  have i6 := i1.keep k16
  have nv6 := nv.keep k6
  have k06 : Keep [] h h6 := k1.new k16 (by simp)
  have f4 : ∀ h', Keep [] h6 h' → sm .s ((Pl.mk b3 0).fld 4) x.data h' := fun h' k => by
   have := (nd_f (sm_all (k.get e3 (by simp)))).2.2.2.2.1
   rw [nv.a.d] at this; exact this
  have hxs := (nd_small (findN_may i.may nv.f)).1
  refine jn_in (fun _ h' => h' = h6 ∧ ¬ (W.c.at_ < 0 ∨ W.c.n < 0 ∨ (x.data.size : Int) < W.c.at_)) ?_ ?_
  ·rw [if_neg (by simp)]
   refine jn_at (decide (W.c.at_ < 0 ∨ W.c.n < 0 ∨ (x.data.size : Int) < W.c.at_), ()) h6 ?_ ?_
   ·refine nck_go (ld_go i6.at_ ?_)
    by_cases c1 : W.c.at_ < 0
    ·rw [if_pos (by simpa using c1), decide_eq_true (.inl c1 : W.c.at_ < 0 ∨ W.c.n < 0 ∨ (x.data.size : Int) < W.c.at_)]; exact ⟨rfl, by first | rfl | trivial⟩
    rw [if_neg (by simpa using c1)]
    refine nck_go (ld_go i6.n ?_)
    by_cases c2 : W.c.n < 0
    ·rw [if_pos (by simpa using c2), decide_eq_true (.inr (.inl c2) : W.c.at_ < 0 ∨ W.c.n < 0 ∨ (x.data.size : Int) < W.c.at_)]; exact ⟨rfl, by first | rfl | trivial⟩
    rw [if_neg (by simpa using c2)]
    refine nck_go (ld_go i6.at_ (ld_go (f4 h6 Keep.rfl) ⟨?_, by first | rfl | trivial⟩))
    congr 1
    rw [Bool.eq_iff_iff]
    show decide (W.c.at_ > (x.data.size : Int)) = true ↔ _
    simp only [decide_eq_true_eq]
    constructor
    ·exact fun h => .inr (.inr h)
    ·intro h; rcases h with h | h | h
     ·exact absurd h c1
     ·exact absurd h c2
     ·exact h
   ·by_cases hc : W.c.at_ < 0 ∨ W.c.n < 0 ∨ (x.data.size : Int) < W.c.at_
    ·rw [if_pos (decide_eq_true hc)]
     rw [if_pos hc] at hsplit
     exact rw_fail hO hsplit (by decide) k06 (k16.get e1 (by simp)) hb1g
    ·rw [if_neg (by simpa using hc)]
     exact ⟨rfl, hc⟩
  ·rintro ⟨⟩ h7 ⟨rfl, hc⟩
   rw [if_neg hc] at hsplit
   refine ld_go (f4 h7 Keep.rfl) (nck_go (ld_go i6.at_ (nck_go (ld_go i6.at_ (nck_go (ld_go i6.n (ld_go (f4 h7 Keep.rfl) (nck_go (ld_go i6.at_ ?_)))))))))
   have e1h : w64 ((x.data.size : Int) - W.c.at_) = (x.data.size : Int) - W.c.at_ := w64_id (by omega) (by omega)
   rw [e1h]
   obtain ⟨a, ha⟩ : ∃ a : Nat, W.c.at_ = a := ⟨W.c.at_.toNat, by omega⟩
   obtain ⟨n, hn⟩ : ∃ n : Nat, W.c.n = n := ⟨W.c.n.toNat, by omega⟩
   have hsz : x.data.size = x.data.data.toList.length := rfl
   have hmn : mn2 W.c.n ((x.data.size : Int) - W.c.at_) = ((min n (x.data.data.toList.length - a) : Nat) : Int) := by
    unfold mn2; rw [ha, hn]; split <;> omega
   rw [hmn]
   have hw2 : w64 (W.c.at_ + ((min n (x.data.data.toList.length - a) : Nat) : Int)) = ((a + min n (x.data.data.toList.length - a) : Nat) : Int) := by rw [ha, w64_id (by omega) (by omega)]; omega
   rw [hw2, ha]
   have hb : x.data = bx x.data.data.toList := bx_self.symm
   rw [ha, hn] at hsplit
   refine sls_ba (by omega) (by omega) ?_
   have hdata : ((x.data.data.toList.take (a + min n (x.data.data.toList.length - a))).drop a) = (x.data.data.toList.drop (a : Int).toNat).take (n : Int).toNat := by
    rw [Int.toNat_natCast, Int.toNat_natCast, List.drop_take]
    have : a + min n (x.data.data.toList.length - a) - a = min n (x.data.data.toList.length - a) := by omega
    rw [this]
    by_cases hle : n ≤ x.data.data.toList.length - a
    ·rw [Nat.min_eq_left hle]
    ·rw [Nat.min_eq_right (by omega), List.take_of_length_le (by simp), List.take_of_length_le (by simp; omega)]
   rw [hdata]
   exact rw_done hO hsplit rfl i6 (Nx.of k06) (k16.get e1 (by simp)) hb1g i.k.1
theorem rw_vars {h1 h2 : Heap} {r : Rf} {v : NdV} {P : Nat → Nat → Heap → Prop} (k1 : Keep [] h h1) (k2 : Keep [] h1 h2) (hP : ∀ b2 b3 h6, Keep [] h2 h6 → h6[b2]? = some (vobj 34 RF r) → h6[b3]? = some (vobj 83 NdK v) → h.size ≤ b2 → h.size ≤ b3 → P b2 b3 h6) :
 new 34 RF (rf 0 0) h2 fun b2 h3 => new 83 NdK nd0 h3 fun b3 h4 => Go.Al.st RF (Pl.mk b2 0) r h4 fun h5 => Go.Al.st NdK (Pl.mk b3 0) v h5 fun h6 => P b2 b3 h6 := by
 refine new_gen fun b2 h3 hb2 k3 e3 hs3 => ?_
 refine new_gen fun b3 h4 hb3 k4 e4 hs4 => ?_
 refine st_to (y := r) (k4.get e3 (by simp)) fun h5 k5 e5 hs5 => ?_
 refine st_to (y := v) (k5.get e4 (by simp; omega)) fun h6 k6 e6 hs6 => ?_
 have := k1.1
 have := k2.1
 exact hP b2 b3 h6 (((k3.new k4 (by simp)).new k5 (by simp; omega)).new k6 (by simp; omega)) (k6.get e5 (by simp; omega)) e6 (by omega) (by omega)
theorem nd_data {x : Nd} {v : NdV} {d : ByteArray} {h : Heap} (a : NdAt h v x) : NdAt h ((v.1, (v.2.1, (v.2.2.1, (v.2.2.2.1, (d, (v.2.2.2.2.2.1, ())))))) : NdV) { x with data := d } := ⟨a.n, a.k, a.m, a.l, rfl, a.e⟩
theorem rw_truncate.s {K : AnK.Ty → Heap → Prop} (i : IsRw h0 h w mv t0 ss vv W) (hp : splitP W.c.path = some W.w0) (hO : RwOp h0 h w mv t0 ss W (truncS W) K) : ref15_work_truncate.C (some ⟨w, 0⟩) h K := by
 apply ref15_work_truncate.c
 unfold ref15_work_truncate.m
 refine new_gen fun b1 h1 hb1 k1 e1 hs1 => ?_
 have e1 : h1[b1]? = some (vobj 43 AnK an0v) := e1
 have i1 := i.keep k1
 have hb1g : h.size ≤ b1 := by omega
 have hsplit : truncS W = match ownS W with | .error e => .error e | .ok (r, x) => if W.c.n < 0 ∨ (x.data.size : Int) < W.c.n then .error 1700 else .ok (setN W.X r { x with data := bx (x.data.data.toList.take W.c.n.toNat) }, statS (setN W.X r { x with data := bx (x.data.data.toList.take W.c.n.toNat) }) r) := rfl
 refine rw_file.s i1 hp (fun e he h2 r v k2 hne => ?_) fun r x he h2 v k2 nv => ?_
 ·have he : ownS W = .error e := he
  rw [he] at hsplit
  refine rw_vars k1 k2 fun b2 b3 h6 k6 e2 e3 g2 g3 => ?_
  refine jn_in (fun _ _ => False) ?_ (fun _ _ h => h.elim)
  rw [if_pos (by simpa using hne)]
  have k16 : Keep [] h1 h6 := k2.new k6 (by simp)
  exact rw_fail hO hsplit hne (k1.new k16 (by simp)) (k16.get e1 (by simp)) hb1g
 ·have he : ownS W = .ok (r, x) := he
  rw [he] at hsplit
  dsimp only at hsplit
  have hkd := (ownS_ok he).2.1
  refine rw_vars k1 k2 fun b2 b3 h6 k6 e2 e3 g2 g3 => ?_
  have k16 : Keep [] h1 h6 := k2.new k6 (by simp)
  have i6 := i1.keep k16
  have nv6 := nv.keep k6
  have k06 : Keep [] h h6 := k1.new k16 (by simp)
  have f4 : ∀ h', Keep [] h6 h' → sm .s ((Pl.mk b3 0).fld 4) x.data h' := fun h' k => by
   have := (nd_f (sm_all (k.get e3 (by simp)))).2.2.2.2.1
   rw [nv.a.d] at this; exact this
  have hxs := (nd_small (findN_may i.may nv.f)).1
  refine jn_in (fun _ h' => h' = h6 ∧ ¬ (W.c.n < 0 ∨ (x.data.size : Int) < W.c.n)) ?_ ?_
  ·rw [if_neg (by simp)]
   refine jn_at (decide (W.c.n < 0 ∨ (x.data.size : Int) < W.c.n), ()) h6 ?_ ?_
   ·refine nck_go (ld_go i6.n ?_)
    by_cases c1 : W.c.n < 0
    ·rw [if_pos (by simpa using c1), decide_eq_true (.inl c1 : W.c.n < 0 ∨ (x.data.size : Int) < W.c.n)]; exact ⟨rfl, by first | rfl | trivial⟩
    rw [if_neg (by simpa using c1)]
    refine nck_go (ld_go i6.n (ld_go (f4 h6 Keep.rfl) ⟨?_, by first | rfl | trivial⟩))
    congr 1
    rw [Bool.eq_iff_iff]
    show decide (W.c.n > (x.data.size : Int)) = true ↔ _
    simp only [decide_eq_true_eq]
    exact ⟨fun h => .inr h, fun h => h.elim (fun h => absurd h c1) id⟩
   ·by_cases hc : W.c.n < 0 ∨ (x.data.size : Int) < W.c.n
    ·rw [if_pos (decide_eq_true hc)]
     rw [if_pos hc] at hsplit
     exact rw_fail hO hsplit (by decide) k06 (k16.get e1 (by simp)) hb1g
    ·rw [if_neg (by simpa using hc)]
     exact ⟨rfl, hc⟩
  ·rintro ⟨⟩ h7 ⟨rfl, hc⟩
   rw [if_neg hc] at hsplit
   obtain ⟨n, hn⟩ : ∃ n : Nat, W.c.n = n := ⟨W.c.n.toNat, by omega⟩
   have hsz : x.data.size = x.data.data.toList.length := rfl
   refine ld_go (f4 h7 Keep.rfl) (nck_go (ld_go i6.n ?_))
   rw [hn] at hsplit
   rw [hn]
   refine sls_ba (lo := 0) (by omega) (by omega) ?_
   rw [List.drop_zero]
   rw [Int.toNat_natCast] at hsplit
   have hdz : (bx (x.data.data.toList.take n)).size ≤ 4096 := by rw [show (bx (x.data.data.toList.take n)).size = (x.data.data.toList.take n).length from ba_size _, List.length_take]; omega
   refine rw_tail (y := { x with data := bx (x.data.data.toList.take n) }) hO i k06 nv6 (k16.get e1 (by simp)) e2 e3 hb1g g2 g3 (v' := ((v.1, (v.2.1, (v.2.2.1, (v.2.2.2.1, (bx (x.data.data.toList.take n), (v.2.2.2.2.2.1, ())))))) : NdV)) (by decide) rfl rfl (nd_data nv6.a) (ndN_data (findN_may i.may nv.f) hkd hdz) rfl rfl hsplit
theorem rw_chmod.s {K : AnK.Ty → Heap → Prop} (i : IsRw h0 h w mv t0 ss vv W) (hp : splitP W.c.path = some W.w0) (hO : RwOp h0 h w mv t0 ss W (chmodS W) K) : ref15_work_chmod.C (some ⟨w, 0⟩) h K := by
 apply ref15_work_chmod.c
 unfold ref15_work_chmod.m
 refine new_gen fun b1 h1 hb1 k1 e1 hs1 => ?_
 have e1 : h1[b1]? = some (vobj 43 AnK an0v) := e1
 have i1 := i.keep k1
 have hb1g : h.size ≤ b1 := by omega
 have z1 := k1.1
 refine nck_go (ld_go i1.path ?_)
 have hsplit : chmodS W = match meant W with | .error e => .error e | .ok (r, x) => if trn W r = false then .error 1705 else if W.c.n ≠ 0 ∧ W.c.n ≠ 1 then .error 1700 else .ok (setN W.X r { x with mode := W.c.n }, statS (setN W.X r { x with mode := W.c.n }) r) := rfl
 refine rw_goes.s i1 hp (fun e he h2 k2 hne => ?_) fun r x he h2 k2 => ?_
 ·rw [he] at hsplit
  refine new_st_gen fun b2 h4 hb2 k4 e4 hs4 => ?_
  rw [if_pos (by simpa using hne)]
  have k14 : Keep [] h1 h4 := k2.new k4 (by simp)
  exact rw_fail hO hsplit hne (k1.new k14 (by simp)) (k14.get e1 (by simp)) hb1g
 ·rw [he] at hsplit
  dsimp only at hsplit
  refine new_st_gen fun b2 h4 hb2 k4 e4 hs4 => ?_
  have e4 : h4[b2]? = some (vobj 34 RF r) := e4
  rw [if_neg (by decide)]
  refine ld_go (sm_all e4) ?_
  have k14 : Keep [] h1 h4 := k2.new k4 (by simp)
  have hx := meant_ok he
  refine rw_node.s (i1.keep k14) (fun hnone => by rw [hx] at hnone; simp at hnone) fun x' v nv h7 k7 => ?_
  have hxx := nv.f
  rw [hx] at hxx
  cases hxx
  refine new_st_gen fun b3 h9 hb3 k9 e9 hs9 => ?_
  have e9 : h9[b3]? = some (vobj 83 NdK v) := e9
  have k49 : Keep [] h4 h9 := k7.new k9 (by simp)
  have k19 : Keep [] h1 h9 := k14.new k49 (by simp)
  have i9 := i1.keep k19
  have e49 := k49.get e4 (by simp)
  have htr : trn W r = mIn W.m W.user r.1 := rfl
  refine jn_in (fun _ h' => Keep [] h9 h' ∧ trn W r = true ∧ ¬ (W.c.n ≠ 0 ∧ W.c.n ≠ 1)) ?_ ?_
  ·refine ld_go (k := .i) (x := r.1) (sm_sub (sm_all e49) (by decide) rfl) ?_
   refine rw_turns.s i9 fun h11 k11 => ?_
   have k111 : Keep [] h1 h11 := k19.new k11 (by simp)
   have k011 : Keep [] h h11 := k1.new k111 (by simp)
   cases ht : mIn W.m W.user r.1 with
   | false =>
     rw [if_pos (by rfl)]
     rw [htr, ht, if_pos rfl] at hsplit
     exact rw_fail hO hsplit (by decide) k011 (k111.get e1 (by simp)) hb1g
   | true =>
     rw [if_neg (by simp)]
     rw [htr, ht, if_neg (by simp)] at hsplit
     have i11 := i9.keep k11
     refine jn_at (decide (W.c.n ≠ 0 ∧ W.c.n ≠ 1), ()) h11 ?_ ?_
     ·refine nck_go (ld_go i11.n ?_)
      by_cases c1 : W.c.n = 0
      ·rw [if_neg (by simpa using c1)]; exact ⟨by rw [decide_eq_false (fun h => h.1 c1)], by first | rfl | trivial⟩
      ·rw [if_pos (by simpa using c1)]
       refine nck_go (ld_go i11.n ⟨?_, by first | rfl | trivial⟩)
       by_cases c2 : W.c.n = 1
       ·rw [decide_eq_true c2, decide_eq_false (fun h => h.2 c2)]; rfl
       ·rw [decide_eq_false c2, decide_eq_true (show W.c.n ≠ 0 ∧ W.c.n ≠ 1 from ⟨c1, c2⟩)]; rfl
     ·by_cases hc : W.c.n ≠ 0 ∧ W.c.n ≠ 1
      ·rw [if_pos (decide_eq_true hc)]
       rw [if_pos hc] at hsplit
       exact rw_fail hO hsplit (by decide) k011 (k111.get e1 (by simp)) hb1g
      ·rw [if_neg (by simpa using hc)]
       exact ⟨k11, by rw [htr, ht], hc⟩
  ·rintro ⟨⟩ h10 ⟨k10, ht, hc⟩
   rw [ht, if_neg (by simp), if_neg hc] at hsplit
   have k110 : Keep [] h1 h10 := k19.new k10 (by simp)
   have k010 : Keep [] h h10 := k1.new k110 (by simp)
   have i10 := i1.keep k110
   have nv10 := (nv.keep k49).keep k10
   refine nck_go (ld_go i10.n ?_)
   have z2 := k2.1
   have z7 := k7.1
   refine rw_tail (k' := .i) (n := 2) (y := { x with mode := W.c.n }) hO i k010 nv10 (k110.get e1 (by simp)) (k10.get e49 (by simp)) (k10.get e9 (by simp)) hb1g (by omega) (by omega) (v' := ((v.1, (v.2.1, (W.c.n, (v.2.2.2.1, (v.2.2.2.2.1, (v.2.2.2.2.2.1, ())))))) : NdV)) (by decide) rfl rfl ⟨nv10.a.n, nv10.a.k, rfl, nv10.a.l, nv10.a.d, nv10.a.e⟩ (ndN_mode (findN_may i.may hx) (by omega)) rfl rfl hsplit
end
section
variable {h0 h : Heap} {w : Nat} {mv : MbK.Ty} {t0 : Slc} {ss : List Slc} {vv : List (List NdV)} {W : Wk}
theorem sadd_ba {x y : ByteArray} {K : ByteArray → Prop} (h : x.data.toList.length + y.data.toList.length ≤ 9223372036854775807) (hK : K (bx (x.data.toList ++ y.data.toList))) : sadd x y K := sadd_go h hK
theorem writeL_len {old new : List UInt8} {a : Nat} (h : a ≤ old.length) : (writeL old new a).length = max old.length (a + new.length) := by
 unfold writeL
 simp only [List.length_append, List.length_take, List.length_drop]
 omega
theorem rw_write.s {K : AnK.Ty → Heap → Prop} (i : IsRw h0 h w mv t0 ss vv W) (hp : splitP W.c.path = some W.w0) (hO : RwOp h0 h w mv t0 ss W (writeS W) K) : ref15_work_write.C (some ⟨w, 0⟩) h K := by
 apply ref15_work_write.c
 unfold ref15_work_write.m
 refine new_gen fun b1 h1 hb1 k1 e1 hs1 => ?_
 have e1 : h1[b1]? = some (vobj 43 AnK an0v) := e1
 have i1 := i.keep k1
 have hb1g : h.size ≤ b1 := by omega
 have hsplit : writeS W = match ownS W with
  | .error e => .error e
  | .ok (r, x) => if W.c.at_ < 0 ∨ (x.data.size : Int) < W.c.at_ then .error 1700 else if 4096 - W.c.at_ < (W.c.data.size : Int) then .error 1706 else
    if 8192 < usedS W.X r.1 - x.data.size + (bx (writeL x.data.data.toList W.c.data.data.toList W.c.at_.toNat)).size then .error 1707 else
     .ok (setN W.X r { x with data := bx (writeL x.data.data.toList W.c.data.data.toList W.c.at_.toNat) }, statS (setN W.X r { x with data := bx (writeL x.data.data.toList W.c.data.data.toList W.c.at_.toNat) }) r) := rfl
 refine rw_file.s i1 hp (fun e he h2 r v k2 hne => ?_) fun r x he h2 v k2 nv => ?_
 ·have he : ownS W = .error e := he
  rw [he] at hsplit
  refine rw_vars k1 k2 fun b2 b3 h6 k6 e2 e3 g2 g3 => ?_
  refine jn_in (fun _ _ => False) ?_ (fun _ _ h => h.elim)
  rw [if_pos (by simpa using hne)]
  have k16 : Keep [] h1 h6 := k2.new k6 (by simp)
  exact rw_fail hO hsplit hne (k1.new k16 (by simp)) (k16.get e1 (by simp)) hb1g
 ·have he : ownS W = .ok (r, x) := he
  rw [he] at hsplit
  dsimp only at hsplit
  have hkd := (ownS_ok he).2.1
  refine rw_vars k1 k2 fun b2 b3 h6 k6 e2 e3 g2 g3 => ?_
  have k16 : Keep [] h1 h6 := k2.new k6 (by simp)
  have i6 := i1.keep k16
  have nv6 := nv.keep k6
  have k06 : Keep [] h h6 := k1.new k16 (by simp)
  have f4 : ∀ h', Keep [] h6 h' → sm .s ((Pl.mk b3 0).fld 4) x.data h' := fun h' k => by
   have := (nd_f (sm_all (k.get e3 (by simp)))).2.2.2.2.1
   rw [nv.a.d] at this; exact this
  have hxs := (nd_small (findN_may i.may nv.f)).1
  have hxz : x.data.size = x.data.data.toList.length := rfl
  have hcz : W.c.data.size = W.c.data.data.toList.length := rfl
  refine jn_in (fun _ h' => h' = h6 ∧ ¬ (W.c.at_ < 0 ∨ (x.data.size : Int) < W.c.at_) ∧ ¬ (4096 - W.c.at_ < (W.c.data.size : Int))) ?_ ?_
  ·rw [if_neg (by simp)]
   refine jn_at (decide (W.c.at_ < 0 ∨ (x.data.size : Int) < W.c.at_), ()) h6 ?_ ?_
   ·refine nck_go (ld_go i6.at_ ?_)
    by_cases c1 : W.c.at_ < 0
    ·rw [if_pos (by simpa using c1), decide_eq_true (.inl c1 : W.c.at_ < 0 ∨ (x.data.size : Int) < W.c.at_)]; exact ⟨rfl, by first | rfl | trivial⟩
    rw [if_neg (by simpa using c1)]
    refine nck_go (ld_go i6.at_ (ld_go (f4 h6 Keep.rfl) ⟨?_, by first | rfl | trivial⟩))
    congr 1
    rw [Bool.eq_iff_iff]
    show decide (W.c.at_ > (x.data.size : Int)) = true ↔ _
    simp only [decide_eq_true_eq]
    exact ⟨fun h => .inr h, fun h => h.elim (fun h => absurd h c1) id⟩
   ·by_cases hc : W.c.at_ < 0 ∨ (x.data.size : Int) < W.c.at_
    ·rw [if_pos (decide_eq_true hc)]
     rw [if_pos hc] at hsplit
     exact rw_fail hO hsplit (by decide) k06 (k16.get e1 (by simp)) hb1g
    ·rw [if_neg (by simpa using hc)]
     rw [if_neg hc] at hsplit
     refine nck_go (ld_go i6.data (nck_go (ld_go i6.at_ ?_)))
     have hw : w64 (4096 - W.c.at_) = 4096 - W.c.at_ := w64_id (by omega) (by omega)
     rw [hw]
     by_cases hc2 : 4096 - W.c.at_ < (W.c.data.size : Int)
     ·rw [if_pos (show decide ((W.c.data.size : Int) > 4096 - W.c.at_) = true from decide_eq_true hc2)]
      rw [if_pos hc2] at hsplit
      exact rw_fail hO hsplit (by decide) k06 (k16.get e1 (by simp)) hb1g
     ·rw [if_neg (show ¬ decide ((W.c.data.size : Int) > 4096 - W.c.at_) = true from fun h => hc2 (of_decide_eq_true h))]
      exact ⟨rfl, hc, hc2⟩
  ·rintro ⟨⟩ h7 ⟨rfl, hc, hc2⟩
   rw [if_neg hc, if_neg hc2] at hsplit
   obtain ⟨a, ha⟩ : ∃ n : Nat, W.c.at_ = n := ⟨W.c.at_.toNat, by omega⟩
   rw [ha, Int.toNat_natCast] at hsplit
   have hal : a ≤ x.data.data.toList.length := by omega
   have hdz : (bx (writeL x.data.data.toList W.c.data.data.toList a)).size = max x.data.data.toList.length (a + W.c.data.data.toList.length) := by rw [show (bx (writeL x.data.data.toList W.c.data.data.toList a)).size = (writeL x.data.data.toList W.c.data.data.toList a).length from ba_size _, writeL_len hal]
   refine nck_go (ld_go i6.at_ (nck_go (ld_go i6.data (ld_go (f4 h7 Keep.rfl) (nck_go (ld_go i6.ts (ld_go (k := .i) (x := r.1) (sm_sub (sm_all e2) (by decide) rfl) ?_)))))))
   refine ref15_Used.s i6.s.w i.small fun h15 k15 => ?_
   have hub := used_bound (X := W.X) (o := r.1) i.small
   have we : w64 (W.c.at_ + (W.c.data.size : Int)) = ((a + W.c.data.data.toList.length : Nat) : Int) := by rw [ha, w64_id (by omega) (by omega)]; omega
   rw [we]
   have wd : w64 (((a + W.c.data.data.toList.length : Nat) : Int) - (x.data.size : Int)) = ((a + W.c.data.data.toList.length : Nat) : Int) - (x.data.size : Int) := w64_id (by omega) (by omega)
   rw [wd]
   have hmx : mx2 0 (((a + W.c.data.data.toList.length : Nat) : Int) - (x.data.size : Int)) = ((bx (writeL x.data.data.toList W.c.data.data.toList a)).size : Int) - (x.data.size : Int) := by
    rw [hdz]; unfold mx2; split <;> omega
   rw [hmx]
   have wu : w64 (usedS W.X r.1 + (((bx (writeL x.data.data.toList W.c.data.data.toList a)).size : Int) - (x.data.size : Int))) = usedS W.X r.1 - x.data.size + (bx (writeL x.data.data.toList W.c.data.data.toList a)).size := by rw [w64_id (by omega) (by omega)]; omega
   rw [wu]
   have k115 : Keep [] h1 h15 := k16.new k15 (by simp)
   have k015 : Keep [] h h15 := k1.new k115 (by simp)
   by_cases hq : 8192 < usedS W.X r.1 - x.data.size + (bx (writeL x.data.data.toList W.c.data.data.toList a)).size
   ·rw [if_pos (show decide (usedS W.X r.1 - x.data.size + (bx (writeL x.data.data.toList W.c.data.data.toList a)).size > (8192 : Int)) = true from decide_eq_true hq)]
    rw [if_pos hq] at hsplit
    exact rw_fail hO hsplit (by decide) k015 (k115.get e1 (by simp)) hb1g
   rw [if_neg (show ¬ decide (usedS W.X r.1 - x.data.size + (bx (writeL x.data.data.toList W.c.data.data.toList a)).size > (8192 : Int)) = true from fun h => hq (of_decide_eq_true h))]
   rw [if_neg hq] at hsplit
   have i15 := i6.keep k15
   refine ld_go (f4 h15 k15) ?_
   refine jn_at (bx (x.data.data.toList.drop (a + W.c.data.data.toList.length)), ()) h15 ?_ ?_
   ·by_cases ht : a + W.c.data.data.toList.length < x.data.data.toList.length
    ·rw [if_pos (show decide (((a + W.c.data.data.toList.length : Nat) : Int) < (x.data.size : Int)) = true from decide_eq_true (by omega))]
     refine ld_go (f4 h15 k15) ?_
     refine sls_ba (hi := x.data.data.toList.length) (by omega) (Nat.le_refl _) ?_
     rw [List.take_length]
     exact ⟨rfl, by first | rfl | trivial⟩
    ·rw [if_neg (show ¬ decide (((a + W.c.data.data.toList.length : Nat) : Int) < (x.data.size : Int)) = true from fun h => by have := of_decide_eq_true h; omega)]
     rw [List.drop_eq_nil_of_le (by omega)]
     exact ⟨rfl, by first | rfl | trivial⟩
   refine ld_go (f4 h15 k15) (nck_go (ld_go i15.at_ ?_))
   rw [ha]
   refine sls_ba (lo := 0) (by omega) hal ?_
   rw [List.drop_zero]
   refine nck_go (ld_go i15.data ?_)
   refine sadd_ba (by rw [bx_data3, List.length_take]; omega) ?_
   rw [bx_data3]
   refine sadd_ba (by rw [bx_data3, bx_data3, List.length_append, List.length_take, List.length_drop]; omega) ?_
   rw [bx_data3, bx_data3]
   have nv15 := nv6.keep k15
   exact rw_tail (k' := .s) (n := 4) (y := { x with data := bx (writeL x.data.data.toList W.c.data.data.toList a) }) hO i k015 nv15 (k115.get e1 (by simp)) (k15.get e2 (by simp)) (k15.get e3 (by simp)) hb1g g2 g3 (v' := ((v.1, (v.2.1, (v.2.2.1, (v.2.2.2.1, (bx (writeL x.data.data.toList W.c.data.data.toList a), (v.2.2.2.2.2.1, ())))))) : NdV)) (by decide) rfl rfl (nd_data nv15.a) (ndN_data (findN_may i.may nv.f) hkd (by rw [hdz]; omega)) rfl rfl hsplit
theorem rw_list.s {K : AnK.Ty → Heap → Prop} (i : IsRw h0 h w mv t0 ss vv W) (hp : splitP W.c.path = some W.w0) (hO : RwOp h0 h w mv t0 ss W (listS W) K) : ref15_work_list.C (some ⟨w, 0⟩) h K := by
 apply ref15_work_list.c
 unfold ref15_work_list.m
 refine new_gen fun b1 h1 hb1 k1 e1 hs1 => ?_
 have e1 : h1[b1]? = some (vobj 43 AnK an0v) := e1
 have i1 := i.keep k1
 have hb1g : h.size ≤ b1 := by omega
 have z1 := k1.1
 refine nck_go (ld_go i1.path ?_)
 have hsplit : listS W = match meant W with | .error e => .error e | .ok (r, x) => if x.kind ≠ 1 then .error 1704 else if rdb W r x = false then .error 1705 else .ok (W.X, ⟨0, stat0, ⟨#[]⟩, x.ents.map (·.1)⟩) := rfl
 refine rw_goes.s i1 hp (fun e he h2 k2 hne => ?_) fun r x he h2 k2 => ?_
 ·rw [he] at hsplit
  refine new_st_gen fun b2 h4 hb2 k4 e4 hs4 => ?_
  rw [if_pos (by simpa using hne)]
  have k14 : Keep [] h1 h4 := k2.new k4 (by simp)
  exact rw_fail hO hsplit hne (k1.new k14 (by simp)) (k14.get e1 (by simp)) hb1g
 ·rw [he] at hsplit
  dsimp only at hsplit
  refine new_st_gen fun b2 h4 hb2 k4 e4 hs4 => ?_
  have e4 : h4[b2]? = some (vobj 34 RF r) := e4
  rw [if_neg (by decide)]
  refine ld_go (sm_all e4) ?_
  have k14 : Keep [] h1 h4 := k2.new k4 (by simp)
  have hx := meant_ok he
  refine rw_node.s (i1.keep k14) (fun hnone => by rw [hx] at hnone; simp at hnone) fun x' v nv h7 k7 => ?_
  have hxx := nv.f
  rw [hx] at hxx
  cases hxx
  refine new_st_gen fun b3 h9 hb3 k9 e9 hs9 => ?_
  have e9 : h9[b3]? = some (vobj 83 NdK v) := e9
  have k49 : Keep [] h4 h9 := k7.new k9 (by simp)
  have k19 : Keep [] h1 h9 := k14.new k49 (by simp)
  have k09 : Keep [] h h9 := k1.new k19 (by simp)
  have i9 := i1.keep k19
  have nv9 := nv.keep k49
  have f1 := (nd_f (sm_all e9)).2.1
  rw [nv.a.k] at f1
  refine ld_go f1 ?_
  by_cases hk : x.kind = 1
  case neg =>
   rw [if_pos (by simpa using hk)]
   rw [if_pos hk] at hsplit
   exact rw_fail hO hsplit (by decide) k09 (k19.get e1 (by simp)) hb1g
  rw [if_neg (by simpa using hk)]
  rw [if_neg (by simpa using hk)] at hsplit
  refine ld_go (sm_all (k49.get e4 (by simp))) (ld_go (sm_all e9) ?_)
  refine rw_reads.s i9 nv9.a fun h12 k12 => ?_
  have k112 : Keep [] h1 h12 := k19.new k12 (by simp)
  have k012 : Keep [] h h12 := k1.new k112 (by simp)
  cases hr : rdb W r x with
  | false =>
    rw [if_pos (by rfl)]
    rw [hr, if_pos rfl] at hsplit
    exact rw_fail hO hsplit (by decide) k012 (k112.get e1 (by simp)) hb1g
  | true =>
    rw [if_neg (by simp)]
    rw [hr, if_neg (by simp)] at hsplit
    have f5 : ∀ h', Keep [] h12 h' → sm .sl ((Pl.mk b3 0).fld 5) (vEnts v) h' := fun h' k => (nd_f (sm_all (k.get (k12.get e9 (by simp)) (by simp)))).2.2.2.2.2
    have hsm := (nd_small (findN_may i.may hx)).2.1
    have nv12 := nv9.keep k12
    have el := nv12.a.e.len
    refine lp_go (fun (y : Slc × Int × Unit) (h15 : Heap) => ∃ n : Nat, y.2.1 = n ∧ n ≤ x.ents.length ∧ Keep [] h12 h15 ∧ Row h15 t_string .s y.1 ((x.ents.take n).map (·.1)) ∧ ∀ q ∈ own y.1, h12.size ≤ q) (fun (y : Slc × Int × Unit) _ => x.ents.length - y.2.1.toNat) ?_ ?_
    ·exact ⟨0, rfl, by omega, Keep.rfl, Row.nil, by simp [own]⟩
    ·rintro ⟨(sl : Slc), (iv : Int), _⟩ h15 ⟨n, e, hn, k15, r15, o15⟩
     dsimp only at e r15 o15 ⊢
     subst e
     have rl15 := r15.len
     rw [List.length_map, List.length_take] at rl15
     refine ld_go (f5 h15 k15) ?_
     by_cases hlt : n < x.ents.length
     ·rw [if_pos (show decide ((n : Int) < ((vEnts v).len : Int)) = true from decide_eq_true (by omega))]
      have hw : w64 ((n : Int) + 1) = ((n + 1 : Nat) : Int) := by rw [w64_id (by omega) (by omega)]; omega
      rw [hw]
      refine ld_go (f5 h15 k15) ?_
      refine seg_ixl (nv12.a.e.keep (by decide) k15) (x := x.ents[n]) (by omega) (by simp [hlt]) rfl fun l hl => ?_
      refine ld_go (k := .s) (x := (x.ents[n]).1) (sm_sub hl (by decide) rfl) ?_
      refine app2 r15 rfl (by rw [List.length_map, List.length_take]; omega) fun s' h17 k17 r17 o17 => ?_
      refine ⟨⟨n + 1, rfl, by omega, k15.new k17 o15, ?_, fun q hq => ?_⟩, by simp; omega⟩
      ·rw [take_succ' hlt, List.map_append]; exact r17
      ·rcases o17 q hq with e | e
       ·exact o15 q e
       ·have := k15.1; omega
     ·rw [if_neg (show ¬ decide ((n : Int) < ((vEnts v).len : Int)) = true from fun h => by have := of_decide_eq_true h; omega)]
      obtain rfl : n = x.ents.length := by omega
      rw [List.take_length] at r15
      have k115 : Keep [] h1 h15 := k112.new k15 (by simp)
      have k015 : Keep [] h h15 := k1.new k115 (by simp)
      have e115 := k115.get e1 (by simp)
      refine st_to (y := anv ⟨0, stat0, ⟨#[]⟩, x.ents.map (·.1)⟩ sl) e115 fun h18 k18 e18 hs18 => ?_
      refine ld_go (sm_all e18) ?_
      have z12 := k012.1
      have z112 := k112.1
      refine hO.2 _ _ hsplit h18 ss vv sl ((i.keep k015).keepV e115 (by decide) (by decide) (by decide) (by decide) (by have := i.k.1; omega) k18) ((Nx.of k015).new k18 hb1g) ?_ fun q hq => by have := o15 q hq; omega
      exact r15.seg.keep' k18 fun q hq hm => by have := o15 q hq; simp at hm; omega
theorem rw_look.s {K : AnK.Ty → Heap → Prop} {h1 : Heap} {b1 : Nat} (i : IsRw h0 h w mv t0 ss vv W) (k1 : Keep [] h h1) (e1 : h1[b1]? = some (vobj 43 AnK an0v)) (hb1 : h.size ≤ b1) (hp : splitP W.c.path = some W.w0) (hO : RwOp h0 h w mv t0 ss W (lookS W) K) :
 ref15_work_goes.C (some ⟨w, 0⟩) W.c.path h1 fun x25 x26 h24 => new 34 RF (rf 0 0) h24 fun b2 h25 => Go.Al.st RF (Pl.mk b2 0) x25 h25 fun h26 =>
  if (!(decide (x26 = (0 : Int)))) = true then (ref15_code.C x26 h26 fun x27 h27 => Go.Al.st AnK (Pl.mk b1 0) x27 h27 fun h28 => ld AnK (Pl.mk b1 0) h28 fun x28 => K x28 h28)
  else ld RF (Pl.mk b2 0) h26 fun x29 => ref15_work_stat.C (some ⟨w, 0⟩) x29 h26 fun x30 h29 => Go.Al.st AnK (Pl.mk b1 0) x30 h29 fun h30 => ld AnK (Pl.mk b1 0) h30 fun x31 => K x31 h30 := by
 have i1 := i.keep k1
 have hsplit : lookS W = match meant W with | .error e => .error e | .ok (r, x) => .ok (W.X, statS W.X r) := rfl
 refine rw_goes.s i1 hp (fun e he h2 k2 hne => ?_) fun r x he h2 k2 => ?_
 ·rw [he] at hsplit
  refine new_st_gen fun b2 h4 hb2 k4 e4 hs4 => ?_
  rw [if_pos (by simpa using hne)]
  have k14 : Keep [] h1 h4 := k2.new k4 (by simp)
  exact rw_fail hO hsplit hne (k1.new k14 (by simp)) (k14.get e1 (by simp)) hb1
 ·rw [he] at hsplit
  dsimp only at hsplit
  refine new_st_gen fun b2 h4 hb2 k4 e4 hs4 => ?_
  have e4 : h4[b2]? = some (vobj 34 RF r) := e4
  rw [if_neg (by decide)]
  refine ld_go (sm_all e4) ?_
  have k14 : Keep [] h1 h4 := k2.new k4 (by simp)
  refine rw_stat.s (i1.keep k14) (by rw [meant_ok he]; rfl) fun h9 k9 => ?_
  have k19 : Keep [] h1 h9 := k14.new k9 (by simp)
  exact rw_done hO hsplit stat_names (i1.keep k19) (Nx.of (k1.new k19 (by simp))) (k19.get e1 (by simp)) hb1 i.k.1
end
theorem rfk_beq {a b : Rf} : Kd.beq RF a b = true ↔ a = b := by
 obtain ⟨(a1 : Int), (a2 : Int), ⟨⟩⟩ := a
 obtain ⟨(b1 : Int), (b2 : Int), ⟨⟩⟩ := b
 simp [Kd.beq]
section
variable {h0 h : Heap} {w : Nat} {mv : MbK.Ty} {t0 : Slc} {ss : List Slc} {vv : List (List NdV)} {W : Wk}
theorem entry_eq {q : Plc} {x : Nd} (h1 : toS W W.w0 = .ok q) (h2 : findN W.X q.at_ = some x) : entryS W = match findE x.ents q.name with | none => .error 1701 | some e => if (findN W.X e.2.1).isNone then .error 1701 else .ok (q, e.2.1) := by
 unfold entryS thereS entsOf
 rw [h1]
 dsimp only
 rw [h2]
 dsimp only
 cases findE x.ents q.name <;> rfl
theorem rw_entry.s {K : Slc → ByteArray → Rf → Int → Heap → Prop} (i : IsRw h0 h w mv t0 ss vv W) (hp : splitP W.c.path = some W.w0)
 (hE : ∀ e, entryS W = .error e → ∀ h', Keep [] h h' → e ≠ 0 → K ⟨none, 0, 0⟩ ⟨#[]⟩ (rf 0 0) e h')
 (hO : ∀ q r, entryS W = .ok (q, r) → ∀ h' sl, Keep [] h h' → Row h' t_api_Ref RF sl q.way → (∀ p ∈ own sl, h.size ≤ p) → K sl q.name r 0 h') : ref15_work_entry.C (some ⟨w, 0⟩) W.c.path h K := by
 apply ref15_work_entry.c
 unfold ref15_work_entry.m
 refine new_gen fun b1 h1 hb1 k1 e1 hs1 => ?_
 have e1 : h1[b1]? = some (vobj 34 RF (rf 0 0)) := e1
 have i1 := i.keep k1
 have z1 := k1.1
 have hl8 := splitP_len hp
 refine rw_place.s i1 hp (fun e he h2 k2 hne => ?_) fun q hq h2 sl k2 r2 o2 => ?_
 ·rw [if_pos (by simpa using hne)]
  refine st_to (y := rf 0 0) (k2.get e1 (by simp)) fun h3 k3 e3 hs3 => ?_
  refine ld_go (sm_all e3) ?_
  refine hE e ?_ h3 ((k1.new k2 (by simp)).new k3 (by simp; omega)) hne
  unfold entryS; rw [he]
 ·rw [if_neg (by decide)]
  have i2 := i1.keep k2
  obtain ⟨nm, _, hgo, _, _, x, hx, hxk, _⟩ := toS_ok hq
  have hwl : q.way.length ≤ 1000 := by have := (goesS_last (W := W) i.root hgo).2; simp at this; omega
  have hen := entry_eq hq hx
  refine way_last hq hwl r2 ?_
  refine rw_node.s i2 (fun hnone => by rw [hx] at hnone; simp at hnone) fun x' v nv h4 k4 => ?_
  have hxx := nv.f
  rw [hx] at hxx
  cases hxx
  refine new_st_gen fun b2 h6 hb2 k6 e6 hs6 => ?_
  have e6 : h6[b2]? = some (vobj 83 NdK v) := e6
  have k26 : Keep [] h2 h6 := k4.new k6 (by simp)
  have nv6 := nv.keep k26
  have hsm := (nd_small (findN_may i.may hx)).2.1
  refine ld_go (nd_f (sm_all e6)).2.2.2.2.2 ?_
  refine ref7_Find.s nv6.a.e (by omega) fun h7 k7 => ?_
  refine new_st_gen fun b3 h9 hb3 k9 e9 hs9 => ?_
  have e9 : h9[b3]? = some (vobj 34 RF (refOf (findE x.ents q.name))) := e9
  refine ld_go (sm_all e9) ?_
  have k29 : Keep [] h2 h9 := (k26.new k7 (by simp)).new k9 (by simp)
  have i9 := i2.keep k29
  have z2 := k2.1
  have z29 := k29.1
  -- how it ends
  have bad : ∀ hh, Keep [] h9 hh → (entryS W = .error 1701) → Go.Al.st RF (Pl.mk b1 0) (rf 0 0) hh fun h14 => ld RF (Pl.mk b1 0) h14 fun x14 => K ⟨none, 0, 0⟩ ⟨#[]⟩ x14 1701 h14 := by
   intro hh k he
   have k1h : Keep [] h1 hh := (k2.new k29 (by simp)).new k (by simp)
   refine st_to (y := rf 0 0) (k1h.get e1 (by simp)) fun h14 k14 e14 hs14 => ?_
   exact ld_go (sm_all e14) (hE 1701 he h14 ((k1.new k1h (by simp)).new k14 (by simp; omega)) (by decide))
  have tail : ∀ (is there : Bool) (vn : NdV) (h10 : Heap), Keep [] h9 h10 → (is = (findE x.ents q.name).isSome) → ((is = true ∧ there = true) → ∃ e, findE x.ents q.name = some e ∧ (findN W.X e.2.1).isSome = true) → (¬ (is = true ∧ there = true) → entryS W = .error 1701) →
   new 83 NdK nd0 h10 fun b4 h11 => Go.Al.st NdK (Pl.mk b4 0) vn h11 fun h12 => jn (.pr .b .un) (fun J1 => if (!is) = true then J1 (true, ()) h12 else J1 (!there, ()) h12) fun y1 h13 =>
    if y1.1 = true then (Go.Al.st RF (Pl.mk b1 0) (rf 0 0) h13 fun h14 => ld RF (Pl.mk b1 0) h14 fun x14 => K ⟨none, 0, 0⟩ ⟨#[]⟩ x14 1701 h14)
    else ld RF (Pl.mk b3 0) h13 fun x15 => Go.Al.st RF (Pl.mk b1 0) x15 h13 fun h15 => ld RF (Pl.mk b1 0) h15 fun x16 => K sl q.name x16 0 h15 := by
   intro is there vn h10 k10 his hy hn
   refine new_st_gen fun b4 h12 hb4 k12 e12 hs12 => ?_
   have k912 : Keep [] h9 h12 := k10.new k12 (by simp)
   refine jn_at (!(is && there), ()) h12 ?_ ?_
   ·cases is with
    | false => rw [if_pos (by rfl)]; exact ⟨rfl, by first | rfl | trivial⟩
    | true => rw [if_neg (by simp)]; exact ⟨by simp, by first | rfl | trivial⟩
   cases hb : (is && there) with
   | false =>
     rw [if_pos (by rfl)]
     exact bad h12 k912 (hn fun h => by rw [h.1, h.2] at hb; simp at hb)
   | true =>
     rw [if_neg (by simp)]
     simp only [Bool.and_eq_true] at hb
     obtain ⟨e, he, hsome⟩ := hy hb
     rw [he] at e9 hen
     dsimp only at hen
     rw [if_neg (by cases hf : findN W.X e.2.1 with | none => rw [hf] at hsome; simp at hsome | some _ => simp)] at hen
     have e9 : h9[b3]? = some (vobj 34 RF e.2.1) := e9
     have k1h : Keep [] h1 h12 := (k2.new k29 (by simp)).new k912 (by simp)
     refine ld_go (sm_all (k912.get e9 (by simp))) ?_
     refine st_to (y := e.2.1) (k1h.get e1 (by simp)) fun h15 k15 e15 hs15 => ?_
     refine ld_go (sm_all e15) ?_
     have k2h : Keep [] h2 h12 := k29.new k912 (by simp)
     exact hO q e.2.1 hen h15 sl ((k1.new k1h (by simp)).new k15 (by simp; omega)) ((r2.keep k2h (by simp)).keep k15 fun p hp hm => by have := o2 p hp; simp at hm; omega) fun p hp => by have := o2 p hp; omega
  refine rw_node.s i9 (fun hnone h10 k10 => ?_) fun x2 v2 nv2 h10 k10 => ?_
  ·refine tail _ false nd0 h10 k10 rfl (fun h => by simp at h) fun _ => ?_
   cases hf : findE x.ents q.name with
   | none => rw [hf] at hen; exact hen
   | some e =>
     rw [hf] at hen hnone
     have hnone : findN W.X e.2.1 = none := hnone
     dsimp only at hen
     rw [hnone, if_pos (by rfl)] at hen
     exact hen
  ·refine tail _ true v2 h10 k10 rfl (fun h => ?_) fun h => ?_
   ·have nf := nv2.f
    cases hf : findE x.ents q.name with
    | none => rw [hf] at h; simp at h
    | some e =>
      rw [hf] at nf
      have nf : findN W.X e.2.1 = some x2 := nf
      exact ⟨e, rfl, by rw [nf]; rfl⟩
   ·cases hf : findE x.ents q.name with
    | none => rw [hf] at hen; exact hen
    | some e => rw [hf] at h; simp at h
theorem rw_remove.s {dir : Bool} {K : AnK.Ty → Heap → Prop} (i : IsRw h0 h w mv t0 ss vv W) (hp : splitP W.c.path = some W.w0) (hop : W.c.op = if dir then 7 else 6) (hO : RwOp h0 h w mv t0 ss W (removeS W) K) : ref15_work_remove.C (some ⟨w, 0⟩) dir h K := by
 apply ref15_work_remove.c
 unfold ref15_work_remove.m
 refine new_gen fun b1 h1 hb1 k1 e1 hs1 => ?_
 have e1 : h1[b1]? = some (vobj 43 AnK an0v) := e1
 have i1 := i.keep k1
 have hb1g : h.size ≤ b1 := by omega
 have z1 := k1.1
 have hl8 := splitP_len hp
 refine nck_go (ld_go i1.path ?_)
 refine rw_entry.s i1 hp (fun e he h2 k2 hne => ?_) fun q r he h2 sl k2 r2 o2 => ?_
 ·have hsplit : removeS W = .error e := by unfold removeS; rw [he]
  refine new_st_gen fun b2 h4 hb2 k4 e4 hs4 => ?_
  rw [if_pos (by simpa using hne)]
  have k14 : Keep [] h1 h4 := k2.new k4 (by simp)
  exact rw_fail hO hsplit hne (k1.new k14 (by simp)) (k14.get e1 (by simp)) hb1g
 ·obtain ⟨hq, hth, hsome⟩ := entryS_ok he
  obtain ⟨x, hx⟩ := Option.isSome_iff_exists.1 hsome
  obtain ⟨nm, _, hgo, _, _, dx, hdx, hdk, hdt⟩ := toS_ok hq
  have hwl : q.way.length ≤ 1000 := by have := (goesS_last (W := W) i.root hgo).2; simp at this; omega
  have hsplit : removeS W = if W.c.op = 6 ∧ x.kind = 1 then .error 1703 else if W.c.op ≠ 6 ∧ x.kind ≠ 1 then .error 1704 else if trn W r = false ∨ (W.c.op ≠ 6 ∧ r = rootR) then .error 1705 else if x.ents ≠ [] then .error 1708 else .ok (lessS (dropS W.X q) r, an0) := by
   unfold removeS; rw [he]; dsimp only; rw [hx]
  refine new_st_gen fun b2 h4 hb2 k4 e4 hs4 => ?_
  have e4 : h4[b2]? = some (vobj 34 RF r) := e4
  rw [if_neg (by decide)]
  refine ld_go (sm_all e4) ?_
  have k14 : Keep [] h1 h4 := k2.new k4 (by simp)
  refine rw_node.s (i1.keep k14) (fun hnone => by rw [hx] at hnone; simp at hnone) fun x' v nv h7 k7 => ?_
  have hxx := nv.f
  rw [hx] at hxx
  cases hxx
  refine new_st_gen fun b3 h9 hb3 k9 e9 hs9 => ?_
  have e9 : h9[b3]? = some (vobj 83 NdK v) := e9
  have k49 : Keep [] h4 h9 := k7.new k9 (by simp)
  have k19 : Keep [] h1 h9 := k14.new k49 (by simp)
  have nv9 := nv.keep k49
  have f1 : ∀ h', Keep [] h9 h' → sm .i ((Pl.mk b3 0).fld 1) x.kind h' := fun h' k => by
   have := (nd_f (sm_all (k.get e9 (by simp)))).2.1
   rw [nv.a.k] at this; exact this
  have f5 : ∀ h', Keep [] h9 h' → sm .sl ((Pl.mk b3 0).fld 5) (vEnts v) h' := fun h' k => (nd_f (sm_all (k.get e9 (by simp)))).2.2.2.2.2
  have fr : ∀ h', Keep [] h9 h' → sm RF (Pl.mk b2 0) r h' := fun h' k => sm_all (k.get (k49.get e4 (by simp)) (by simp))
  have fo : ∀ h', Keep [] h9 h' → sm .i ((Pl.mk b2 0).fld 0) r.1 h' := fun h' k => sm_sub (fr h' k) (by decide) rfl
  have el := nv9.a.e.len
  have hop6 : W.c.op = 6 ↔ dir = false := by cases dir <;> simp [hop]
  have fail : ∀ e hh, Keep [] h9 hh → removeS W = .error e → e ≠ 0 → ref15_code.C e hh fun x5 h3 => Go.Al.st AnK (Pl.mk b1 0) x5 h3 fun h4 => ld AnK (Pl.mk b1 0) h4 fun x6 => K x6 h4 := fun e hh k hR hne =>
   rw_fail hO hR hne ((k1.new k19 (by simp)).new k (by simp)) ((k19.new k (by simp)).get e1 (by simp)) hb1g
  refine jn_in (fun _ h' => Keep [] h9 h' ∧ ¬ (W.c.op = 6 ∧ x.kind = 1) ∧ ¬ (W.c.op ≠ 6 ∧ x.kind ≠ 1) ∧ ¬ (trn W r = false ∨ (W.c.op ≠ 6 ∧ r = rootR)) ∧ x.ents = []) ?_ ?_
  ·refine jn_at (decide (W.c.op = 6 ∧ x.kind = 1), ()) h9 ?_ ?_
   ·cases dir with
    | false =>
      rw [if_pos (by rfl)]
      refine ld_go (f1 h9 Keep.rfl) ⟨?_, by first | rfl | trivial⟩
      congr 1
      rw [Bool.eq_iff_iff]
      simp [hop6]
    | true => rw [if_neg (by simp)]; exact ⟨by rw [decide_eq_false (fun h => by simp [hop6] at h)], by first | rfl | trivial⟩
   by_cases c1 : W.c.op = 6 ∧ x.kind = 1
   ·rw [if_pos (decide_eq_true c1)]
    rw [if_pos c1] at hsplit
    exact fail _ h9 Keep.rfl hsplit (by decide)
   rw [if_neg (by simpa using c1)]
   rw [if_neg c1] at hsplit
   refine jn_at (decide (W.c.op ≠ 6 ∧ x.kind ≠ 1), ()) h9 ?_ ?_
   ·cases dir with
    | true =>
      rw [if_pos (by rfl)]
      refine ld_go (f1 h9 Keep.rfl) ⟨?_, by first | rfl | trivial⟩
      congr 1
      rw [Bool.eq_iff_iff]
      simp [hop6]
    | false => rw [if_neg (by simp)]; exact ⟨by rw [decide_eq_false (fun h => by simp [hop6] at h)], by first | rfl | trivial⟩
   by_cases c2 : W.c.op ≠ 6 ∧ x.kind ≠ 1
   ·rw [if_pos (decide_eq_true c2)]
    rw [if_pos c2] at hsplit
    exact fail _ h9 Keep.rfl hsplit (by decide)
   rw [if_neg (by simpa using c2)]
   rw [if_neg c2] at hsplit
   have htr : trn W r = mIn W.m W.user r.1 := rfl
   refine jn_in (fun y h' => Keep [] h9 h' ∧ y.1 = decide (trn W r = false ∨ (W.c.op ≠ 6 ∧ r = rootR))) ?_ ?_
   ·cases dir with
    | true =>
      rw [if_pos rfl]
      refine ld_go (fr h9 Keep.rfl) ?_
      apply ref15_root.c
      unfold ref15_root.m
      refine new_gen fun b5 h17 hb5 k17 e17 hs17 => ?_
      refine st_to (y := rootR) e17 fun h18 k18 e18 hs18 => ?_
      refine ld_go (sm_all e18) ?_
      have k918 : Keep [] h9 h18 := k17.new k18 (by simp; omega)
      refine ⟨fr h18 k918, ?_⟩
      by_cases hr : r = rootR
      ·rw [if_pos (rfk_beq.2 hr)]
       exact ⟨k918, by rw [decide_eq_true (.inr ⟨by rw [hop]; decide, hr⟩ : trn W r = false ∨ (W.c.op ≠ 6 ∧ r = rootR))]⟩
      ·rw [if_neg (fun h => hr (rfk_beq.1 h))]
       refine ld_go (fo h18 k918) ?_
       refine rw_turns.s (i1.keep (k19.new k918 (by simp))) fun h19 k19' => ?_
       refine ⟨k918.new k19' (by simp), ?_⟩
       show (!mIn W.m W.user r.1) = _
       rw [← htr]
       cases trn W r <;> simp [hr]
    | false =>
      rw [if_neg (by simp)]
      refine ld_go (fo h9 Keep.rfl) ?_
      refine rw_turns.s (i1.keep k19) fun h20 k20 => ?_
      refine ⟨k20, ?_⟩
      show (!mIn W.m W.user r.1) = _
      rw [← htr]
      have : W.c.op = 6 := hop6.2 rfl
      cases trn W r <;> simp [this]
   ·rintro ⟨(y : Bool), _⟩ h17 ⟨k17, ey⟩
    dsimp only at ey ⊢
    rw [ey]
    by_cases c3 : trn W r = false ∨ (W.c.op ≠ 6 ∧ r = rootR)
    ·rw [if_pos (decide_eq_true c3)]
     rw [if_pos c3] at hsplit
     exact fail _ h17 k17 hsplit (by decide)
    rw [if_neg (by simpa using c3)]
    rw [if_neg c3] at hsplit
    have hfile : dir = false → x.ents = [] := fun hd => by
     have hm := findN_may i.may hx
     unfold ndMay at hm
     have hk : ¬ x.kind = 1 := fun hk => c1 ⟨hop6.2 hd, hk⟩
     rw [if_neg hk] at hm
     simp only [Bool.and_eq_true, decide_eq_true_eq] at hm
     exact hm.2.2
    refine jn_at (decide (x.ents ≠ []), ()) h17 ?_ ?_
    ·cases hd : dir with
     | true =>
       rw [if_pos rfl]
       refine ld_go (f5 h17 k17) ⟨?_, by first | rfl | trivial⟩
       congr 1
       rw [Bool.eq_iff_iff, el]
       cases x.ents with
       | nil => simp
       | cons => first | (simp; done) | (simp; omega)
     | false => rw [if_neg (by simp)]; exact ⟨by rw [hfile hd]; simp, by first | rfl | trivial⟩
    by_cases c4 : x.ents ≠ []
    ·rw [if_pos (decide_eq_true c4)]
     rw [if_pos c4] at hsplit
     exact fail _ h17 k17 hsplit (by decide)
    ·rw [if_neg (by simpa using c4)]
     exact ⟨k17, c1, c2, c3, by simpa using c4⟩
  ·rintro ⟨⟩ h10 ⟨k10, c1, c2, c3, c4⟩
   rw [if_neg c1, if_neg c2, if_neg c3, if_neg (by simp [c4])] at hsplit
   have k110 : Keep [] h1 h10 := k19.new k10 (by simp)
   have k210 : Keep [] h2 h10 := (k4.new k49 (by simp)).new k10 (by simp)
   have i10 := i1.keep k110
   refine way_last hq hwl (r2.keep k210 (by simp)) ?_
   have htr : mIn W.m W.user r.1 = true := by
    have := fun e => c3 (.inl e)
    simpa [trn] using this
   have hroot : r ≠ rootR := fun e => by
    by_cases ho : W.c.op = 6
    ·obtain ⟨_, _, _, z, hz, hzk⟩ := st_ok i.may
     rw [e, hz] at hx
     cases hx
     exact c1 ⟨ho, hzk⟩
    ·exact c3 (.inr ⟨ho, e⟩)
   have o1 := okd_drop (m := W.m) (u := W.user) i.may hdt hdx hdk
   refine rw_leave.s i10 hdx o1.may fun h26 vv' i26 n26 => ?_
   have hb2g : h.size ≤ b2 := by have := k2.1; omega
   have e426 := n26.get (k10.get (k49.get e4 (by simp)) (by simp)) (i.off hb2g)
   refine ld_go (sm_all e426) ?_
   obtain ⟨y, hy, _, _⟩ := drop_find (w := W) (p := q) hx
   have o2' := okd_less (m := W.m) (u := W.user) o1.may htr hroot
   refine rw_loose.s i26 hy o2'.may fun h27 ss' vv'' i27 n27 => ?_
   have e126 := n26.get (k110.get e1 (by simp)) (i.off hb1g)
   have e127 := n27.get e126 (i.off hb1g)
   exact rw_done hO hsplit rfl i27 (((Nx.of (k1.new k110 (by simp))).trans n26).trans n27) e127 hb1g i.k.1
end
section
variable {h0 h : Heap} {w : Nat} {mv : MbK.Ty} {t0 : Slc} {ss : List Slc} {vv : List (List NdV)} {W : Wk}
theorem setT_in {X : Fs} {o : Int} {t : Tab} (h : 0 ≤ o ∧ o < X.length) : setT X o t = X.set o.toNat t := by unfold setT; rw [if_pos h]
theorem setT_out {X : Fs} {o : Int} {t : Tab} (h : ¬ (0 ≤ o ∧ o < X.length)) : setT X o t = X := by unfold setT; rw [if_neg h]
theorem setT_comm {X : Fs} {o p : Int} {s t : Tab} (h : o ≠ p) : setT (setT X o s) p t = setT (setT X p t) o s := by
 by_cases h1 : 0 ≤ o ∧ o < X.length <;> by_cases h2 : 0 ≤ p ∧ p < X.length
 ·rw [setT_in h1, setT_in h2, setT_in (by simpa using h2), setT_in (by simpa using h1), List.set_comm _ _ (by omega)]
 ·rw [setT_out h2, setT_out (by rw [setT_len]; exact h2)]
 ·rw [setT_out (o := o) (t := s) h1, setT_out (X := setT X p t) (o := o) (by rw [setT_len]; exact h1)]
 ·rw [setT_out (o := o) (t := s) h1, setT_out h2, setT_out h1]
theorem setT_set {X : Fs} {o : Int} {s t : Tab} : setT (setT X o s) o t = setT X o t := by
 by_cases h1 : 0 ≤ o ∧ o < X.length
 ·rw [setT_in h1, setT_in (by simpa using h1), setT_in h1, List.set_set]
 ·rw [setT_out (t := s) h1]
theorem setN_comm {X : Fs} {a b : Rf} {y z : Nd} (h : a.1 ≠ b.1 ∨ a.2.1 ≠ b.2.1) (hy : y.num = a.2.1) (hz : z.num = b.2.1) : setN (setN X a y) b z = setN (setN X b z) a y := by
 by_cases ho : a.1 = b.1
 ·have hn : a.2.1 ≠ b.2.1 := h.resolve_left (fun e => e ho)
  have n1 : ¬ y.num = b.2.1 := by rw [hy]; exact hn
  have n2 : ¬ z.num = a.2.1 := by rw [hz]; exact fun e => hn e.symm
  unfold setN
  rw [ho]
  by_cases h1 : 0 ≤ b.1 ∧ b.1 < X.length
  ·rw [setT_set, setT_set, setT_of, if_pos ⟨rfl, h1⟩, setT_of, if_pos ⟨rfl, h1⟩, List.map_map, List.map_map]
   congr 1
   refine List.map_congr_left fun u _ => ?_
   simp only [Function.comp]
   by_cases e1 : u.num = a.2.1
   ·have n3 : ¬ u.num = b.2.1 := by rw [e1]; exact hn
    rw [if_pos e1, if_neg n1, if_neg n3, if_pos e1]
   ·rw [if_neg e1]
    by_cases e2 : u.num = b.2.1
    ·rw [if_pos e2, if_neg n2]
    ·rw [if_neg e2, if_neg e1]
  ·have e1 : ∀ t, setT X b.1 t = X := fun t => setT_out h1
   simp only [e1]
 ·unfold setN
  rw [setT_of, if_neg (fun q => ho q.1.symm), setT_of, if_neg (fun q => ho q.1), setT_comm ho]
theorem rf_ne {a b : Rf} (h : a ≠ b) : a.1 ≠ b.1 ∨ a.2.1 ≠ b.2.1 := by
 obtain ⟨(a1 : Int), (a2 : Int), ⟨⟩⟩ := a
 obtain ⟨(b1 : Int), (b2 : Int), ⟨⟩⟩ := b
 by_cases e : a1 = b1
 ·right; intro e2; exact h (by subst e; have e2 : a2 = b2 := e2; subst e2; rfl)
 ·left; exact e
theorem put_more {X : Fs} {q : Plc} {r : Rf} {x y : Nd} (hx : findN X r = some x) (hy : findN X q.at_ = some y) (hne : r ≠ q.at_) : moreS (putS X q r) r = putS (setN X r { x with links := x.links + 1 }) q r := by
 have hxn := (findN_num hx).1
 have hyn := (findN_num hy).1
 have h1 : putS X q r = setN X q.at_ { y with ents := (setR y.ents (q.name, (r, ()))).1 } := by unfold putS; rw [hy]
 have h2 : findN (putS X q r) r = some x := by
  rw [h1, findN_setN (show ({ y with ents := (setR y.ents (q.name, (r, ()))).1 } : Nd).num = q.at_.2.1 from hyn), if_neg (fun e => by rcases rf_ne hne with h | h; exact h e.1.symm; exact h e.2.symm)]
  exact hx
 have h3 : findN (setN X r { x with links := x.links + 1 }) q.at_ = some y := by
  rw [findN_setN (show ({ x with links := x.links + 1 } : Nd).num = r.2.1 from hxn), if_neg (fun e => by rcases rf_ne hne with h | h; exact h e.1; exact h e.2)]
  exact hy
 have h4 : moreS (putS X q r) r = setN (putS X q r) r { x with links := x.links + 1 } := by unfold moreS; rw [h2]
 have h5 : putS (setN X r { x with links := x.links + 1 }) q r = setN (setN X r { x with links := x.links + 1 }) q.at_ { y with ents := (setR y.ents (q.name, (r, ()))).1 } := by unfold putS; rw [h3]
 rw [h4, h1, h5]
 exact setN_comm (rf_ne (fun e => hne e.symm)) hyn hxn
theorem there_iff {q : Plc} {x : Nd} (h2 : findN W.X q.at_ = some x) : (thereS W.X q).isSome = (findE x.ents q.name).isSome := by
 unfold thereS entsOf
 rw [h2]
 dsimp only
 rw [Option.isSome_map]
theorem rw_link.s {K : AnK.Ty → Heap → Prop} (i : IsRw h0 h w mv t0 ss vv W) (hp : splitP W.c.path = some W.w0) (hp2 : splitP W.c.other = some W.w1) (hO : RwOp h0 h w mv t0 ss W (linkS W) K) : ref15_work_link.C (some ⟨w, 0⟩) h K := by
 apply ref15_work_link.c
 unfold ref15_work_link.m
 refine new_gen fun b1 h1 hb1 k1 e1 hs1 => ?_
 have e1 : h1[b1]? = some (vobj 43 AnK an0v) := e1
 have i1 := i.keep k1
 have hb1g : h.size ≤ b1 := by omega
 have z1 := k1.1
 have hl8 := splitP_len hp2
 have hsplit : linkS W = match ownS W with | .error e => .error e | .ok (r, x) => match toS W W.w1 with
  | .error e => .error e
  | .ok t => if (thereS W.X t).isSome then .error 1702 else if 32 ≤ x.links then .error 1706 else if roomS W.X t ≠ 0 then .error (roomS W.X t) else .ok (moreS (putS W.X t r) r, statS (moreS (putS W.X t r) r) r) := rfl
 refine rw_file.s i1 hp (fun e he h2 r v k2 hne => ?_) fun r x he h2 v k2 nv => ?_
 ·have he : ownS W = .error e := he
  rw [he] at hsplit
  refine rw_vars k1 k2 fun b2 b3 h6 k6 e2 e3 g2 g3 => ?_
  rw [if_pos (by simpa using hne)]
  have k16 : Keep [] h1 h6 := k2.new k6 (by simp)
  exact rw_fail hO hsplit hne (k1.new k16 (by simp)) (k16.get e1 (by simp)) hb1g
 ·have he : ownS W = .ok (r, x) := he
  rw [he] at hsplit
  dsimp only at hsplit
  obtain ⟨hx, hkd, htr⟩ := ownS_ok he
  refine rw_vars k1 k2 fun b2 b3 h6 k6 e2 e3 g2 g3 => ?_
  rw [if_neg (by simp)]
  have k16 : Keep [] h1 h6 := k2.new k6 (by simp)
  have i6 := i1.keep k16
  have nv6 := nv.keep k6
  have k06 : Keep [] h h6 := k1.new k16 (by simp)
  refine nck_go (ld_go i6.other ?_)
  refine rw_place.s i6 hp2 (fun e he2 h9 k9 hne => ?_) fun q hq h9 sl k9 r9 o9 => ?_
  ·rw [he2] at hsplit
   rw [if_pos (by simpa using hne)]
   exact rw_fail hO hsplit hne (k06.new k9 (by simp)) ((k16.new k9 (by simp)).get e1 (by simp)) hb1g
  ·rw [if_neg (by decide)]
   rw [hq] at hsplit
   dsimp only at hsplit
   obtain ⟨nm, _, hgo, _, _, y, hy, hyk, hyt⟩ := toS_ok hq
   have hwl : q.way.length ≤ 1000 := by have := (goesS_last (W := W) i.root hgo).2; simp at this; omega
   refine way_last hq hwl r9 ?_
   refine new_st_gen fun b4 h13 hb4 k13 e13 hs13 => ?_
   have e13 : h13[b4]? = some (vobj 34 RF q.at_) := e13
   refine ld_go (sm_all e13) ?_
   have k613 : Keep [] h6 h13 := k9.new k13 (by simp)
   refine rw_node.s (i6.keep k613) (fun hnone => by rw [hy] at hnone; simp at hnone) fun y' vy nvy h14 k14 => ?_
   have hxx := nvy.f
   rw [hy] at hxx
   cases hxx
   refine new_st_gen fun b5 h16 hb5 k16' e16 hs16 => ?_
   have e16 : h16[b5]? = some (vobj 83 NdK vy) := e16
   have k1316 : Keep [] h13 h16 := k14.new k16' (by simp)
   have nvy16 := nvy.keep k1316
   have hsm := (nd_small (findN_may i.may hy)).2.1
   refine ld_go (nd_f (sm_all e16)).2.2.2.2.2 ?_
   refine ref7_Find.s nvy16.a.e (by omega) fun h17 k17 => ?_
   refine new_st_gen fun b6 h19 hb6 k19 e19 hs19 => ?_
   have k619 : Keep [] h6 h19 := ((k613.new k1316 (by simp)).new k17 (by simp)).new k19 (by simp)
   have k119 : Keep [] h1 h19 := k16.new k619 (by simp)
   have k019 : Keep [] h h19 := k1.new k119 (by simp)
   have hti := there_iff (W := W) hy
   cases hfe : (findE y.ents q.name).isSome with
   | true =>
     rw [if_pos rfl]
     rw [hti, hfe, if_pos rfl] at hsplit
     exact rw_fail hO hsplit (by decide) k019 (k119.get e1 (by simp)) hb1g
   | false =>
     rw [if_neg (by simp)]
     rw [hti, hfe, if_neg (by simp)] at hsplit
     have e319 := k619.get e3 (by simp)
     have f3 := (nd_f (sm_all e319)).2.2.2.1
     rw [nv.a.l] at f3
     refine ld_go f3 ?_
     have hlk := (nd_ok (findN_may i.may hx)).2.2.2.2
     by_cases h32 : x.links = 32
     ·rw [if_pos (show decide (x.links = 32) = true from decide_eq_true h32)]
      rw [if_pos (by omega)] at hsplit
      exact rw_fail hO hsplit (by decide) k019 (k119.get e1 (by simp)) hb1g
     rw [if_neg (show ¬ decide (x.links = 32) = true by simpa using h32)]
     rw [if_neg (by omega)] at hsplit
     have k1319 : Keep [] h13 h19 := (k1316.new k17 (by simp)).new k19 (by simp)
     have e419 := k1319.get e13 (by simp)
     refine ld_go (sm_all e419) ?_
     refine rw_room.s (i6.keep k619) hy fun h24 k24 => ?_
     have k124 : Keep [] h1 h24 := k119.new k24 (by simp)
     have k024 : Keep [] h h24 := k1.new k124 (by simp)
     by_cases hrm : roomS W.X q ≠ 0
     ·rw [if_pos (by simpa using hrm)]
      rw [if_pos hrm] at hsplit
      exact rw_fail hO hsplit hrm k024 (k124.get e1 (by simp)) hb1g
     rw [if_neg (by simpa using hrm)]
     rw [if_neg hrm] at hsplit
     have k624 : Keep [] h6 h24 := k619.new k24 (by simp)
     have e324 := k624.get e3 (by simp)
     have e224 := k624.get e2 (by simp)
     have e424 := k24.get e419 (by simp)
     have f3 := (nd_f (sm_all e324)).2.2.2.1
     rw [nv.a.l] at f3
     refine ld_go f3 ?_
     rw [w64_id (by omega) (by omega)]
     have hne : r ≠ q.at_ := fun e => by rw [e, hy] at hx; cases hx; exact hkd hyk
     rw [put_more hx hy hne] at hsplit
     -- the node is set, the entry made
     have nv24 := nv6.keep k624
     have i24 := i6.keep k624
     have hents := nv24.ents i24.s
     refine st_fld (k := NdK) (k' := .i) (y := x.links + 1) (n := 3) (x := v) (x' := ((v.1, (v.2.1, (v.2.2.1, (x.links + 1, (v.2.2.2.2.1, (v.2.2.2.2.2.1, ())))))) : NdV)) e324 (by decide) rfl ?_
     have e7 := get_set (o' := vobj 83 NdK ((v.1, (v.2.1, (v.2.2.1, (x.links + 1, (v.2.2.2.2.1, (v.2.2.2.2.2.1, ())))))) : NdV)) e324
     have k7 : Keep [b3] h24 (h24.setIfInBounds b3 (vobj 83 NdK ((v.1, (v.2.1, (v.2.2.1, (x.links + 1, (v.2.2.2.2.1, (v.2.2.2.2.2.1, ())))))) : NdV))) := keep_set
     generalize h24.setIfInBounds b3 (vobj 83 NdK ((v.1, (v.2.1, (v.2.2.1, (x.links + 1, (v.2.2.2.2.1, (v.2.2.2.2.2.1, ())))))) : NdV)) = h27 at e7 k7
     have tag : ∀ {b T : Nat} {c : Array Value} {f : Nat × Nat}, h24[b]? = some (.cells c T f) → T ≠ 83 → b ≠ b3 := fun {b T c f} e hT hb => by
      subst hb; rw [e324] at e; simp only [Option.some.injEq, vobj, Obj.cells.injEq] at e; exact hT e.2.1.symm
     have i27 := i24.keepO e324 (by decide) (i.off g3) (by have := i.w_lt; omega) (by have := i.k.1; omega) k7
     have e227 := k7.get e224 (by simpa using tag e224 (by decide))
     have e427 := k7.get e424 (by simpa using tag e424 (by decide))
     have e124 := k124.get e1 (by simp)
     have e127 := k7.get e124 (by simpa using tag e124 (by decide))
     have hvE : ∀ p ∈ own (vEnts v), p ≠ b3 := fun p hp e => by
      obtain ⟨⟨L, rr⟩, _⟩ := hents.2
      subst e
      exact row_tag rr e324 (by decide) hp
     refine ld_go (sm_all e227) (ld_go (sm_all e7) ?_)
     have hm1 : stMay (setN W.X r { x with links := x.links + 1 }) = true := setN_may i.may hx (ndN_links (findN_may i.may hx) (by omega) (by omega)) rfl rfl
     refine rw_set.s (x := x) (y := { x with links := x.links + 1 }) i27 hx ⟨nv24.a.n, nv24.a.k, nv24.a.m, rfl, nv24.a.d, nv24.a.e.keep' k7 fun p hp hm => by simp at hm; exact hvE p hp hm⟩ rfl hm1
      (fun p hp => ⟨(hents.1 p hp).1, by have := (hents.1 p hp).2; have := k7.1; omega⟩) (hents.2.keep k7 fun p hp hm => by simp at hm; exact hvE p hp hm) fun h28 vv' i28 n28 => ?_
     have g4 : h.size ≤ b4 := by have := k16.1; have := k9.1; omega
     have e428 := n28.get e427 (i.off g4)
     have e228 := n28.get e227 (i.off g2)
     have e128 := n28.get e127 (i.off hb1g)
     refine ld_go (sm_all e428) (ld_go (sm_all e228) ?_)
     have hy' : findN (setN W.X r { x with links := x.links + 1 }) q.at_ = some y := by
      rw [findN_setN (show ({ x with links := x.links + 1 } : Nd).num = r.2.1 from (findN_num hx).1), if_neg (fun e => by rcases rf_ne hne with h | h; exact h e.1; exact h e.2)]
      exact hy
     have o2 := okd_put (m := W.m) (u := W.user) (r := r) hm1 hyt hy' hyk
     refine rw_enter.s i28 hy' o2.may fun h29 vv'' i29 n29 => ?_
     have e229 := n29.get e228 (i.off g2)
     have e129 := n29.get e128 (i.off hb1g)
     refine ld_go (sm_all e229) ?_
     obtain ⟨z, hz, _⟩ := put_find (w := ⟨W.m, setN W.X r { x with links := x.links + 1 }, W.user, W.c, [], []⟩) (p := q) (q := r) (find_set hx (y := { x with links := x.links + 1 }) rfl)
     refine rw_stat.s i29 (by show (findN (putS (setN W.X r { x with links := x.links + 1 }) q r) r).isSome = true; rw [hz]; rfl) fun h30 k30 => ?_
     exact rw_done hO hsplit stat_names (i29.keep k30) (((((Nx.of k024).new k7 g3).trans n28).trans n29).keep k30) (k30.get e129 (by simp)) hb1g i.k.1
end
end Go.Proofs.Tryz
