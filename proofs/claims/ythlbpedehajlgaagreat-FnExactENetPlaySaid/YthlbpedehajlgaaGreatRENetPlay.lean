/- THE STATEMENT Rows.FnExactENetPlaySaid: the law FnExactENetPlay answers true at every input and leaves its arguments as they were. -/
import Derived.Test.YthlbpedehajlgaaGreatRows
import Derived.ProofKit
import Derived.OpenShut
import Derived.ShutString
import Derived.ChangeOld
import Derived.Carry
import Derived.Below
import Derived.Test.YthlbpedehajlgaaGreatT17
namespace Go.Proofs.YthlbpedehajlgaaGreat
open Go.ChangeShapes Go.WideShapes Go.ChangeAt Go.RowKit Go.Proofs.SL
set_option linter.unusedVariables false
theorem sE:Tryz.prog.underlying 56=some (.slice 85):=by kernel_rfl
theorem RL:Opn Tryz.prog 3 Int:=Opn.int Eu.h
theorem sF:Opn Tryz.prog 82 Bj:=Opn.struct Tryz.underlying82 kr (OpnFs.cons rfl kr RL (OpnFs.one rfl kr RL))
theorem cV:Opn Tryz.prog 9 ByteArray:=Opn.str oZ.h
theorem sG:Tryz.prog.underlying 36=some (.slice 9):=by kernel_rfl
theorem sH:Opn Tryz.prog 36 (TL ByteArray):=Opn.slice sG kr cV
theorem sI:Opn Tryz.prog 83 Dg:=Opn.struct Tryz.underlying83 kr (OpnFs.cons rfl kr RL (OpnFs.cons rfl kr RL (OpnFs.cons rfl kr RL (OpnFs.cons rfl kr cV (OpnFs.cons rfl kr cV (OpnFs.cons rfl kr cV (OpnFs.cons rfl kr RL (OpnFs.one rfl kr sH))))))))
theorem sJ:Opn Tryz.prog 85 CF:=Opn.struct Tryz.underlying85 kr (OpnFs.cons rfl kr RL (OpnFs.cons rfl kr RL (OpnFs.cons rfl kr RL (OpnFs.cons rfl kr sF (OpnFs.one rfl kr sI)))))
theorem sK:Opn Tryz.prog 56 (TL CF):=Opn.slice sE kr sJ
theorem own:ownKnob Tryz.prog.godebug=none:=by kernel_rfl
theorem aG:laidOutB Tryz.prog=true:=by kernel_rfl
set_option maxRecDepth 100000 in
theorem lifted (os:Os) (started:os.Started) (H:Type) (enc:TypeId×Value→H) :
  ReturnsInHanded {} Tryz.checked os 5 .any (Rows.fnExactENetPlaySpec.pre6 enc Tryz.prog Tryz.f5 Rows.fnExactENetPlayRow.domain false) (Rows.fnExactENetPlaySpec.post enc Tryz.prog Tryz.f5 false true false false):=by
 refine returnsInHanded_of_change (C:=Tryz.checked) own started kr Tryz.func5
  (ChangeSpec.witness6 (enc:=enc) (C:=Tryz.checked) false ⟨#[],#[.slice none 0 0],[]⟩ 8 kr kr kr kr) ?_
 intro W base args ds gs before hval0 hW hcnd _
 have hval:∀ (j:Nat) t v,Tryz.f5.params[j]?=some t→args[j]?=some v→Value.okWide Tryz.prog W .any base t v:=hval0
 have hW':=hW
 obtain ⟨p,q,hA0,hV,rfl,hfz,hnd⟩:=hW
 have hA:DataW.TrodAll enc Tryz.prog W 0 (fun _=>true) true Tryz.f5.params.toList args.toList ds p:=hA0
 rw [Tryz.params5] at hA hval;obtain ⟨v0,vs0,d0,ds0,p0,q0,hargs,rfl,rfl,h0,r0⟩:=trodAll_cons hA;obtain ⟨rfl,rfl,rfl⟩:=trodAll_nil r0;obtain rfl:args=#[v0]:=by cases args;simp_all
 obtain ⟨rfl,rfl⟩:=trodVars_none hV
 have k0:=h0
 have lt0:∀ x∈p0,x.block < W.heap.size:=by obtain ⟨m,hm⟩:=k0;exact DataW.trod_lt m _ _ _ hm
 obtain ⟨t0,a0,g0,o0⟩:∃ t:TL CF,v0.cells.toList=GT.cells t∧GT.rd W [] t∧Ok.ok (GT.dat t):=by obtain ⟨m,hm⟩:=h0;exact sK enc W _ _ m _ _ hm
 obtain ⟨sa0,sl0,sc0,hv0⟩:=okWide_slice Tryz.underlying56 (hval 0 56 v0 rfl rfl);obtain rfl:v0=t0.hdr:=by subst hv0;exact List.head_eq_of_cons_eq a0
 clear hA0 hval0;refine (Spec.top (SE W t0 g0 o0)).mono fun e W' ⟨v,M',he,⟨hv,_⟩,bel⟩=>?_;subst he;subst hv;exact ⟨_,rfl,_,_,_,[],_,[],hW',trodAll_mk1 (shut_bool Tryz.underlying4 _),(trodAll_cons_mk (Below.trod aG kr (of_decide_eq_true kr) k0 bel lt0) trodAll_mk0),rfl,bel.frame _,fun h=>by cases h⟩
theorem sL:mapsRowed Tryz.prog=true:=by kernel_rfl
theorem gIn:(Rows.fnExactENetPlayRow.inPlace == Tryz.prog.inPlace 5)=true:=by kernel_rfl
theorem gUn:(Rows.fnExactENetPlayRow.unfollowed == Tryz.prog.unfollowed 5)=true:=by kernel_rfl
theorem uH:(Rows.fnExactENetPlayRow.recurses == Tryz.prog.recurses 5)=true:=by kernel_rfl
theorem uI:(Rows.fnExactENetPlayRow.named == Tryz.prog.varsNamed 5)=true:=by kernel_rfl
theorem pF:Tryz.prog.stopsHeard=true:=by kernel_rfl
theorem pG:Tryz.prog.mayEnter=true:=by kernel_rfl
theorem sM:(Rows.fnExactENetPlayRow.lifted == Tryz.prog.liftsFinal)=true:=by kernel_rfl
theorem sN:(Rows.fnExactENetPlayRow.plainKeys == Tryz.prog.plainKeys)=true:=by kernel_rfl
theorem sO:Tryz.prog.funcNamed Rows.fnExactENetPlayRow.func=some 5:=by kernel_rfl
theorem closed:joinedFacts Tryz.prog 5 Tryz.f5 Rows.fnExactENetPlaySpec Rows.fnExactENetPlayRow=true:=by
 unfold joinedFacts;rw [aG,sL,gIn,gUn,uH,uI,pF,pG,sM,sN]
 kernel_rfl
theorem KQ:Rows.fnExactENetPlayRow.holds Tryz.pinned (OpenSpec.ofChange Rows.fnExactENetPlaySpec) :=
 OpenClaim.holds_of_wide 5 Tryz.f5 rfl rfl rfl rfl rfl rfl rfl ⟨rfl,rfl,rfl,rfl,rfl⟩ rfl rfl rfl rfl rfl sO Tryz.func5 closed
  (of_decide_eq_true kr) (by unfold Func.isWrapper;first | (rw [if_pos (by decide +kernel)];kernel_rfl) | (rw [if_neg (by decide +kernel)];exact ⟨rfl,rfl⟩))
  (fun os started H enc _=>lifted os started H enc)
theorem fnExactENetPlay_holds:Rows.FnExactENetPlaySaid:=KQ
end Go.Proofs.YthlbpedehajlgaaGreat
