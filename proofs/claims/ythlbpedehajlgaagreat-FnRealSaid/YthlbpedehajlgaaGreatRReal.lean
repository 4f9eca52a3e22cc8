/- THE STATEMENT Rows.FnRealSaid: the law FnReal answers true at every input and leaves its arguments as they were. -/
import Derived.Test.YthlbpedehajlgaaGreatRows
import Derived.ProofKit
import Derived.OpenShut
import Derived.ShutString
import Derived.ChangeOld
import Derived.Carry
import Derived.Below
import Derived.Test.YthlbpedehajlgaaGreatT16
namespace Go.Proofs.YthlbpedehajlgaaGreat
open Go.ChangeShapes Go.WideShapes Go.ChangeAt Go.RowKit Go.Proofs.SL
set_option linter.unusedVariables false
theorem Ab2:Opn Tryz.prog 5 UInt8:=Opn.u8 Kn.h
theorem zJ:Opn Tryz.prog 22 (TL UInt8):=Opn.slice YT.h kr Ab2
theorem own:ownKnob Tryz.prog.godebug=none:=by kernel_rfl
theorem eV:laidOutB Tryz.prog=true:=by kernel_rfl
set_option maxRecDepth 100000 in
theorem lifted (os:Os) (started:os.Started) (H:Type) (enc:TypeId×Value→H) :
  ReturnsInHanded {} Tryz.checked os 3 .any (Rows.fnRealSpec.pre6 enc Tryz.prog Tryz.f3 Rows.fnRealRow.domain false) (Rows.fnRealSpec.post enc Tryz.prog Tryz.f3 false true false false):=by
 refine returnsInHanded_of_change (C:=Tryz.checked) own started kr Tryz.func3
  (ChangeSpec.witness6 (enc:=enc) (C:=Tryz.checked) false ⟨#[],#[.slice none 0 0],[]⟩ 8 kr kr kr kr) ?_
 intro W base args ds gs before hval0 hW hcnd _
 have hval:∀ (j:Nat) t v,Tryz.f3.params[j]?=some t→args[j]?=some v→Value.okWide Tryz.prog W .any base t v:=hval0
 have hW':=hW
 obtain ⟨p,q,hA0,hV,rfl,hfz,hnd⟩:=hW
 have hA:DataW.TrodAll enc Tryz.prog W 0 (fun _=>true) true Tryz.f3.params.toList args.toList ds p:=hA0
 rw [Tryz.params3] at hA hval;obtain ⟨v0,vs0,d0,ds0,p0,q0,hargs,rfl,rfl,h0,r0⟩:=trodAll_cons hA;obtain ⟨rfl,rfl,rfl⟩:=trodAll_nil r0;obtain rfl:args=#[v0]:=by cases args;simp_all
 obtain ⟨rfl,rfl⟩:=trodVars_none hV
 have k0:=h0
 have lt0:∀ x∈p0,x.block < W.heap.size:=by obtain ⟨m,hm⟩:=k0;exact DataW.trod_lt m _ _ _ hm
 obtain ⟨t0,a0,g0,o0⟩:∃ t:TL UInt8,v0.cells.toList=GT.cells t∧GT.rd W [] t∧Ok.ok (GT.dat t):=by obtain ⟨m,hm⟩:=h0;exact zJ enc W _ _ m _ _ hm
 obtain ⟨sa0,sl0,sc0,hv0⟩:=okWide_slice Tryz.underlying22 (hval 0 22 v0 rfl rfl);obtain rfl:v0=t0.hdr:=by subst hv0;exact aG6 a0
 clear hA0 hval0;refine (mJ (mD W t0 g0 o0)).mono fun e W' ⟨v,M',he,⟨hv,_⟩,bel⟩=>?_;subst he;subst hv;exact ⟨_,rfl,_,_,_,[],_,[],hW',trodAll_mk1 (shut_bool Tryz.underlying4 _),(trodAll_cons_mk (Below.trod eV kr (aAr kr) k0 bel lt0) trodAll_mk0),rfl,bel.frame _,fun h=>by cases h⟩
theorem zK:mapsRowed Tryz.prog=true:=by kernel_rfl
theorem gIn:(Rows.fnRealRow.inPlace == Tryz.prog.inPlace 3)=true:=by kernel_rfl
theorem gUn:(Rows.fnRealRow.unfollowed == Tryz.prog.unfollowed 3)=true:=by kernel_rfl
theorem Ab3:(Rows.fnRealRow.recurses == Tryz.prog.recurses 3)=true:=by kernel_rfl
theorem Ab4:(Rows.fnRealRow.named == Tryz.prog.varsNamed 3)=true:=by kernel_rfl
theorem wM:Tryz.prog.stopsHeard=true:=by kernel_rfl
theorem wN:Tryz.prog.mayEnter=true:=by kernel_rfl
theorem zL:(Rows.fnRealRow.lifted == Tryz.prog.liftsFinal)=true:=by kernel_rfl
theorem zM:(Rows.fnRealRow.plainKeys == Tryz.prog.plainKeys)=true:=by kernel_rfl
theorem zN:Tryz.prog.funcNamed Rows.fnRealRow.func=some 3:=by kernel_rfl
theorem closed:joinedFacts Tryz.prog 3 Tryz.f3 Rows.fnRealSpec Rows.fnRealRow=true:=by
 unfold joinedFacts;rw [eV,zK,gIn,gUn,Ab3,Ab4,wM,wN,zL,zM]
 kernel_rfl
theorem Vv:Rows.fnRealRow.holds Tryz.pinned (OpenSpec.ofChange Rows.fnRealSpec) :=
 OpenClaim.holds_of_wide 3 Tryz.f3 rfl rfl rfl rfl rfl rfl rfl ⟨rfl,rfl,rfl,rfl,rfl⟩ rfl rfl rfl rfl rfl zN Tryz.func3 closed
  (aAr kr) (by unfold Func.isWrapper;first | (rw [if_pos (by decide +kernel)];kernel_rfl) | (rw [if_neg (by decide +kernel)];exact ⟨rfl,rfl⟩))
  (fun os started H enc _=>lifted os started H enc)
theorem fnReal_holds:Rows.FnRealSaid:=Vv
end Go.Proofs.YthlbpedehajlgaaGreat
