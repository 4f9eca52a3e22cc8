/- The texts of the proof, part 6: the base, walks of functions, plain Lean. -/
import Derived.Test.YthlbpedehajlgaaGreatRows
import Derived.Test.YthlbpedehajlgaaGreatT4
import Derived.Test.YthlbpedehajlgaaGreatT5
import Derived.Shelf.SlSortCmp.NoneTotal
import Derived.Ground.SlsfProg
import Derived.Shelf.Sort.Plain
import Derived.Shelf.Slices.In.SortNone
namespace Go.Proofs.SL
open Go
abbrev T_Id:=Int×Int
abbrev T_Cmd:=Int×Int×Int×ByteArray×ByteArray×ByteArray×Int×(TL ByteArray)
abbrev T_Inst:=T_Id×Int×Int×Int×T_Cmd×Int×(TL T_Id)×Bool
abbrev T_Lead:=T_Id×Int×Int×Int×(TL T_Id)×(TL Int)×Bool
abbrev T_ENode:=Int×Int×(TL T_Inst)×(TL T_Lead)
abbrev T_EMsg:=Int×Int×Int×T_Id×Int×T_Cmd×Int×(TL T_Id)×Int×Int×Bool
abbrev T_ENet:=(TL T_ENode)×(TL T_EMsg)
abbrev T_EAct:=Int×Int×Int×T_Id×T_Cmd
end Go.Proofs.SL
namespace Go.Proofs.SL
open Go
set_option maxHeartbeats 2000000
theorem mix:Tryz.prog.follows .mixedOrders=true:=by kernel_rfl
instance fn66:FnF Tryz.prog 66:=⟨_,Tryz.func66,by kernel_rfl,rfl⟩
noncomputable def s_l1In (a0:Int) (a1:Int) (a2:Int):Option Bool :=
 some ((decide (a1≤a0))&&(decide (a0≤a2)))
theorem s_l1In_walk (w:World) (a0:Int) (a1:Int) (a2:Int)  (r:Bool) (hp:s_l1In a0 a1 a2=some r):Spec Tryz.prog 83 [.int .i64 a0,.int .i64 a1,.int .i64 a2].toArray w [] (IsV (.bool r)):=by
 refine Spec.intro Tryz.func83 rfl Tryz.ntmps83 rfl ?_
 unfold s_l1In at hp
 replace hp:=dd hp
 refine s5 ?_
 refine W_D0 [6] mix (by kernel_rfl) rfl ?_
 refine s20 ?_
 obtain rfl:=sj hp
 refine s1 ?_
 refine res1 rfl (ResOK.tmp rfl) ⟨rfl,rfl⟩ ms
noncomputable def i_within (a0:Int) (a1:Int) (a2:Int):Option Bool :=
 some ((decide (a1≤a0))&&(decide (a0≤a2)))
theorem i_within_walk (w:World) (a0:Int) (a1:Int) (a2:Int)  (r:Bool) (hp:i_within a0 a1 a2=some r):Spec Tryz.prog 66 [.int .i64 a0,.int .i64 a1,.int .i64 a2].toArray w [] (IsV (.bool r)):=by
 refine Spec.intro Tryz.func66 rfl Tryz.ntmps66 rfl ?_
 unfold i_within at hp
 replace hp:=dd hp
 refine s5 ?_
 refine W_D0 [6] mix (by kernel_rfl) rfl ?_
 refine s20 ?_
 obtain rfl:=sj hp
 refine s1 ?_
 refine res1 rfl (ResOK.tmp rfl) ⟨rfl,rfl⟩ ms
noncomputable def s_l9Node (a0:Int):Option Bool :=
 some ((decide (0≤a0))&&(decide (a0 < 3)))
theorem s_l9Node_walk (w:World) (a0:Int)  (r:Bool) (hp:s_l9Node a0=some r):Spec Tryz.prog 136 [.int .i64 a0].toArray w [] (IsV (.bool r)):=by
 refine Spec.intro Tryz.func136 rfl Tryz.ntmps136 rfl ?_
 unfold s_l9Node at hp
 replace hp:=dd hp
 refine s5 ?_
 refine W_D0 [2] mix (by kernel_rfl) rfl ?_
 refine s16 ?_
 obtain rfl:=sj hp
 refine s1 ?_
 refine res1 rfl (ResOK.tmp rfl) ⟨rfl,rfl⟩ ms
noncomputable def i_isRep (a0:Int):Option Bool :=
 Option.bind (i_within a0 0 2) (fun y1=>some y1)
theorem i_isRep_walk (w:World) (a0:Int)  (r:Bool) (hp:i_isRep a0=some r):Spec Tryz.prog 62 [.int .i64 a0].toArray w [] (IsV (.bool r)):=by
 refine Spec.intro Tryz.func62 rfl Tryz.ntmps62 rfl ?_
 unfold i_isRep at hp
 replace hp:=dd hp
 refine s7 ?_
 replace hp:=ba hp;obtain ⟨y1,hy1,hp⟩:=hp
 refine L_callX rfl fn66.h rfl (by exact fun w hw=>i_within_walk w a0 0 2  _ hy1) ?_
 refine s2 ?_
 obtain rfl:=sj hp
 refine s1 ?_
 refine res1 rfl (ResOK.tmp rfl) ⟨rfl,rfl⟩ ms
end Go.Proofs.SL
namespace Go.Proofs
open Go.Shelf
def Tryz.laysSF130_ren:Go.Shelf.Ren:=⟨fun | 6=>130 | 15=>178 | 14=>177 | 28=>213 | 29=>214 | 20=>205 | 21=>206 | 22=>207 | 23=>208 | 24=>209 | 25=>210 | 26=>211 | 27=>212 | 46=>231 | 47=>232 | 48=>233 | 49=>234 | 50=>235 | 57=>257 | n=>n,fun | 22=>31 | 24=>35 | 25=>154 | 3=>3 | 39=>138 | 0=>0 | 53=>201 | 55=>203 | 4=>4 | 46=>194 | 45=>193 | 50=>198 | 5=>5 | 9=>9 | 66=>210 | 70=>214 | 76=>228 | 77=>229 | n=>n,fun | n=>n⟩
theorem Tryz.laysSF130:Go.Proofs.SlLaysF0.n6 Tryz.prog Tryz.laysSF130_ren:={
 mixed:=by kernel_rfl
 f6:=⟨Tryz.f130.name,by decide,Tryz.func130.trans (congrArg some (by kernel_rfl))⟩
 f14:=⟨Tryz.f177.name,by decide,Tryz.func177.trans (congrArg some (by kernel_rfl))⟩
 f15:=Tryz.func178.trans (congrArg some (by kernel_rfl))
 f20:=⟨Tryz.f205.name,by decide,Tryz.func205.trans (congrArg some (by kernel_rfl))⟩
 f21:=⟨Tryz.f206.name,by decide,Tryz.func206.trans (congrArg some (by kernel_rfl))⟩
 f22:=⟨Tryz.f207.name,by decide,Tryz.func207.trans (congrArg some (by kernel_rfl))⟩
 f23:=⟨Tryz.f208.name,by decide,Tryz.func208.trans (congrArg some (by kernel_rfl))⟩
 f24:=⟨Tryz.f209.name,by decide,Tryz.func209.trans (congrArg some (by kernel_rfl))⟩
 f25:=⟨Tryz.f210.name,by decide,Tryz.func210.trans (congrArg some (by kernel_rfl))⟩
 f26:=⟨Tryz.f211.name,by decide,Tryz.func211.trans (congrArg some (by kernel_rfl))⟩
 f27:=⟨Tryz.f212.name,by decide,Tryz.func212.trans (congrArg some (by kernel_rfl))⟩
 f28:=Tryz.func213.trans (congrArg some (by kernel_rfl))
 f29:=Tryz.func214.trans (congrArg some (by kernel_rfl))
 f46:=⟨Tryz.f231.name,by decide,Tryz.func231.trans (congrArg some (by kernel_rfl))⟩
 f47:=Tryz.func232.trans (congrArg some (by kernel_rfl))
 f48:=Tryz.func233.trans (congrArg some (by kernel_rfl))
 f49:=⟨Tryz.f234.name,by decide,Tryz.func234.trans (congrArg some (by kernel_rfl))⟩
 f50:=⟨Tryz.f235.name,by decide,Tryz.func235.trans (congrArg some (by kernel_rfl))⟩
 f57:=⟨Tryz.f257.name,by decide,Tryz.func257.trans (congrArg some (by kernel_rfl))⟩
 t0:=Tryz.underlying0
 a0:=Tryz.isAgg0
 z0:=Tryz.sizeOf0
 v0:=Tryz.zeroValue0
 t3:=Tryz.underlying3
 a3:=Tryz.isAgg3
 z3:=Tryz.sizeOf3
 v3:=Tryz.zeroValue3
 t4:=Tryz.underlying4
 a4:=Tryz.isAgg4
 z4:=Tryz.sizeOf4
 v4:=Tryz.zeroValue4
 t5:=Tryz.underlying5
 a5:=Tryz.isAgg5
 z5:=Tryz.sizeOf5
 v5:=Tryz.zeroValue5
 t9:=Tryz.underlying9
 a9:=Tryz.isAgg9
 z9:=Tryz.sizeOf9
 v9:=Tryz.zeroValue9
 t22:=Tryz.underlying31
 a22:=Tryz.isAgg31
 z22:=Tryz.sizeOf31
 v22:=Tryz.zeroValue31
 t25:=Tryz.underlying154
 a25:=Tryz.isAgg154
 z25:=Tryz.sizeOf154
 v25:=Tryz.zeroValue154
 t39:=Tryz.underlying138
 a39:=Tryz.isAgg138
 z39:=Tryz.sizeOf138
 v39:=Tryz.zeroValue138
 t45:=Tryz.underlying193
 a45:=Tryz.isAgg193
 z45:=Tryz.sizeOf193
 v45:=Tryz.zeroValue193
 t46:=Tryz.underlying194
 a46:=Tryz.isAgg194
 z46:=Tryz.sizeOf194
 v46:=Tryz.zeroValue194
 t50:=Tryz.underlying198
 a50:=Tryz.isAgg198
 z50:=Tryz.sizeOf198
 v50:=Tryz.zeroValue198
 t53:=Tryz.underlying201
 a53:=Tryz.isAgg201
 z53:=Tryz.sizeOf201
 v53:=Tryz.zeroValue201
 t55:=Tryz.underlying203
 a55:=Tryz.isAgg203
 z55:=Tryz.sizeOf203
 v55:=Tryz.zeroValue203
 t66:=Tryz.underlying210
 a66:=Tryz.isAgg210
 z66:=Tryz.sizeOf210
 v66:=Tryz.zeroValue210
 t70:=Tryz.underlying214
 a70:=Tryz.isAgg214
 z70:=Tryz.sizeOf214
 v70:=Tryz.zeroValue214
 t76:=Tryz.underlying228
 a76:=Tryz.isAgg228
 z76:=Tryz.sizeOf228
 v76:=Tryz.zeroValue228
 t77:=Tryz.underlying229
 a77:=Tryz.isAgg229
 z77:=Tryz.sizeOf229
 v77:=Tryz.zeroValue229 }
def Tryz.laysSF195_ren:Go.Shelf.Ren:=⟨fun | 6=>195 | 15=>178 | 14=>226 | 28=>213 | 29=>214 | 20=>240 | 21=>241 | 22=>242 | 23=>243 | 24=>244 | 25=>245 | 26=>246 | 27=>247 | 46=>259 | 47=>232 | 48=>233 | 49=>260 | 50=>261 | 57=>266 | n=>n,fun | 22=>41 | 24=>48 | 25=>182 | 3=>3 | 39=>138 | 0=>0 | 53=>201 | 55=>203 | 4=>4 | 46=>194 | 45=>193 | 50=>198 | 5=>5 | 9=>9 | 66=>210 | 70=>214 | 76=>228 | 77=>229 | n=>n,fun | n=>n⟩
theorem Tryz.laysSF195:Go.Proofs.SlLaysF0.n6 Tryz.prog Tryz.laysSF195_ren:={
 mixed:=by kernel_rfl
 f6:=⟨Tryz.f195.name,by decide,Tryz.func195.trans (congrArg some (by kernel_rfl))⟩
 f14:=⟨Tryz.f226.name,by decide,Tryz.func226.trans (congrArg some (by kernel_rfl))⟩
 f15:=Tryz.func178.trans (congrArg some (by kernel_rfl))
 f20:=⟨Tryz.f240.name,by decide,Tryz.func240.trans (congrArg some (by kernel_rfl))⟩
 f21:=⟨Tryz.f241.name,by decide,Tryz.func241.trans (congrArg some (by kernel_rfl))⟩
 f22:=⟨Tryz.f242.name,by decide,Tryz.func242.trans (congrArg some (by kernel_rfl))⟩
 f23:=⟨Tryz.f243.name,by decide,Tryz.func243.trans (congrArg some (by kernel_rfl))⟩
 f24:=⟨Tryz.f244.name,by decide,Tryz.func244.trans (congrArg some (by kernel_rfl))⟩
 f25:=⟨Tryz.f245.name,by decide,Tryz.func245.trans (congrArg some (by kernel_rfl))⟩
 f26:=⟨Tryz.f246.name,by decide,Tryz.func246.trans (congrArg some (by kernel_rfl))⟩
 f27:=⟨Tryz.f247.name,by decide,Tryz.func247.trans (congrArg some (by kernel_rfl))⟩
 f28:=Tryz.func213.trans (congrArg some (by kernel_rfl))
 f29:=Tryz.func214.trans (congrArg some (by kernel_rfl))
 f46:=⟨Tryz.f259.name,by decide,Tryz.func259.trans (congrArg some (by kernel_rfl))⟩
 f47:=Tryz.func232.trans (congrArg some (by kernel_rfl))
 f48:=Tryz.func233.trans (congrArg some (by kernel_rfl))
 f49:=⟨Tryz.f260.name,by decide,Tryz.func260.trans (congrArg some (by kernel_rfl))⟩
 f50:=⟨Tryz.f261.name,by decide,Tryz.func261.trans (congrArg some (by kernel_rfl))⟩
 f57:=⟨Tryz.f266.name,by decide,Tryz.func266.trans (congrArg some (by kernel_rfl))⟩
 t0:=Tryz.underlying0
 a0:=Tryz.isAgg0
 z0:=Tryz.sizeOf0
 v0:=Tryz.zeroValue0
 t3:=Tryz.underlying3
 a3:=Tryz.isAgg3
 z3:=Tryz.sizeOf3
 v3:=Tryz.zeroValue3
 t4:=Tryz.underlying4
 a4:=Tryz.isAgg4
 z4:=Tryz.sizeOf4
 v4:=Tryz.zeroValue4
 t5:=Tryz.underlying5
 a5:=Tryz.isAgg5
 z5:=Tryz.sizeOf5
 v5:=Tryz.zeroValue5
 t9:=Tryz.underlying9
 a9:=Tryz.isAgg9
 z9:=Tryz.sizeOf9
 v9:=Tryz.zeroValue9
 t22:=Tryz.underlying41
 a22:=Tryz.isAgg41
 z22:=Tryz.sizeOf41
 v22:=Tryz.zeroValue41
 t25:=Tryz.underlying182
 a25:=Tryz.isAgg182
 z25:=Tryz.sizeOf182
 v25:=Tryz.zeroValue182
 t39:=Tryz.underlying138
 a39:=Tryz.isAgg138
 z39:=Tryz.sizeOf138
 v39:=Tryz.zeroValue138
 t45:=Tryz.underlying193
 a45:=Tryz.isAgg193
 z45:=Tryz.sizeOf193
 v45:=Tryz.zeroValue193
 t46:=Tryz.underlying194
 a46:=Tryz.isAgg194
 z46:=Tryz.sizeOf194
 v46:=Tryz.zeroValue194
 t50:=Tryz.underlying198
 a50:=Tryz.isAgg198
 z50:=Tryz.sizeOf198
 v50:=Tryz.zeroValue198
 t53:=Tryz.underlying201
 a53:=Tryz.isAgg201
 z53:=Tryz.sizeOf201
 v53:=Tryz.zeroValue201
 t55:=Tryz.underlying203
 a55:=Tryz.isAgg203
 z55:=Tryz.sizeOf203
 v55:=Tryz.zeroValue203
 t66:=Tryz.underlying210
 a66:=Tryz.isAgg210
 z66:=Tryz.sizeOf210
 v66:=Tryz.zeroValue210
 t70:=Tryz.underlying214
 a70:=Tryz.isAgg214
 z70:=Tryz.sizeOf214
 v70:=Tryz.zeroValue214
 t76:=Tryz.underlying228
 a76:=Tryz.isAgg228
 z76:=Tryz.sizeOf228
 v76:=Tryz.zeroValue228
 t77:=Tryz.underlying229
 a77:=Tryz.isAgg229
 z77:=Tryz.sizeOf229
 v77:=Tryz.zeroValue229 }
end Go.Proofs
namespace Go.Proofs
open Go.Shelf
def Tryz.lays189_ren:Go.Shelf.Ren:=⟨fun | 189=>200 | 125=>178 | 257=>229 | 128=>213 | 129=>214 | 294=>248 | 295=>249 | 296=>250 | 297=>251 | 298=>252 | 299=>253 | 216=>254 | 300=>255 | 301=>256 | 328=>262 | 329=>232 | 330=>233 | 331=>263 | 332=>264 | 215=>265 | 343=>267 | n=>n,fun | 28=>78 | 3=>3 | 46=>138 | 0=>0 | 51=>201 | 53=>203 | 4=>4 | 183=>194 | 182=>193 | 131=>198 | 5=>5 | 9=>9 | 218=>210 | 222=>214 | 228=>228 | 229=>229 | n=>n,fun | n=>n⟩
theorem Tryz.lays189:Go.Proofs.Lays.n189 Tryz.prog Tryz.lays189_ren:={
 mixed:=by kernel_rfl
 f125:=Tryz.func178.trans (congrArg some (by kernel_rfl))
 f128:=Tryz.func213.trans (congrArg some (by kernel_rfl))
 f129:=Tryz.func214.trans (congrArg some (by kernel_rfl))
 f189:=Tryz.func200.trans (congrArg some (by kernel_rfl))
 f215:=Tryz.func265.trans (congrArg some (by kernel_rfl))
 f216:=Tryz.func254.trans (congrArg some (by kernel_rfl))
 f257:=Tryz.func229.trans (congrArg some (by kernel_rfl))
 f294:=Tryz.func248.trans (congrArg some (by kernel_rfl))
 f295:=Tryz.func249.trans (congrArg some (by kernel_rfl))
 f296:=Tryz.func250.trans (congrArg some (by kernel_rfl))
 f297:=Tryz.func251.trans (congrArg some (by kernel_rfl))
 f298:=Tryz.func252.trans (congrArg some (by kernel_rfl))
 f299:=Tryz.func253.trans (congrArg some (by kernel_rfl))
 f300:=Tryz.func255.trans (congrArg some (by kernel_rfl))
 f301:=Tryz.func256.trans (congrArg some (by kernel_rfl))
 f328:=Tryz.func262.trans (congrArg some (by kernel_rfl))
 f329:=Tryz.func232.trans (congrArg some (by kernel_rfl))
 f330:=Tryz.func233.trans (congrArg some (by kernel_rfl))
 f331:=Tryz.func263.trans (congrArg some (by kernel_rfl))
 f332:=Tryz.func264.trans (congrArg some (by kernel_rfl))
 f343:=Tryz.func267.trans (congrArg some (by kernel_rfl))
 t0:=Tryz.underlying0
 a0:=Tryz.isAgg0
 z0:=Tryz.sizeOf0
 v0:=Tryz.zeroValue0
 t3:=Tryz.underlying3
 a3:=Tryz.isAgg3
 z3:=Tryz.sizeOf3
 v3:=Tryz.zeroValue3
 t4:=Tryz.underlying4
 a4:=Tryz.isAgg4
 z4:=Tryz.sizeOf4
 v4:=Tryz.zeroValue4
 t5:=Tryz.underlying5
 a5:=Tryz.isAgg5
 z5:=Tryz.sizeOf5
 v5:=Tryz.zeroValue5
 t9:=Tryz.underlying9
 a9:=Tryz.isAgg9
 z9:=Tryz.sizeOf9
 v9:=Tryz.zeroValue9
 t28:=Tryz.underlying78
 a28:=Tryz.isAgg78
 z28:=Tryz.sizeOf78
 v28:=Tryz.zeroValue78
 t46:=Tryz.underlying138
 a46:=Tryz.isAgg138
 z46:=Tryz.sizeOf138
 v46:=Tryz.zeroValue138
 t51:=Tryz.underlying201
 a51:=Tryz.isAgg201
 z51:=Tryz.sizeOf201
 v51:=Tryz.zeroValue201
 t53:=Tryz.underlying203
 a53:=Tryz.isAgg203
 z53:=Tryz.sizeOf203
 v53:=Tryz.zeroValue203
 t131:=Tryz.underlying198
 a131:=Tryz.isAgg198
 z131:=Tryz.sizeOf198
 v131:=Tryz.zeroValue198
 t182:=Tryz.underlying193
 a182:=Tryz.isAgg193
 z182:=Tryz.sizeOf193
 v182:=Tryz.zeroValue193
 t183:=Tryz.underlying194
 a183:=Tryz.isAgg194
 z183:=Tryz.sizeOf194
 v183:=Tryz.zeroValue194
 t218:=Tryz.underlying210
 a218:=Tryz.isAgg210
 z218:=Tryz.sizeOf210
 v218:=Tryz.zeroValue210
 t222:=Tryz.underlying214
 a222:=Tryz.isAgg214
 z222:=Tryz.sizeOf214
 v222:=Tryz.zeroValue214
 t228:=Tryz.underlying228
 a228:=Tryz.isAgg228
 z228:=Tryz.sizeOf228
 v228:=Tryz.zeroValue228
 t229:=Tryz.underlying229
 a229:=Tryz.isAgg229
 z229:=Tryz.sizeOf229
 v229:=Tryz.zeroValue229 }
end Go.Proofs
namespace Go.Proofs.SL
open Go
section
variable {δ:Type}
def insO (lt:δ→δ→Bool) (x:δ):List δ→List δ
 | []=>[x]
 | y::ys=>if lt y x then y::insO lt x ys else x::y::ys
def isort (lt:δ→δ→Bool) (l:List δ):List δ:=l.foldr (insO lt) []
theorem insO_perm (lt:δ→δ→Bool) (x:δ):∀ l:List δ,(insO lt x l).Perm (x::l)
 | []=>List.Perm.refl _
 | y::ys=>by
  unfold insO
  split
  ·exact ((insO_perm lt x ys).cons y).trans (List.Perm.swap x y ys)
  ·exact List.Perm.refl _
theorem isort_perm (lt:δ→δ→Bool):∀ l:List δ,(isort lt l).Perm l
 | []=>List.Perm.refl _
 | x::l=>(insO_perm lt x _).trans ((isort_perm lt l).cons x)
structure SW0 (lt:δ→δ→Bool):Prop where
 irrefl:∀ x,lt x x=false
 trans:∀ x y z,lt x y=true→lt y z=true→lt x z=true
 ntrans:∀ x y z,lt x y=false→lt y z=false→lt x z=false
theorem insO_sorted {lt:δ→δ→Bool} (h:SW0 lt) {x:δ}:∀ {l:List δ},l.Pairwise (fun a b=>lt b a=false)→(insO lt x l).Pairwise (fun a b=>lt b a=false)
 | [],_=>by unfold insO;simp
 | y::ys,hl=>by
  obtain ⟨h1,h2⟩:=List.pairwise_cons.1 hl
  unfold insO
  split
  ·rename_i hc
   refine List.pairwise_cons.2 ⟨fun z hz=>?_,insO_sorted h h2⟩
   rcases List.mem_cons.1 ((insO_perm lt x ys).mem_iff.1 hz) with rfl | hz
   ·cases hh:lt z y with
    | false=>rfl
    | true=>have:=h.trans _ _ _ hh hc;rw [h.irrefl] at this;cases this
   ·exact h1 z hz
  ·rename_i hc
   have hc:lt y x=false:=by simpa using hc
   refine List.pairwise_cons.2 ⟨fun z hz=>?_,hl⟩
   rcases List.mem_cons.1 hz with rfl | hz
   ·exact hc
   ·exact h.ntrans _ _ _ (h1 z hz) hc
theorem isort_sorted {lt:δ→δ→Bool} (h:SW0 lt):∀ l:List δ,(isort lt l).Pairwise (fun a b=>lt b a=false)
 | []=>List.Pairwise.nil
 | x::l=>insO_sorted h (isort_sorted h l)
theorem sorted_one {lt:δ→δ→Bool}:∀ {l m:List δ},l.Perm m→l.Pairwise (fun a b=>lt b a=false)→m.Pairwise (fun a b=>lt b a=false)→(∀ a b,a∈l→b∈l→lt a b=true∨lt b a=true∨a=b)→l=m
 | [],m,hp,_,_,_=>(List.nil_perm.1 hp).symm
 | a::l,m,hp,hl,hm,ht=>by
  match m,hp,hm with
  | [],hp,_=>exact absurd hp.length_eq (by simp)
  | b::m,hp,hm =>
   obtain ⟨l1,l2⟩:=List.pairwise_cons.1 hl
   obtain ⟨m1,m2⟩:=List.pairwise_cons.1 hm
   have e:a=b:=by
    rcases List.mem_cons.1 (hp.mem_iff.1 (List.mem_cons_self ..)) with e | ha
    ·exact e
    ·rcases List.mem_cons.1 (hp.mem_iff.2 (List.mem_cons_self ..)) with e | hb
     ·exact e.symm
     ·rcases ht a b (List.mem_cons_self ..) (List.mem_cons_of_mem _ hb) with h | h | h
      ·rw [m1 a ha] at h;cases h
      ·rw [l1 b hb] at h;cases h
      ·exact h
   subst e
   rw [sorted_one ((List.perm_cons a).1 hp) l2 m2 fun x y hx hy=>ht x y (List.mem_cons_of_mem _ hx) (List.mem_cons_of_mem _ hy)]
open Classical in
noncomputable def sortD (lt:δ→δ→Bool) (l:List δ):Option (List δ):=if l.length≤4294967296∧∀ a b,a∈l→b∈l→lt a b=true∨lt b a=true∨a=b then some (isort lt l) else none
theorem sortD_some {lt:δ→δ→Bool} {l r:List δ} (h:sortD lt l=some r):l.length≤4294967296∧(∀ a b,a∈l→b∈l→lt a b=true∨lt b a=true∨a=b)∧r=isort lt l:=by
 unfold sortD at h
 split at h
 ·rename_i hc;cases h;exact ⟨hc.1,hc.2,rfl⟩
 ·cases h
theorem sortD_eq {lt:δ→δ→Bool} {l:List δ} (h1:l.length≤4294967296) (h2:∀ a b,a∈l→b∈l→lt a b=true∨lt b a=true∨a=b):sortD lt l=some (isort lt l):=by
 unfold sortD;rw [if_pos ⟨h1,h2⟩]
end
section
variable {τ δ:Type} [GT τ δ]
theorem fp_perm {els ys:List τ} (h:ys.Perm els):(ys.flatMap GT.fp:List Nat).Perm (els.flatMap GT.fp):=h.flatMap_right _
theorem swO {lt:τ→τ→Bool} {ltD:δ→δ→Bool} (hlt:∀ x y,lt x y=ltD (GT.dat x) (GT.dat y)) (hD:SW0 ltD):Sort.SWO lt where
 irrefl x:=by rw [hlt];exact hD.irrefl _
 trans x y z h1 h2:=by rw [hlt] at *;exact hD.trans _ _ _ h1 h2
 ntrans x y z h1 h2:=by rw [hlt] at *;exact hD.ntrans _ _ _ h1 h2
end
theorem extract_all {α:Type} (X:Array α) (n:Nat) (h:X.size=n):X.extract 0 n=X:=by subst h;simp
section
variable {τ δ:Type} [Inhabited τ] [GT τ δ]
theorem rowCells_getO:∀ (ys:List τ) (t:Nat),t < ys.length*GT.sz τ→(rowCells ys)[t]?=(GT.cells (ys.toArray[t / GT.sz τ]!))[t % GT.sz τ]?
 | [],t,h=>by simp at h
 | y::ys,t,h=>by
  have hp:0 < GT.sz τ:=GT.pos
  have hl:(GT.cells y).length=GT.sz τ:=GT.len y
  rw [rowCells_cons]
  rcases Nat.lt_or_ge t (GT.sz τ) with ht | ht
  ·rw [List.getElem?_append_left (by omega),Nat.div_eq_of_lt ht,Nat.mod_eq_of_lt ht];rfl
  ·have h2:t - GT.sz τ < ys.length*GT.sz τ:=by rw [List.length_cons,Nat.add_mul] at h;omega
   rw [List.getElem?_append_right (by omega),hl,rowCells_getO ys _ h2,Nat.mod_eq_sub_mod ht,Nat.div_eq_sub_div hp ht]
   congr 2
   simp
theorem rowCells_flatO (ys:List τ):Sort.flatK (fun x:τ=>GT.cells x) (GT.sz τ) ys.toArray=(rowCells ys).toArray:=by
 have hs:(Sort.flatK (fun x:τ=>GT.cells x) (GT.sz τ) ys.toArray).size=(rowCells ys).toArray.size:=by rw [Sort.size_flatK];simp [length_rowCells]
 refine Sort.ext_get! hs fun t ht=>?_
 have ht':t < ys.toArray.size*GT.sz τ:=by simpa using ht
 have ht2:t < ys.length*GT.sz τ:=by simpa using ht'
 rw [Sort.get_flatK _ _ _ _ ht']
 have h1:=rowCells_getO ys t ht2
 simp only [Array.getElem!_eq_getD,Array.getD_eq_getD_getElem?,List.getElem?_toArray,List.getElem!_eq_getElem?_getD] at h1 ⊢
 rw [h1]
theorem sort_holdsO {w:World} {b:Nat} {e:TypeId} {els:List τ} {tail:List Value} (hb:w.heap[b]?=some (.cells (rowCells els++tail).toArray e (0,0))):Sort.HoldsK (fun x:τ=>GT.cells x) (GT.sz τ) w b 0 els.toArray:=by
 unfold Sort.HoldsK
 rw [rowCells_flatO]
 intro j hj
 have hj':j < (rowCells els).length:=by simpa using hj
 refine ⟨?_,by simp [World.frozen?,hb]⟩
 simp only [World.cell?,hb,Nat.zero_add]
 simp only [Option.isSome_none,Bool.false_eq_true,if_false]
 rw [List.getElem?_toArray,List.getElem?_append_left hj',List.getElem?_eq_getElem hj']
 rw [show (rowCells els).toArray[j]! = (rowCells els)[j] by simp [List.getElem?_eq_getElem hj']];rfl
theorem put_holdsO {w w':World} {b cap n:Nat} {e:TypeId} {els ys:List τ} {tail:List Value} {os:Array Obj}
  (hh:Holds w (fps [treeH (⟨some ⟨b,0,none⟩,cap,e,els,tail⟩:TL τ)]) [treeH (⟨some ⟨b,0,none⟩,cap,e,els,tail⟩:TL τ)] w) (hpm:ys.Perm els)
  (hw:w'=Go.Proofs.sortWorldK (fun x:τ=>GT.cells x) (GT.sz τ) w b 0 n ys.toArray os) :
  Holds w (fps [treeH (⟨some ⟨b,0,none⟩,cap,e,els,tail⟩:TL τ)]) [treeH (⟨some ⟨b,0,none⟩,cap,e,ys,tail⟩:TL τ)] w':=by
 have hlen:ys.length=els.length:=hpm.length_eq
 have ht:GT.ow w (⟨some ⟨b,0,none⟩,cap,e,els,tail⟩:TL τ):=hh.prs _ (List.mem_cons_self ..)
 obtain ⟨h1,h2,h3,h4,h5⟩:=ht
 dsimp only at h1 h2 h3 h4
 obtain ⟨_,_,hb,hl⟩:=h5 _ rfl
 dsimp only at hb hl
 unfold Go.Proofs.sortWorldK Sort.putRowK at hw
 rw [rowCells_flatO] at hw
 have hbl:b < w.heap.size:=(Array.getElem?_eq_some_iff.1 hb).1
 have hw':w'.heap[b]?=some (.cells (rowCells ys++tail).toArray e (0,0)):=by
  subst hw
  rw [Sort.heap_grow_old _ _ (by simpa [Sort.putRow,Sort.mapBlock,Sort.ahead] using hbl)]
  have hp:=put_cells id (rowCells ys) (rowCells els) tail (by rw [length_rowCells,length_rowCells,hlen])
  simp only [Sort.putRow,Sort.mapBlock,Sort.ahead,Array.getElem?_modify,hb,Sort.onCells,if_true,Option.map_some]
  rw [hp,List.map_id]
 have hoth:∀ k,k < w.heap.size→b≠k→w'.heap[k]?=w.heap[k]?:=fun k hk hkb=>by
  subst hw
  rw [Sort.heap_grow_old _ _ (by simpa [Sort.putRow,Sort.mapBlock,Sort.ahead] using hk)]
  simp [Sort.putRow,Sort.mapBlock,Sort.ahead,Array.getElem?_modify,hkb]
 have hsz:w.heap.size≤w'.heap.size:=by subst hw;simp [Sort.putRow,Sort.mapBlock,Sort.ahead]
 have e1:fps [treeH (⟨some ⟨b,0,none⟩,cap,e,els,tail⟩:TL τ)]=b::els.flatMap GT.fp:=by simp only [fps_cons];show ([b]++els.flatMap GT.fp)++fps []=_;simp [fps]
 have e2:fps [treeH (⟨some ⟨b,0,none⟩,cap,e,ys,tail⟩:TL τ)]=b::ys.flatMap GT.fp:=by simp only [fps_cons];show ([b]++ys.flatMap GT.fp)++fps []=_;simp [fps]
 have efp:(fps [treeH (⟨some ⟨b,0,none⟩,cap,e,ys,tail⟩:TL τ)]).Perm (fps [treeH (⟨some ⟨b,0,none⟩,cap,e,els,tail⟩:TL τ)]):=by rw [e1,e2];exact (fp_perm hpm).cons b
 have hnd:=hh.nodup
 rw [e1] at hnd
 refine ⟨by subst hw;rfl,⟨by subst hw;rfl,by subst hw;exact Nat.le_add_right _ _⟩,by subst hw;rfl,hsz,fun k hk hn=>hoth k hk fun e2=>?_,fun x hx=>?_,efp.nodup_iff.2 hh.nodup,fun k hk=>?_⟩
 ·subst e2;exact hn (by rw [e1];exact List.mem_cons_self ..)
 ·obtain rfl:=List.mem_singleton.1 hx
  refine ⟨by dsimp only;omega,h2,fun x hx=>?_,fun h=>(by cases h),fun a ha=>by cases ha;exact ⟨rfl,rfl,hw',by dsimp only;rw [hlen];exact hl⟩⟩
  have hxe:x∈els:=hpm.mem_iff.1 hx
  refine GT.ow_st (fun k hk=>?_) (h3 x hxe)
  have hm:k∈els.flatMap GT.fp:=List.mem_flatMap.2 ⟨x,hxe,hk⟩
  exact hoth k (hh.rng k (by rw [e1];exact List.mem_cons_of_mem _ hm)).2 fun e2=>(List.nodup_cons.1 hnd).1 (by rw [e2];exact hm)
 ·have hk2:=efp.mem_iff.1 hk
  exact ⟨(hh.rng k hk2).1,Nat.lt_of_lt_of_le (hh.rng k hk2).2 hsz⟩
theorem Spec.sortO {P:Program} {f:FuncId} {fv:Value} (w:World) (a0:TL τ) (lt:τ→τ→Bool) (ltD:δ→δ→Bool) (hlt:∀ x y,lt x y=ltD (GT.dat x) (GT.dat y)) (hD:SW0 ltD) (r:List δ) (hp:sortD ltD (GT.dat a0)=some r)
  (h:∀ (b off cap:Nat) (d:Array τ),Sort.HoldsK (fun x:τ=>GT.cells x) (GT.sz τ) w b off d→b < w.heap.size→b∈GT.fp a0→d.size < 4611686018427387904→Calls P f #[.slice (some ⟨b,off,none⟩) d.size cap,fv] w fun e w'=>e=.returned (.tuple #[])∧∃ n os,w'=Go.Proofs.sortWorldK (fun x:τ=>GT.cells x) (GT.sz τ) w b off n (Sort.pdq lt d 0 d.size (Lib.bitLen d.size) true true) os)
  (h0:∀ (p:Option Addr) (cap:Nat),Calls P f #[.slice p 0 cap,fv] w fun e w'=>e=.returned (.tuple #[])∧w'=w) :
  Spec P f #[a0.hdr,fv] w [treeH a0] (fun v M=>∃ y0:TL τ,v=.tuple #[]∧GT.dat y0=r∧M=[treeH y0]∧y0.hdr=a0.hdr):=by
 intro hh
 obtain ⟨hsz,htot,rfl⟩:=sortD_some hp
 have hd:GT.dat a0=a0.els.map GT.dat:=rfl
 rw [hd,List.length_map] at hsz
 have hO:=swO hlt hD
 have hps:=Sort.pdq_sorts lt hO a0.els.toArray 0 a0.els.toArray.size (Lib.bitLen a0.els.length) true true (Nat.zero_le _) (Nat.le_refl _) (Or.inl rfl)
 have hperm:(Sort.pdq lt a0.els.toArray 0 a0.els.length (Lib.bitLen a0.els.length) true true).toList.Perm a0.els:=by
  have h1:=hps.1.2.2
  have h2:=hps.1.1
  simp only [List.size_toArray] at h1 h2
  rw [extract_all _ _ h2,extract_all _ _ (by simp)] at h1
  simpa using h1
 have hsorted:((Sort.pdq lt a0.els.toArray 0 a0.els.length (Lib.bitLen a0.els.length) true true).toList.map GT.dat).Pairwise (fun a b=>ltD b a=false):=by
  rw [List.pairwise_map,List.pairwise_iff_getElem]
  intro i j hi hj hij
  have h2:=hps.2 i j (Nat.zero_le _) hij (by have:=hperm.length_eq;rw [List.size_toArray];omega)
  rw [List.size_toArray] at h2
  rw [hlt] at h2
  have hi':i < (Sort.pdq lt a0.els.toArray 0 a0.els.length (Lib.bitLen a0.els.length) true true).size:=by simpa using hi
  have hj':j < (Sort.pdq lt a0.els.toArray 0 a0.els.length (Lib.bitLen a0.els.length) true true).size:=by simpa using hj
  rw [getElem!_pos _ i hi',getElem!_pos _ j hj'] at h2
  simpa using h2
 have hres:(Sort.pdq lt a0.els.toArray 0 a0.els.length (Lib.bitLen a0.els.length) true true).toList.map GT.dat=isort ltD (GT.dat a0) :=
  sorted_one ((hperm.map GT.dat).trans (isort_perm ltD _).symm) hsorted (isort_sorted hD _) fun a b ha hb=>htot a b ((hperm.map GT.dat).mem_iff.1 ha) ((hperm.map GT.dat).mem_iff.1 hb)
 rcases own_cases hh with ⟨e,tail,rfl⟩ | ⟨b,cap,e,els,tail,rfl,h1,hl,hb,hbl⟩
 ·refine (h0 none 0).mono fun e' w' ⟨he,hw⟩=>?_
  subst hw
  refine ⟨_,_,he,⟨⟨none,0,e,[],tail⟩,rfl,rfl,rfl,rfl⟩,hh⟩
 ·dsimp only at hsz hperm hsorted hres
  have:=h b 0 cap els.toArray (sort_holdsO hb) hbl (by show b∈[b]++_;simp) (by simp;omega)
  rw [List.size_toArray] at this
  generalize Sort.pdq lt els.toArray 0 els.length (Lib.bitLen els.length) true true=ys at this hperm hres
  refine this.mono fun e' w' ⟨he,n,os,hw⟩=>⟨_,_,he,⟨⟨some ⟨b,0,none⟩,cap,e,ys.toList,tail⟩,rfl,hres,rfl,?_⟩,put_holdsO (n:=n) (os:=os) hh hperm hw⟩
  show Value.slice _ ys.toList.length _=Value.slice _ els.length _
  rw [hperm.length_eq]
end
end Go.Proofs.SL
namespace Go.Proofs.SL
open Go
theorem grown_of {W w':World} {M:List HP} (h:Holds W [] M w'):∃ q os',w'=Sort.grow (W.drewN q) os':=by
 refine ⟨w'.drawn - W.drawn,w'.heap.extract W.heap.size w'.heap.size,?_⟩
 have hh:w'.heap=W.heap++w'.heap.extract W.heap.size w'.heap.size:=by
  apply Array.ext_getElem?
  intro i
  rcases Nat.lt_or_ge i W.heap.size with hi | hi
  ·rw [Array.getElem?_append_left hi];exact h.old i hi (by simp)
  ·rw [Array.getElem?_append_right hi]
   rcases Nat.lt_or_ge i w'.heap.size with h2 | h2
   ·rw [Array.getElem?_extract,if_pos (by rw [Nat.min_self];omega),show W.heap.size+(i - W.heap.size)=i by omega]
   ·rw [Array.getElem?_eq_none h2,Array.getElem?_eq_none (by simp;omega)]
 have hd:=h.tape.2
 cases w' with
 | mk heap tape drawn os output =>
  have h1:=h.os
  have h2:=h.tape.1
  have h3:=h.output
  dsimp only at h1 h2 h3 hd hh ⊢
  unfold Sort.grow World.drewN
  dsimp only
  rw [← hh,h1,h2,h3,show W.drawn+(drawn - W.drawn)=drawn by omega]
section
variable {τ δ:Type} [Inhabited τ] [GT τ δ]
theorem Spec.sortC {P:Program} {f g:FuncId} (w:World) (a0:TL τ) (cs:List Value) (cfD:δ→δ→Int) (hD:SW0 (fun x y=>decide (cfD x y < 0))) (r:List δ) (hp:sortD (fun x y=>decide (cfD x y < 0)) (GT.dat a0)=some r)
  (hk:∀ (w':World) (F:List HP) (x y:τ),Holds w (fps [treeH a0]) F w'→Spec P g ([Value.agg (GT.cells x).toArray,Value.agg (GT.cells y).toArray]++cs).toArray w' [] (IsV (.int .i64 (cfD (GT.dat x) (GT.dat y)))))
  (hs:∀ (b off cap:Nat) (d:Array τ),Sort.SWO (Go.Proofs.ltOf fun x y:τ=>cfD (GT.dat x) (GT.dat y))→Go.Proofs.CmpLays P g cs.toArray (fun x:τ=>GT.cells x) (GT.sz τ) (fun x y=>cfD (GT.dat x) (GT.dat y)) b off d.size w→Sort.HoldsK (fun x:τ=>GT.cells x) (GT.sz τ) w b off d→b < w.heap.size→d.size < 4611686018427387904 →
   Calls P f #[.slice (some ⟨b,off,none⟩) d.size cap,.func (.func g) #[] cs.toArray] w fun e w'=>e=.returned (.tuple #[])∧∃ n os,w'=Go.Proofs.sortWorldK (fun x:τ=>GT.cells x) (GT.sz τ) w b off n (Sort.pdq (Go.Proofs.ltOf fun x y:τ=>cfD (GT.dat x) (GT.dat y)) d 0 d.size (Lib.bitLen d.size) true true) os)
  (h0:∀ (p:Option Addr) (cap:Nat),Calls P f #[.slice p 0 cap,.func (.func g) #[] cs.toArray] w fun e w'=>e=.returned (.tuple #[])∧w'=w) :
  Spec P f #[a0.hdr,.func (.func g) #[] cs.toArray] w [treeH a0] (fun v M=>∃ y0:TL τ,v=.tuple #[]∧GT.dat y0=r∧M=[treeH y0]∧y0.hdr=a0.hdr):=by
 intro hh
 refine Spec.sortO w a0 (Go.Proofs.ltOf fun x y:τ=>cfD (GT.dat x) (GT.dat y)) (fun x y=>decide (cfD x y < 0)) (fun x y=>rfl) hD r hp (fun b off cap d hH hb hba hsz=>?_) h0 hh
 have hO:Sort.SWO (Go.Proofs.ltOf fun x y:τ=>cfD (GT.dat x) (GT.dat y)):=swO (fun x y=>rfl) hD
 refine hs b off cap d hO (fun m os dk hdk x y=>?_) hH hb hsz
 obtain ⟨bh,hbh⟩:∃ o,w.heap[b]?=some o:=⟨_,Array.getElem?_eq_getElem hb⟩
 have hW:Holds w (fps [treeH a0]) [] (Go.Proofs.sortWorldK (fun x:τ=>GT.cells x) (GT.sz τ) w b off m dk os):=by
  rcases own_cases hh with ⟨e,tail,rfl⟩ | ⟨b',cap',e,els,tail,rfl,_,_,hb',_⟩
  ·exact absurd hba (by show ¬ b∈([]++[]);simp)
  ·unfold Go.Proofs.sortWorldK Sort.putRowK
   refine ⟨rfl,⟨rfl,Nat.le_add_right _ _⟩,rfl,by simp [Sort.putRow,Sort.mapBlock,Sort.ahead],fun k hk' hn=>?_,fun x hx=>(by cases hx),by simp [fps],fun k hk'=>by simp [fps] at hk'⟩
   have hkb:b≠k:=fun e2=>hn (by rw [← e2];simp only [fps_cons];exact List.mem_append_left _ hba)
   rw [Sort.heap_grow_old _ _ (by simpa [Sort.putRow,Sort.mapBlock,Sort.ahead] using hk')]
   simp [Sort.putRow,Sort.mapBlock,Sort.ahead,Array.getElem?_modify,hkb]
 have hc:=hk _ [] x y hW
 have h0':Holds (Go.Proofs.sortWorldK (fun x:τ=>GT.cells x) (GT.sz τ) w b off m dk os) (fps []) [] (Go.Proofs.sortWorldK (fun x:τ=>GT.cells x) (GT.sz τ) w b off m dk os):=⟨rfl,⟨rfl,Nat.le_refl _⟩,rfl,Nat.le_refl _,fun _ _ _=>rfl,fun x hx=>(by cases hx),by simp [fps],fun k hk=>by simp [fps] at hk⟩
 have hargs:(([Value.agg (GT.cells x).toArray,Value.agg (GT.cells y).toArray]++cs:List Value)).toArray=#[Value.agg (GT.cells x).toArray,Value.agg (GT.cells y).toArray]++cs.toArray:=by simp
 rw [← hargs]
 refine (hc h0').mono fun e w' ⟨v,M',h1,h2,h3⟩=>?_
 obtain ⟨h4,_⟩:=h2
 subst h4
 exact ⟨h1,grown_of h3⟩
open Classical in
noncomputable def sortFn {δ:Type} (l:List δ) (f:δ→δ→Option Int):Option (List δ):=if (∀ x y,∃ v,f x y=some v)∧SW0 (fun x y=>decide ((f x y).getD 0 < 0)) then sortD (fun x y=>decide ((f x y).getD 0 < 0)) l else none
theorem Spec.sortN {P:Program} {f g:FuncId} (w:World) (a0:TL τ) (cs:List Value) (a1:δ→δ→Option Int) (r:List δ) (hp:sortFn (GT.dat a0) a1=some r)
  (hk:∀ (w':World) (F:List HP) (x y:τ) (v:Int),Holds w (fps [treeH a0]) F w'→a1 (GT.dat x) (GT.dat y)=some v→Spec P g ([Value.agg (GT.cells x).toArray,Value.agg (GT.cells y).toArray]++cs).toArray w' [] (IsV (.int .i64 v)))
  (hs:∀ (b off cap:Nat) (d:Array τ),Sort.SWO (Go.Proofs.ltOf fun x y:τ=>(a1 (GT.dat x) (GT.dat y)).getD 0)→Go.Proofs.CmpLays P g cs.toArray (fun x:τ=>GT.cells x) (GT.sz τ) (fun x y=>(a1 (GT.dat x) (GT.dat y)).getD 0) b off d.size w→Sort.HoldsK (fun x:τ=>GT.cells x) (GT.sz τ) w b off d→b < w.heap.size→d.size < 4611686018427387904 →
   Calls P f #[.slice (some ⟨b,off,none⟩) d.size cap,.func (.func g) #[] cs.toArray] w fun e w'=>e=.returned (.tuple #[])∧∃ n os,w'=Go.Proofs.sortWorldK (fun x:τ=>GT.cells x) (GT.sz τ) w b off n (Sort.pdq (Go.Proofs.ltOf fun x y:τ=>(a1 (GT.dat x) (GT.dat y)).getD 0) d 0 d.size (Lib.bitLen d.size) true true) os)
  (h0:∀ (p:Option Addr) (cap:Nat),Calls P f #[.slice p 0 cap,.func (.func g) #[] cs.toArray] w fun e w'=>e=.returned (.tuple #[])∧w'=w) :
  Spec P f #[a0.hdr,.func (.func g) #[] cs.toArray] w [treeH a0] (fun v M=>∃ y0:TL τ,v=.tuple #[]∧GT.dat y0=r∧M=[treeH y0]∧y0.hdr=a0.hdr):=by
 unfold sortFn at hp
 split at hp
 ·rename_i hc
  refine Spec.sortC w a0 cs (fun x y=>(a1 x y).getD 0) hc.2 r hp (fun w' F x y hF=>?_) hs h0
  obtain ⟨v,hv⟩:=hc.1 (GT.dat x) (GT.dat y)
  rw [hv]
  exact hk w' F x y v hF hv
 ·cases hp
end
end Go.Proofs.SL
namespace Go.Proofs.SL
open Go
set_option maxHeartbeats 2000000
abbrev D_Cmd:=Int×Int×Int×ByteArray×ByteArray×ByteArray×Int×(List ByteArray)
instance el36:ElF Tryz.prog 36 9 1 16 [.string ByteArray.empty]:=⟨by kernel_rfl⟩
instance one9:OneF Tryz.prog 9:=⟨by kernel_rfl⟩
instance fld38_0:FldF Tryz.prog 38 0 0:=⟨by kernel_rfl⟩
instance one3:OneF Tryz.prog 3:=⟨by kernel_rfl⟩
instance fld38_1:FldF Tryz.prog 38 1 1:=⟨by kernel_rfl⟩
instance fld38_2:FldF Tryz.prog 38 2 2:=⟨by kernel_rfl⟩
instance fld38_3:FldF Tryz.prog 38 3 3:=⟨by kernel_rfl⟩
instance fld38_4:FldF Tryz.prog 38 4 4:=⟨by kernel_rfl⟩
instance fld38_5:FldF Tryz.prog 38 5 5:=⟨by kernel_rfl⟩
instance fld38_6:FldF Tryz.prog 38 6 6:=⟨by kernel_rfl⟩
instance fld38_7:FldF Tryz.prog 38 7 7:=⟨by kernel_rfl⟩
instance one36:OneF Tryz.prog 36:=⟨by kernel_rfl⟩
instance fn44:FnF Tryz.prog 44:=⟨_,Tryz.func44,by kernel_rfl,rfl⟩
instance str9:StrF Tryz.prog 9:=⟨by kernel_rfl⟩
instance fn83:FnF Tryz.prog 83:=⟨_,Tryz.func83,by kernel_rfl,rfl⟩
instance fn132:FnF Tryz.prog 132:=⟨_,Tryz.func132,by kernel_rfl,rfl⟩
instance agg38:AggF Tryz.prog 38 8:=⟨by kernel_rfl⟩
instance bld38:BldF Tryz.prog 38 [(0,1),(1,1),(2,1),(3,1),(4,1),(5,1),(6,1),(7,1)] [.int .i64 0,.int .i64 0,.int .i64 0,.string ByteArray.empty,.string ByteArray.empty,.string ByteArray.empty,.int .i64 0,.slice none 0 0]:=⟨by kernel_rfl⟩
instance fn19:FnF Tryz.prog 19:=⟨_,Tryz.func19,by kernel_rfl,rfl⟩
instance fn84:FnF Tryz.prog 84:=⟨_,Tryz.func84,by kernel_rfl,rfl⟩
instance fn193:FnF Tryz.prog 193:=⟨_,Tryz.func193,by kernel_rfl,rfl⟩
instance fn194:FnF Tryz.prog 194:=⟨_,Tryz.func194,by kernel_rfl,rfl⟩
instance fn161:FnF Tryz.prog 161:=⟨_,Tryz.func161,by kernel_rfl,rfl⟩
instance fn162:FnF Tryz.prog 162:=⟨_,Tryz.func162,by kernel_rfl,rfl⟩
instance fn163:FnF Tryz.prog 163:=⟨_,Tryz.func163,by kernel_rfl,rfl⟩
noncomputable def s_l4Texts (a0:List ByteArray) (a1:List ByteArray):Option Bool :=
 cond (!decide ((a0.length:Int)=(a1.length:Int))) (some false) (whileP (fun s2:Int=>cond (decide (s2 < (a0.length:Int))) (Option.bind (idx a0 s2) (fun y4=>Option.bind (idx a1 s2) (fun y5=>cond (!decide (y4=y5)) (Option.map .inr (some false)) (some (.inl (IntKind.wrap .i64 (s2+1))))))) (Option.map .inr (some true))) 0)
theorem s_l4Texts_walk (w:World) (a0:TL ByteArray) (a1:TL ByteArray) (h0:GT.rd w [] a0) (h1:GT.rd w [] a1) (r:Bool) (hp:s_l4Texts (GT.dat a0) (GT.dat a1)=some r):Spec Tryz.prog 44 [(TL.hdr a0),(TL.hdr a1)].toArray w [] (IsV (.bool r)):=by
 refine Spec.intro Tryz.func44 rfl Tryz.ntmps44 rfl ?_
 unfold s_l4Texts at hp
 replace hp:=dd hp
 refine s13 ?_
 refine kp [0,1,10] ?_
 refine W_cond rfl (fun q1=>?_) (fun q1=>?_)
 ·replace hp:=cond_t q1 hp
  refine s4 ?_
  obtain rfl:=sj hp
  refine s1 ?_
  refine res1 rfl (ResOK.tmp rfl) ⟨rfl,rfl⟩ ms
 ·replace hp:=cond_f q1 hp
  refine s7 ?_
  refine W_while (σ:=Int) GT.dat (fun (v2_0:Int)=>[(5,.int .i64 v2_0)]) (fun (v2_0:Int)=>[]) [(0,_),(1,_)] [] 0 hp sb ms ?_
  clear hp
  rintro v2_0 x2 hp hx2
  replace hp:=dd hp
  refine kq [0,1,5] ?_
  refine s8 ?_
  refine kp [0,1,5,14] ?_
  refine W_cond rfl (fun q3=>?_) (fun q3=>?_)
  ·replace hp:=cond_t q3 hp
   refine s4 ?_
   replace hp:=idx_bind hp;obtain ⟨u4,hy4,hp⟩:=hp
   replace hp:=idx_bind hp;obtain ⟨u5,hy5,hp⟩:=hp
   refine W_D0 [25] mix (by kernel_rfl) rfl ?_
   refine s2 ?_
   refine D_idxA (X:=a0) GC.none (OpV.t rfl) (OpV.t rfl) el36.h (RdT.old h0) (fun _=>hy4) ?_
   refine D_load0 GC.none (OpV.t rfl) (fun hg=>RdT.at (RdT.old h0) (hy4).2) one9.h rfl ?_
   refine s2 ?_
   refine D_idxA (X:=a1) GC.none (OpV.t rfl) (OpV.t rfl) el36.h (RdT.old h1) (fun _=>hy5) ?_
   refine D_load0 GC.none (OpV.t rfl) (fun hg=>RdT.at (RdT.old h1) (hy5).2) one9.h rfl ?_
   refine s12 ?_
   refine kp [0,1,5,25] ?_
   refine W_cond rfl (fun q6=>?_) (fun q6=>?_)
   ·replace hp:=cond_t q6 hp
    refine s4 ?_
    replace hp:=map_any hp;obtain ⟨a7,hp,z_7⟩:=hp
    obtain rfl:=hx2 _ z_7
    obtain rfl:=sj hp
    refine s1 ?_
    refine res1 rfl (ResOK.tmp rfl) ⟨rfl,rfl⟩ ms
   ·replace hp:=cond_f q6 hp
    refine s6 ?_
    exact ⟨IntKind.wrap .i64 (v2_0+1),sb,(.sub ms),some_eq hp⟩
  ·replace hp:=cond_f q3 hp
   refine W_exit ?_
   replace hp:=map_any hp;obtain ⟨a8,hp,z_8⟩:=hp
   obtain rfl:=hx2 _ z_8
   refine s4 ?_
   obtain rfl:=sj hp
   refine s1 ?_
   refine res1 rfl (ResOK.tmp rfl) ⟨rfl,rfl⟩ ms
noncomputable def s_SameCmd (a0:D_Cmd) (a1:D_Cmd):Option Bool :=
 gb (((((((decide (a0.1=a1.1))&&(decide (a0.2.1=a1.2.1)))&&(decide (a0.2.2.1=a1.2.2.1)))&&(decide (a0.2.2.2.1=a1.2.2.2.1)))&&(decide (a0.2.2.2.2.1=a1.2.2.2.2.1)))&&(decide (a0.2.2.2.2.2.1=a1.2.2.2.2.2.1)))&&(decide (a0.2.2.2.2.2.2.1=a1.2.2.2.2.2.2.1))) (s_l4Texts a0.2.2.2.2.2.2.2 a1.2.2.2.2.2.2.2) (fun y1=>some ((((((((decide (a0.1=a1.1))&&(decide (a0.2.1=a1.2.1)))&&(decide (a0.2.2.1=a1.2.2.1)))&&(decide (a0.2.2.2.1=a1.2.2.2.1)))&&(decide (a0.2.2.2.2.1=a1.2.2.2.2.1)))&&(decide (a0.2.2.2.2.2.1=a1.2.2.2.2.2.1)))&&(decide (a0.2.2.2.2.2.2.1=a1.2.2.2.2.2.2.1)))&&y1))
theorem s_SameCmd_walk (w:World) (a0:T_Cmd) (a1:T_Cmd) (h0:GT.rd w [] a0) (h1:GT.rd w [] a1) (r:Bool) (hp:s_SameCmd (GT.dat a0) (GT.dat a1)=some r):Spec Tryz.prog 19 [.agg (GT.cells a0).toArray,.agg (GT.cells a1).toArray].toArray w [] (IsV (.bool r)):=by
 obtain ⟨a0_1,a0_2,a0_3,a0_4,a0_5,a0_6,a0_7,a0_8⟩:=a0
 obtain ⟨a1_1,a1_2,a1_3,a1_4,a1_5,a1_6,a1_7,a1_8⟩:=a1
 change Spec _ _ ([Value.agg #[.int .i64 a0_1,.int .i64 a0_2,.int .i64 a0_3,.string a0_4,.string a0_5,.string a0_6,.int .i64 a0_7,(TL.hdr a0_8)],Value.agg #[.int .i64 a1_1,.int .i64 a1_2,.int .i64 a1_3,.string a1_4,.string a1_5,.string a1_6,.int .i64 a1_7,(TL.hdr a1_8)]]:List Value).toArray w [] _
 refine Spec.intro Tryz.func19 rfl Tryz.ntmps19 rfl ?_
 unfold s_SameCmd at hp
 replace hp:=dd hp
 refine s2 ?_
 refine bx fun bk2=>?_
 refine bx fun bk3=>?_
 refine s3 ?_
 replace hp:=gb_any hp;obtain ⟨y1,hy1,hp⟩:=hp
 refine W_D0 [4] mix (by kernel_rfl) rfl ?_
 refine s20 ?_
 refine s20 ?_
 refine s12 ?_
 refine D_callX (GC.some rfl rfl) fn44.h (OpVs.cons (OpV.s rfl) (OpVs.cons (OpV.s rfl) (OpVs.nil))) (by exact fun hg w F hF hM=>s_l4Texts_walk w a0_8 a1_8 (RdT.nowS (RdT.old h0.2.2.2.2.2.2.2) hF hM) (RdT.nowS (RdT.old h1.2.2.2.2.2.2.2) hF hM) _ (hy1 hg.2)) ?_
 refine s20 ?_
 refine s20 ?_
 refine s19 ?_
 obtain rfl:=sj hp
 refine s1 ?_
 refine res1 rfl (ResOK.tmp rfl) ⟨rfl,rfl⟩ ms
noncomputable def s_l4Word (a0:ByteArray):Option Bool :=
 Option.bind (s_l1In (a0.size:Int) 1 8) (fun y1=>cond (!y1) (some false) (whileP (fun s3:Int=>cond (decide (s3 < (a0.size:Int))) (Option.bind (sidx a0 s3) (fun y5=>gb (!(decide (y5 < 97))) (sidx a0 s3) (fun y6=>cond ((decide (y5 < 97))||(decide (122 < y6))) (Option.map .inr (some false)) (some (.inl (IntKind.wrap .i64 (s3+1))))))) (Option.map .inr (some true))) 0))
theorem s_l4Word_walk (w:World) (a0:ByteArray)  (r:Bool) (hp:s_l4Word a0=some r):Spec Tryz.prog 132 [.string a0].toArray w [] (IsV (.bool r)):=by
 refine Spec.intro Tryz.func132 rfl Tryz.ntmps132 rfl ?_
 unfold s_l4Word at hp
 replace hp:=dd hp
 refine s9 ?_
 replace hp:=ba hp;obtain ⟨y1,hy1,hp⟩:=hp
 refine L_callX rfl fn83.h rfl (by exact fun w hw=>s_l1In_walk w (a0.size:Int) 1 8  _ hy1) ?_
 refine s2 ?_
 refine kp [0,7] ?_
 refine W_cond rfl (fun q2=>?_) (fun q2=>?_)
 ·replace hp:=cond_t q2 hp
  refine s4 ?_
  obtain rfl:=sj hp
  refine s1 ?_
  refine res1 rfl (ResOK.tmp rfl) ⟨rfl,rfl⟩ ms
 ·replace hp:=cond_f q2 hp
  refine s7 ?_
  refine W_while (σ:=Int) GT.dat (fun (v3_0:Int)=>[(3,.int .i64 v3_0)]) (fun (v3_0:Int)=>[]) [(0,_)] [] 0 hp sb ms ?_
  clear hp
  rintro v3_0 x3 hp hx3
  replace hp:=dd hp
  refine kq [0,3] ?_
  refine s8 ?_
  refine kp [0,3,11] ?_
  refine W_cond rfl (fun q4=>?_) (fun q4=>?_)
  ·replace hp:=cond_t q4 hp
   refine s4 ?_
   replace hp:=ba hp;obtain ⟨y5,hy5,hp⟩:=hp
   replace hp:=gb_any hp;obtain ⟨y6,hy6,hp⟩:=hp
   refine W_D0 [23] mix (by kernel_rfl) rfl ?_
   refine s2 ?_
   refine D_idxS GC.none (OpV.t rfl) (OpV.t rfl) str9.h (fun hg=>hy5) ?_
   refine s4 ?_
   refine D_idxS (GC.some rfl rfl) (OpV.s rfl) (OpV.s rfl) str9.h (fun hg=>(hy6 (gnot hg.2))) ?_
   refine s14 ?_
   refine kp [0,3,23] ?_
   refine W_cond rfl (fun q7=>?_) (fun q7=>?_)
   ·replace hp:=cond_t q7 hp
    refine s4 ?_
    replace hp:=map_any hp;obtain ⟨a8,hp,z_8⟩:=hp
    obtain rfl:=hx3 _ z_8
    obtain rfl:=sj hp
    refine s1 ?_
    refine res1 rfl (ResOK.tmp rfl) ⟨rfl,rfl⟩ ms
   ·replace hp:=cond_f q7 hp
    refine s6 ?_
    exact ⟨IntKind.wrap .i64 (v3_0+1),sb,(.sub ms),some_eq hp⟩
  ·replace hp:=cond_f q4 hp
   refine W_exit ?_
   replace hp:=map_any hp;obtain ⟨a9,hp,z_9⟩:=hp
   obtain rfl:=hx3 _ z_9
   refine s4 ?_
   obtain rfl:=sj hp
   refine s1 ?_
   refine res1 rfl (ResOK.tmp rfl) ⟨rfl,rfl⟩ ms
noncomputable def s_l4May (a0:ByteArray) (a1:Bool):Option Bool :=
 cond a1 (Option.bind (s_l4Word a0) (fun y2=>some y2)) (some (decide (a0=ByteArray.empty)))
theorem s_l4May_walk (w:World) (a0:ByteArray) (a1:Bool)  (r:Bool) (hp:s_l4May a0 a1=some r):Spec Tryz.prog 84 [.string a0,.bool a1].toArray w [] (IsV (.bool r)):=by
 refine Spec.intro Tryz.func84 rfl Tryz.ntmps84 rfl ?_
 unfold s_l4May at hp
 replace hp:=dd hp
 refine s9 ?_
 refine kp [0,5] ?_
 refine W_cond rfl (fun q1=>?_) (fun q1=>?_)
 ·replace hp:=cond_t q1 hp
  refine s3 ?_
  replace hp:=ba hp;obtain ⟨y2,hy2,hp⟩:=hp
  refine L_callX rfl fn132.h rfl (by exact fun w hw=>s_l4Word_walk w a0  _ hy2) ?_
  refine s2 ?_
  obtain rfl:=sj hp
  refine s1 ?_
  refine res1 rfl (ResOK.tmp rfl) ⟨rfl,rfl⟩ ms
 ·replace hp:=cond_f q1 hp
  refine s7 ?_
  obtain rfl:=sj hp
  refine s1 ?_
  refine res1 rfl (ResOK.tmp rfl) ⟨rfl,rfl⟩ ms
noncomputable def s_CmdOk (a0:D_Cmd):Option Bool :=
 Option.bind (s_l1In a0.1 0 7) (fun y1=>cond (!y1) (some false) (cond (decide (a0.1=0)) (Option.bind (s_SameCmd (a0.1,a0.2.1,a0.2.2.1,a0.2.2.2.1,a0.2.2.2.2.1,a0.2.2.2.2.2.1,a0.2.2.2.2.2.2.1,a0.2.2.2.2.2.2.2) (0,0,0,ByteArray.empty,ByteArray.empty,ByteArray.empty,0,([]:List ByteArray))) (fun y4=>some y4)) (Option.bind (s_l1In a0.2.1 1 9) (fun y5=>gb (!(!y5)) (s_l1In a0.2.2.1 1 1000) (fun y6=>gb (!((!y5)||(!y6))) (s_l4May a0.2.2.2.1 (!decide (a0.1=7))) (fun y7=>gb (!(((!y5)||(!y6))||(!y7))) (s_l4May a0.2.2.2.2.1 ((decide (a0.1=3))||(decide (a0.1=4)))) (fun y8=>gb (!((((!y5)||(!y6))||(!y7))||(!y8))) (s_l4May a0.2.2.2.2.2.1 (decide (a0.1=4))) (fun y9=>gb (((!(((((!y5)||(!y6))||(!y7))||(!y8))||(!y9)))&&(!decide (a0.2.2.2.2.2.2.1=0)))&&(!(!decide (a0.1=5)))) (s_l1In a0.2.2.2.2.2.2.1 0 9) (fun y10=>cond ((((((!y5)||(!y6))||(!y7))||(!y8))||(!y9))||((!decide (a0.2.2.2.2.2.2.1=0))&&((!decide (a0.1=5))||(!y10)))) (some false) (cond (!decide (a0.1=3)) (some (decide ((a0.2.2.2.2.2.2.2.length:Int)=0))) (Option.bind (s_l1In (a0.2.2.2.2.2.2.2.length:Int) 1 4) (fun y13=>cond (!y13) (some false) (whileP (fun s15:Int=>cond (decide (s15 < (a0.2.2.2.2.2.2.2.length:Int))) (Option.bind (idx a0.2.2.2.2.2.2.2 s15) (fun y17=>cond (!decide ((y17.size:Int)=8)) (Option.map .inr (some false)) (some (.inl (IntKind.wrap .i64 (s15+1)))))) (Option.map .inr (some true))) 0)))))))))))))
theorem s_CmdOk_walk (w:World) (a0:T_Cmd) (h0:GT.rd w [] a0) (r:Bool) (hp:s_CmdOk (GT.dat a0)=some r):Spec Tryz.prog 38 [.agg (GT.cells a0).toArray].toArray w [] (IsV (.bool r)):=by
 obtain ⟨a0_1,a0_2,a0_3,a0_4,a0_5,a0_6,a0_7,a0_8⟩:=a0
 change Spec _ _ ([Value.agg #[.int .i64 a0_1,.int .i64 a0_2,.int .i64 a0_3,.string a0_4,.string a0_5,.string a0_6,.int .i64 a0_7,(TL.hdr a0_8)]]:List Value).toArray w [] _
 refine Spec.intro Tryz.func38 rfl Tryz.ntmps38 rfl ?_
 unfold s_CmdOk at hp
 replace hp:=dd hp
 refine s2 ?_
 refine bx fun bk1=>?_
 refine s7 ?_
 replace hp:=ba hp;obtain ⟨y1,hy1,hp⟩:=hp
 refine L_callX rfl fn83.h rfl (by exact fun w hw=>s_l1In_walk w a0_1 0 7  _ hy1) ?_
 refine s2 ?_
 refine kp [1,8] ?_
 refine W_cond rfl (fun q2=>?_) (fun q2=>?_)
 ·replace hp:=cond_t q2 hp
  refine s4 ?_
  obtain rfl:=sj hp
  refine s1 ?_
  refine res1 rfl (ResOK.tmp rfl) ⟨rfl,rfl⟩ ms
 ·replace hp:=cond_f q2 hp
  refine s8 ?_
  refine kp [1,11] ?_
  refine W_cond rfl (fun q3=>?_) (fun q3=>?_)
  ·replace hp:=cond_t q3 hp
   refine s3 ?_
   refine L_build (xs:=[]) (cs:=[.int .i64 0,.int .i64 0,.int .i64 0,.string ByteArray.empty,.string ByteArray.empty,.string ByteArray.empty,.int .i64 0,(TL.hdr (TL.nil ByteArray 0))]) rfl rfl bld38.h rfl ?_
   replace hp:=ba hp;obtain ⟨y4,hy4,hp⟩:=hp
   refine L_callX rfl fn19.h rfl (by exact fun w hw=>s_SameCmd_walk w (a0_1,a0_2,a0_3,a0_4,a0_5,a0_6,a0_7,a0_8) (0,0,0,ByteArray.empty,ByteArray.empty,ByteArray.empty,0,(TL.nil ByteArray 0)) (RdT.now (RdT.pair RdT.int (RdT.pair RdT.int (RdT.pair RdT.int (RdT.pair RdT.str (RdT.pair RdT.str (RdT.pair RdT.str (RdT.pair RdT.int (RdT.old h0.2.2.2.2.2.2.2)))))))) hw) (RdT.now (RdT.pair RdT.int (RdT.pair RdT.int (RdT.pair RdT.int (RdT.pair RdT.str (RdT.pair RdT.str (RdT.pair RdT.str (RdT.pair RdT.int (RdT.nil 0)))))))) hw) _ hy4) ?_
   refine s2 ?_
   obtain rfl:=sj hp
   refine s1 ?_
   refine res1 rfl (ResOK.tmp rfl) ⟨rfl,rfl⟩ ms
  ·replace hp:=cond_f q3 hp
   refine s9 ?_
   replace hp:=ba hp;obtain ⟨y5,hy5,hp⟩:=hp
   replace hp:=gb_any hp;obtain ⟨y6,hy6,hp⟩:=hp
   replace hp:=gb_any hp;obtain ⟨y7,hy7,hp⟩:=hp
   replace hp:=gb_any hp;obtain ⟨y8,hy8,hp⟩:=hp
   replace hp:=gb_any hp;obtain ⟨y9,hy9,hp⟩:=hp
   replace hp:=gb_any hp;obtain ⟨y10,hy10,hp⟩:=hp
   refine W_D0 [69] mix (by kernel_rfl) rfl ?_
   refine s2 ?_
   refine D_callX GC.none fn83.h (OpVs.cons (OpV.t rfl) (OpVs.cons OpV.c (OpVs.cons OpV.c (OpVs.nil)))) (by exact fun hg w F hF hM=>s_l1In_walk w a0_2 1 9  _ hy5) ?_
   refine s4 ?_
   refine D_callX (GC.some rfl rfl) fn83.h (OpVs.cons (OpV.s rfl) (OpVs.cons OpV.c (OpVs.cons OpV.c (OpVs.nil)))) (by exact fun hg w F hF hM=>s_l1In_walk w a0_3 1 1000  _ (hy6 (gnot hg.2))) ?_
   refine s7 ?_
   refine D_callX (GC.some rfl rfl) fn84.h (OpVs.cons (OpV.s rfl) (OpVs.cons (OpV.s rfl) (OpVs.nil))) (by exact fun hg w F hF hM=>s_l4May_walk w a0_4 (!decide (a0_1=7))  _ (hy7 (gnot hg.2))) ?_
   refine s11 ?_
   refine D_callX (GC.some rfl rfl) fn84.h (OpVs.cons (OpV.s rfl) (OpVs.cons (OpV.s rfl) (OpVs.nil))) (by exact fun hg w F hF hM=>s_l4May_walk w a0_5 ((decide (a0_1=3))||(decide (a0_1=4)))  _ (hy8 (gnot hg.2))) ?_
   refine s7 ?_
   refine D_callX (GC.some rfl rfl) fn84.h (OpVs.cons (OpV.s rfl) (OpVs.cons (OpV.s rfl) (OpVs.nil))) (by exact fun hg w F hF hM=>s_l4May_walk w a0_6 (decide (a0_1=4))  _ (hy9 (gnot hg.2))) ?_
   refine s12 ?_
   refine D_callX (GC.some rfl rfl) fn83.h (OpVs.cons (OpV.s rfl) (OpVs.cons OpV.c (OpVs.cons OpV.c (OpVs.nil)))) (by exact fun hg w F hF hM=>s_l1In_walk w a0_7 0 9  _ (hy10 (gand (gand (gnot hg.1.1.2) hg.1.2) (gnot hg.2)))) ?_
   refine s20 ?_
   refine s20 ?_
   refine s19 ?_
   refine kp [1,3,69] ?_
   refine W_cond rfl (fun q11=>?_) (fun q11=>?_)
   ·replace hp:=cond_t q11 hp
    refine s4 ?_
    obtain rfl:=sj hp
    refine s1 ?_
    refine res1 rfl (ResOK.tmp rfl) ⟨rfl,rfl⟩ ms
   ·replace hp:=cond_f q11 hp
    refine s7 ?_
    refine kp [1,71] ?_
    refine W_cond rfl (fun q12=>?_) (fun q12=>?_)
    ·replace hp:=cond_t q12 hp
     refine s8 ?_
     obtain rfl:=sj hp
     refine s1 ?_
     refine res1 rfl (ResOK.tmp rfl) ⟨rfl,rfl⟩ ms
    ·replace hp:=cond_f q12 hp
     refine s7 ?_
     replace hp:=ba hp;obtain ⟨y13,hy13,hp⟩:=hp
     refine L_callX rfl fn83.h rfl (by exact fun w hw=>s_l1In_walk w ((GT.dat a0_8).length:Int) 1 4  _ hy13) ?_
     refine s2 ?_
     refine kp [1,80] ?_
     refine W_cond rfl (fun q14=>?_) (fun q14=>?_)
     ·replace hp:=cond_t q14 hp
      refine s4 ?_
      obtain rfl:=sj hp
      refine s1 ?_
      refine res1 rfl (ResOK.tmp rfl) ⟨rfl,rfl⟩ ms
     ·replace hp:=cond_f q14 hp
      refine s7 ?_
      refine W_while (σ:=Int) GT.dat (fun (v15_0:Int)=>[(4,.int .i64 v15_0)]) (fun (v15_0:Int)=>[]) [(1,_)] [blk bk1 _ _] 0 hp sb ms ?_
      clear hp
      rintro v15_0 x15 hp hx15
      replace hp:=dd hp
      refine kq [1,4] ?_
      refine s9 ?_
      refine kp [1,4,85] ?_
      refine W_cond rfl (fun q16=>?_) (fun q16=>?_)
      ·replace hp:=cond_t q16 hp
       refine s8 ?_
       replace hp:=idx_bind hp;obtain ⟨u17,hy17,hp⟩:=hp
       refine L_idxA (X:=a0_8) rfl rfl rfl el36.h (RdT.old h0.2.2.2.2.2.2.2) hy17 ?_
       refine L_load0 rfl rfl (RdT.at (RdT.old h0.2.2.2.2.2.2.2) (hy17).2) one9.h rfl ?_
       refine s3 ?_
       refine kp [1,4,94] ?_
       refine W_cond rfl (fun q18=>?_) (fun q18=>?_)
       ·replace hp:=cond_t q18 hp
        refine s4 ?_
        replace hp:=map_any hp;obtain ⟨a19,hp,z_19⟩:=hp
        obtain rfl:=hx15 _ z_19
        obtain rfl:=sj hp
        refine s1 ?_
        refine res1 rfl (ResOK.tmp rfl) ⟨rfl,rfl⟩ ms
       ·replace hp:=cond_f q18 hp
        refine s6 ?_
        exact ⟨IntKind.wrap .i64 (v15_0+1),sb,(.sub ms),some_eq hp⟩
      ·replace hp:=cond_f q16 hp
       refine W_exit ?_
       replace hp:=map_any hp;obtain ⟨a20,hp,z_20⟩:=hp
       obtain rfl:=hx15 _ z_20
       refine s4 ?_
       obtain rfl:=sj hp
       refine s1 ?_
       refine res1 rfl (ResOK.tmp rfl) ⟨rfl,rfl⟩ ms
noncomputable def sl_Equal_stringstring (a0:List ByteArray) (a1:List ByteArray):Option Bool :=
 cond (!decide ((a0.length:Int)=(a1.length:Int))) (some false) (whileP (fun s2:Int=>cond (decide (s2 < (a0.length:Int))) (Option.bind (idx a0 s2) (fun y4=>Option.bind (idx a1 s2) (fun y5=>cond (!decide (y4=y5)) (Option.map .inr (some false)) (some (.inl (IntKind.wrap .i64 (s2+1))))))) (Option.map .inr (some true))) 0)
theorem sl_Equal_stringstring_walk (w:World) (a0:TL ByteArray) (a1:TL ByteArray) (h0:GT.rd w [] a0) (h1:GT.rd w [] a1) (r:Bool) (hp:sl_Equal_stringstring (GT.dat a0) (GT.dat a1)=some r):Spec Tryz.prog 193 [(TL.hdr a0),(TL.hdr a1)].toArray w [] (IsV (.bool r)):=by
 refine Spec.intro Tryz.func193 rfl Tryz.ntmps193 rfl ?_
 unfold sl_Equal_stringstring at hp
 replace hp:=dd hp
 refine s13 ?_
 refine kp [0,1,10] ?_
 refine W_cond rfl (fun q1=>?_) (fun q1=>?_)
 ·replace hp:=cond_t q1 hp
  refine s4 ?_
  obtain rfl:=sj hp
  refine s1 ?_
  refine res1 rfl (ResOK.tmp rfl) ⟨rfl,rfl⟩ ms
 ·replace hp:=cond_f q1 hp
  refine s9 ?_
  refine W_while (σ:=Int) GT.dat (fun (v2_0:Int)=>[(13,.int .i64 v2_0)]) (fun (v2_0:Int)=>[]) [(0,_),(1,_),(12,_)] [] 0 hp sb ms ?_
  clear hp
  rintro v2_0 x2 hp hx2
  replace hp:=dd hp
  refine kq [0,1,12,13] ?_
  refine s5 ?_
  refine kp [0,1,12,13,14] ?_
  refine W_cond rfl (fun q3=>?_) (fun q3=>?_)
  ·replace hp:=cond_t q3 hp
   refine s9 ?_
   replace hp:=idx_bind hp;obtain ⟨u4,hy4,hp⟩:=hp
   replace hp:=idx_bind hp;obtain ⟨u5,hy5,hp⟩:=hp
   refine W_D0 [24] mix (by kernel_rfl) rfl ?_
   refine s2 ?_
   refine D_idxA (X:=a0) GC.none (OpV.t rfl) (OpV.t rfl) el36.h (RdT.old h0) (fun _=>hy4) ?_
   refine D_load0 GC.none (OpV.t rfl) (fun hg=>RdT.at (RdT.old h0) (hy4).2) one9.h rfl ?_
   refine s2 ?_
   refine D_idxA (X:=a1) GC.none (OpV.t rfl) (OpV.t rfl) el36.h (RdT.old h1) (fun _=>hy5) ?_
   refine D_load0 GC.none (OpV.t rfl) (fun hg=>RdT.at (RdT.old h1) (hy5).2) one9.h rfl ?_
   refine s12 ?_
   refine kp [0,1,12,13,24] ?_
   refine W_cond rfl (fun q6=>?_) (fun q6=>?_)
   ·replace hp:=cond_t q6 hp
    refine s4 ?_
    replace hp:=map_any hp;obtain ⟨a7,hp,z_7⟩:=hp
    obtain rfl:=hx2 _ z_7
    obtain rfl:=sj hp
    refine s1 ?_
    refine res1 rfl (ResOK.tmp rfl) ⟨rfl,rfl⟩ ms
   ·replace hp:=cond_f q6 hp
    refine s5 ?_
    exact ⟨IntKind.wrap .i64 (v2_0+1),sb,(.sub ms),some_eq hp⟩
  ·replace hp:=cond_f q3 hp
   refine W_exit ?_
   replace hp:=map_any hp;obtain ⟨a8,hp,z_8⟩:=hp
   obtain rfl:=hx2 _ z_8
   refine s4 ?_
   obtain rfl:=sj hp
   refine s1 ?_
   refine res1 rfl (ResOK.tmp rfl) ⟨rfl,rfl⟩ ms
noncomputable def i_SameCmd (a0:D_Cmd) (a1:D_Cmd):Option Bool :=
 gb (((((((decide (a0.1=a1.1))&&(decide (a0.2.1=a1.2.1)))&&(decide (a0.2.2.1=a1.2.2.1)))&&(decide (a0.2.2.2.1=a1.2.2.2.1)))&&(decide (a0.2.2.2.2.1=a1.2.2.2.2.1)))&&(decide (a0.2.2.2.2.2.1=a1.2.2.2.2.2.1)))&&(decide (a0.2.2.2.2.2.2.1=a1.2.2.2.2.2.2.1))) (sl_Equal_stringstring a0.2.2.2.2.2.2.2 a1.2.2.2.2.2.2.2) (fun y1=>some ((((((((decide (a0.1=a1.1))&&(decide (a0.2.1=a1.2.1)))&&(decide (a0.2.2.1=a1.2.2.1)))&&(decide (a0.2.2.2.1=a1.2.2.2.1)))&&(decide (a0.2.2.2.2.1=a1.2.2.2.2.1)))&&(decide (a0.2.2.2.2.2.1=a1.2.2.2.2.2.1)))&&(decide (a0.2.2.2.2.2.2.1=a1.2.2.2.2.2.2.1)))&&y1))
theorem i_SameCmd_walk (w:World) (a0:T_Cmd) (a1:T_Cmd) (h0:GT.rd w [] a0) (h1:GT.rd w [] a1) (r:Bool) (hp:i_SameCmd (GT.dat a0) (GT.dat a1)=some r):Spec Tryz.prog 161 [.agg (GT.cells a0).toArray,.agg (GT.cells a1).toArray].toArray w [] (IsV (.bool r)):=by
 obtain ⟨a0_1,a0_2,a0_3,a0_4,a0_5,a0_6,a0_7,a0_8⟩:=a0
 obtain ⟨a1_1,a1_2,a1_3,a1_4,a1_5,a1_6,a1_7,a1_8⟩:=a1
 change Spec _ _ ([Value.agg #[.int .i64 a0_1,.int .i64 a0_2,.int .i64 a0_3,.string a0_4,.string a0_5,.string a0_6,.int .i64 a0_7,(TL.hdr a0_8)],Value.agg #[.int .i64 a1_1,.int .i64 a1_2,.int .i64 a1_3,.string a1_4,.string a1_5,.string a1_6,.int .i64 a1_7,(TL.hdr a1_8)]]:List Value).toArray w [] _
 refine Spec.intro Tryz.func161 rfl Tryz.ntmps161 rfl ?_
 unfold i_SameCmd at hp
 replace hp:=dd hp
 refine s2 ?_
 refine bx fun bk2=>?_
 refine bx fun bk3=>?_
 refine s3 ?_
 replace hp:=gb_any hp;obtain ⟨y1,hy1,hp⟩:=hp
 refine W_D0 [4] mix (by kernel_rfl) rfl ?_
 refine s20 ?_
 refine s20 ?_
 refine s12 ?_
 refine D_callX (GC.some rfl rfl) fn193.h (OpVs.cons (OpV.s rfl) (OpVs.cons (OpV.s rfl) (OpVs.nil))) (by exact fun hg w F hF hM=>sl_Equal_stringstring_walk w a0_8 a1_8 (RdT.nowS (RdT.old h0.2.2.2.2.2.2.2) hF hM) (RdT.nowS (RdT.old h1.2.2.2.2.2.2.2) hF hM) _ (hy1 hg.2)) ?_
 refine s20 ?_
 refine s20 ?_
 refine s19 ?_
 obtain rfl:=sj hp
 refine s1 ?_
 refine res1 rfl (ResOK.tmp rfl) ⟨rfl,rfl⟩ ms
noncomputable def i_isWord (a0:ByteArray):Option Bool :=
 whileP (fun s1:Int=>cond (decide (s1 < (a0.size:Int))) (Option.bind (sidx a0 s1) (fun y3=>gb (!(decide (y3 < 97))) (sidx a0 s1) (fun y4=>cond ((decide (y3 < 97))||(decide (122 < y4))) (Option.map .inr (some false)) (some (.inl (IntKind.wrap .i64 (s1+1))))))) (Option.map .inr (Option.bind (i_within (a0.size:Int) 1 8) (fun y8=>some y8)))) 0
theorem i_isWord_walk (w:World) (a0:ByteArray)  (r:Bool) (hp:i_isWord a0=some r):Spec Tryz.prog 194 [.string a0].toArray w [] (IsV (.bool r)):=by
 refine Spec.intro Tryz.func194 rfl Tryz.ntmps194 rfl ?_
 unfold i_isWord at hp
 replace hp:=dd hp
 refine s10 ?_
 refine W_while (σ:=Int) GT.dat (fun (v1_0:Int)=>[(3,.int .i64 v1_0)]) (fun (v1_0:Int)=>[]) [(0,_)] [] 0 hp sb ms ?_
 clear hp
 rintro v1_0 x1 hp hx1
 replace hp:=dd hp
 refine kq [0,3] ?_
 refine s8 ?_
 refine kp [0,3,7] ?_
 refine W_cond rfl (fun q2=>?_) (fun q2=>?_)
 ·replace hp:=cond_t q2 hp
  refine s4 ?_
  replace hp:=ba hp;obtain ⟨y3,hy3,hp⟩:=hp
  replace hp:=gb_any hp;obtain ⟨y4,hy4,hp⟩:=hp
  refine W_D0 [19] mix (by kernel_rfl) rfl ?_
  refine s2 ?_
  refine D_idxS GC.none (OpV.t rfl) (OpV.t rfl) str9.h (fun hg=>hy3) ?_
  refine s4 ?_
  refine D_idxS (GC.some rfl rfl) (OpV.s rfl) (OpV.s rfl) str9.h (fun hg=>(hy4 (gnot hg.2))) ?_
  refine s14 ?_
  refine kp [0,3,19] ?_
  refine W_cond rfl (fun q5=>?_) (fun q5=>?_)
  ·replace hp:=cond_t q5 hp
   refine s4 ?_
   replace hp:=map_any hp;obtain ⟨a6,hp,z_6⟩:=hp
   obtain rfl:=hx1 _ z_6
   obtain rfl:=sj hp
   refine s1 ?_
   refine res1 rfl (ResOK.tmp rfl) ⟨rfl,rfl⟩ ms
  ·replace hp:=cond_f q5 hp
   refine s6 ?_
   exact ⟨IntKind.wrap .i64 (v1_0+1),sb,(.sub ms),some_eq hp⟩
 ·replace hp:=cond_f q2 hp
  refine W_exit ?_
  replace hp:=map_any hp;obtain ⟨a7,hp,z_7⟩:=hp
  obtain rfl:=hx1 _ z_7
  refine s4 ?_
  replace hp:=ba hp;obtain ⟨y8,hy8,hp⟩:=hp
  refine L_callX rfl fn66.h rfl (by exact fun w hw=>i_within_walk w (a0.size:Int) 1 8  _ hy8) ?_
  refine s2 ?_
  obtain rfl:=sj hp
  refine s1 ?_
  refine res1 rfl (ResOK.tmp rfl) ⟨rfl,rfl⟩ ms
noncomputable def i_wordIf (a0:ByteArray) (a1:Bool):Option Bool :=
 cond a1 (Option.bind (i_isWord a0) (fun y2=>some y2)) (some (decide (a0=ByteArray.empty)))
theorem i_wordIf_walk (w:World) (a0:ByteArray) (a1:Bool)  (r:Bool) (hp:i_wordIf a0 a1=some r):Spec Tryz.prog 162 [.string a0,.bool a1].toArray w [] (IsV (.bool r)):=by
 refine Spec.intro Tryz.func162 rfl Tryz.ntmps162 rfl ?_
 unfold i_wordIf at hp
 replace hp:=dd hp
 refine s9 ?_
 refine kp [0,5] ?_
 refine W_cond rfl (fun q1=>?_) (fun q1=>?_)
 ·replace hp:=cond_t q1 hp
  refine s3 ?_
  replace hp:=ba hp;obtain ⟨y2,hy2,hp⟩:=hp
  refine L_callX rfl fn194.h rfl (by exact fun w hw=>i_isWord_walk w a0  _ hy2) ?_
  refine s2 ?_
  obtain rfl:=sj hp
  refine s1 ?_
  refine res1 rfl (ResOK.tmp rfl) ⟨rfl,rfl⟩ ms
 ·replace hp:=cond_f q1 hp
  refine s7 ?_
  obtain rfl:=sj hp
  refine s1 ?_
  refine res1 rfl (ResOK.tmp rfl) ⟨rfl,rfl⟩ ms
noncomputable def i_areChunks (a0:List ByteArray):Option Bool :=
 whileP (fun s1:Int=>cond (decide (s1 < (a0.length:Int))) (Option.bind (idx a0 s1) (fun y3=>cond (!decide ((y3.size:Int)=8)) (Option.map .inr (some false)) (some (.inl (IntKind.wrap .i64 (s1+1)))))) (Option.map .inr (some true))) 0
theorem i_areChunks_walk (w:World) (a0:TL ByteArray) (h0:GT.rd w [] a0) (r:Bool) (hp:i_areChunks (GT.dat a0)=some r):Spec Tryz.prog 163 [(TL.hdr a0)].toArray w [] (IsV (.bool r)):=by
 refine Spec.intro Tryz.func163 rfl Tryz.ntmps163 rfl ?_
 unfold i_areChunks at hp
 replace hp:=dd hp
 refine s12 ?_
 refine W_while (σ:=Int) GT.dat (fun (v1_0:Int)=>[(7,.int .i64 v1_0)]) (fun (v1_0:Int)=>[]) [(5,_),(6,_)] [] 0 hp sb ms ?_
 clear hp
 rintro v1_0 x1 hp hx1
 replace hp:=dd hp
 refine kq [5,6,7] ?_
 refine s5 ?_
 refine kp [5,6,7,8] ?_
 refine W_cond rfl (fun q2=>?_) (fun q2=>?_)
 ·replace hp:=cond_t q2 hp
  refine s5 ?_
  replace hp:=idx_bind hp;obtain ⟨u3,hy3,hp⟩:=hp
  refine L_idxA (X:=a0) rfl rfl rfl el36.h (RdT.old h0) hy3 ?_
  refine L_load0 rfl rfl (RdT.at (RdT.old h0) (hy3).2) one9.h rfl ?_
  refine s8 ?_
  refine kp [5,6,7,13] ?_
  refine W_cond rfl (fun q4=>?_) (fun q4=>?_)
  ·replace hp:=cond_t q4 hp
   refine s4 ?_
   replace hp:=map_any hp;obtain ⟨a5,hp,z_5⟩:=hp
   obtain rfl:=hx1 _ z_5
   obtain rfl:=sj hp
   refine s1 ?_
   refine res1 rfl (ResOK.tmp rfl) ⟨rfl,rfl⟩ ms
  ·replace hp:=cond_f q4 hp
   refine s5 ?_
   exact ⟨IntKind.wrap .i64 (v1_0+1),sb,(.sub ms),some_eq hp⟩
 ·replace hp:=cond_f q2 hp
  refine W_exit ?_
  replace hp:=map_any hp;obtain ⟨a6,hp,z_6⟩:=hp
  obtain rfl:=hx1 _ z_6
  refine s4 ?_
  obtain rfl:=sj hp
  refine s1 ?_
  refine res1 rfl (ResOK.tmp rfl) ⟨rfl,rfl⟩ ms
noncomputable def i_CmdOk (a0:D_Cmd):Option Bool :=
 cond (decide (a0.1=0)) (Option.bind (i_SameCmd (a0.1,a0.2.1,a0.2.2.1,a0.2.2.2.1,a0.2.2.2.2.1,a0.2.2.2.2.2.1,a0.2.2.2.2.2.2.1,a0.2.2.2.2.2.2.2) (0,0,0,ByteArray.empty,ByteArray.empty,ByteArray.empty,0,([]:List ByteArray))) (fun y2=>some y2)) (Option.bind (i_within a0.1 1 7) (fun y3=>gb (!(!y3)) (i_within a0.2.1 1 9) (fun y4=>gb (!((!y3)||(!y4))) (i_within a0.2.2.1 1 1000) (fun y5=>cond (((!y3)||(!y4))||(!y5)) (some false) (Option.bind (i_wordIf a0.2.2.2.1 (!decide (a0.1=7))) (fun y7=>gb (!(!y7)) (i_wordIf a0.2.2.2.2.1 ((decide (a0.1=3))||(decide (a0.1=4)))) (fun y8=>gb (!((!y7)||(!y8))) (i_wordIf a0.2.2.2.2.2.1 (decide (a0.1=4))) (fun y9=>cond (((!y7)||(!y8))||(!y9)) (some false) (gb ((!decide (a0.2.2.2.2.2.2.1=0))&&(!(!decide (a0.1=5)))) (i_within a0.2.2.2.2.2.2.1 0 9) (fun y11=>cond ((!decide (a0.2.2.2.2.2.2.1=0))&&((!decide (a0.1=5))||(!y11))) (some false) (cond (decide (a0.1=3)) (Option.bind (i_within (a0.2.2.2.2.2.2.2.length:Int) 1 4) (fun y14=>gb y14 (i_areChunks a0.2.2.2.2.2.2.2) (fun y15=>some (y14&&y15)))) (some (decide ((a0.2.2.2.2.2.2.2.length:Int)=0))))))))))))))
theorem i_CmdOk_walk (w:World) (a0:T_Cmd) (h0:GT.rd w [] a0) (r:Bool) (hp:i_CmdOk (GT.dat a0)=some r):Spec Tryz.prog 114 [.agg (GT.cells a0).toArray].toArray w [] (IsV (.bool r)):=by
 obtain ⟨a0_1,a0_2,a0_3,a0_4,a0_5,a0_6,a0_7,a0_8⟩:=a0
 change Spec _ _ ([Value.agg #[.int .i64 a0_1,.int .i64 a0_2,.int .i64 a0_3,.string a0_4,.string a0_5,.string a0_6,.int .i64 a0_7,(TL.hdr a0_8)]]:List Value).toArray w [] _
 refine Spec.intro Tryz.func114 rfl Tryz.ntmps114 rfl ?_
 unfold i_CmdOk at hp
 replace hp:=dd hp
 refine s2 ?_
 refine bx fun bk1=>?_
 refine s9 ?_
 refine kp [1,5] ?_
 refine W_cond rfl (fun q1=>?_) (fun q1=>?_)
 ·replace hp:=cond_t q1 hp
  refine s3 ?_
  refine L_build (xs:=[]) (cs:=[.int .i64 0,.int .i64 0,.int .i64 0,.string ByteArray.empty,.string ByteArray.empty,.string ByteArray.empty,.int .i64 0,(TL.hdr (TL.nil ByteArray 0))]) rfl rfl bld38.h rfl ?_
  replace hp:=ba hp;obtain ⟨y2,hy2,hp⟩:=hp
  refine L_callX rfl fn161.h rfl (by exact fun w hw=>i_SameCmd_walk w (a0_1,a0_2,a0_3,a0_4,a0_5,a0_6,a0_7,a0_8) (0,0,0,ByteArray.empty,ByteArray.empty,ByteArray.empty,0,(TL.nil ByteArray 0)) (RdT.now (RdT.pair RdT.int (RdT.pair RdT.int (RdT.pair RdT.int (RdT.pair RdT.str (RdT.pair RdT.str (RdT.pair RdT.str (RdT.pair RdT.int (RdT.old h0.2.2.2.2.2.2.2)))))))) hw) (RdT.now (RdT.pair RdT.int (RdT.pair RdT.int (RdT.pair RdT.int (RdT.pair RdT.str (RdT.pair RdT.str (RdT.pair RdT.str (RdT.pair RdT.int (RdT.nil 0)))))))) hw) _ hy2) ?_
  refine s2 ?_
  obtain rfl:=sj hp
  refine s1 ?_
  refine res1 rfl (ResOK.tmp rfl) ⟨rfl,rfl⟩ ms
 ·replace hp:=cond_f q1 hp
  refine s3 ?_
  replace hp:=ba hp;obtain ⟨y3,hy3,hp⟩:=hp
  replace hp:=gb_any hp;obtain ⟨y4,hy4,hp⟩:=hp
  replace hp:=gb_any hp;obtain ⟨y5,hy5,hp⟩:=hp
  refine W_D0 [24] mix (by kernel_rfl) rfl ?_
  refine s2 ?_
  refine D_callX GC.none fn66.h (OpVs.cons (OpV.t rfl) (OpVs.cons OpV.c (OpVs.cons OpV.c (OpVs.nil)))) (by exact fun hg w F hF hM=>i_within_walk w a0_1 1 7  _ hy3) ?_
  refine s4 ?_
  refine D_callX (GC.some rfl rfl) fn66.h (OpVs.cons (OpV.s rfl) (OpVs.cons OpV.c (OpVs.cons OpV.c (OpVs.nil)))) (by exact fun hg w F hF hM=>i_within_walk w a0_2 1 9  _ (hy4 (gnot hg.2))) ?_
  refine s5 ?_
  refine D_callX (GC.some rfl rfl) fn66.h (OpVs.cons (OpV.s rfl) (OpVs.cons OpV.c (OpVs.cons OpV.c (OpVs.nil)))) (by exact fun hg w F hF hM=>i_within_walk w a0_3 1 1000  _ (hy5 (gnot hg.2))) ?_
  refine s20 ?_
  refine kp [1,24] ?_
  refine W_cond rfl (fun q6=>?_) (fun q6=>?_)
  ·replace hp:=cond_t q6 hp
   refine s4 ?_
   obtain rfl:=sj hp
   refine s1 ?_
   refine res1 rfl (ResOK.tmp rfl) ⟨rfl,rfl⟩ ms
  ·replace hp:=cond_f q6 hp
   refine s3 ?_
   replace hp:=ba hp;obtain ⟨y7,hy7,hp⟩:=hp
   replace hp:=gb_any hp;obtain ⟨y8,hy8,hp⟩:=hp
   replace hp:=gb_any hp;obtain ⟨y9,hy9,hp⟩:=hp
   refine W_D0 [54] mix (by kernel_rfl) rfl ?_
   refine s5 ?_
   refine D_callX GC.none fn162.h (OpVs.cons (OpV.t rfl) (OpVs.cons (OpV.t rfl) (OpVs.nil))) (by exact fun hg w F hF hM=>i_wordIf_walk w a0_4 (!decide (a0_1=7))  _ hy7) ?_
   refine s12 ?_
   refine D_callX (GC.some rfl rfl) fn162.h (OpVs.cons (OpV.s rfl) (OpVs.cons (OpV.s rfl) (OpVs.nil))) (by exact fun hg w F hF hM=>i_wordIf_walk w a0_5 ((decide (a0_1=3))||(decide (a0_1=4)))  _ (hy8 (gnot hg.2))) ?_
   refine s8 ?_
   refine D_callX (GC.some rfl rfl) fn162.h (OpVs.cons (OpV.s rfl) (OpVs.cons (OpV.s rfl) (OpVs.nil))) (by exact fun hg w F hF hM=>i_wordIf_walk w a0_6 (decide (a0_1=4))  _ (hy9 (gnot hg.2))) ?_
   refine s20 ?_
   refine s14 ?_
   refine kp [1,54] ?_
   refine W_cond rfl (fun q10=>?_) (fun q10=>?_)
   ·replace hp:=cond_t q10 hp
    refine s4 ?_
    obtain rfl:=sj hp
    refine s1 ?_
    refine res1 rfl (ResOK.tmp rfl) ⟨rfl,rfl⟩ ms
   ·replace hp:=cond_f q10 hp
    refine s3 ?_
    replace hp:=gb_any hp;obtain ⟨y11,hy11,hp⟩:=hp
    refine W_D0 [68] mix (by kernel_rfl) rfl ?_
    refine s10 ?_
    refine D_callX (GC.some rfl rfl) fn66.h (OpVs.cons (OpV.s rfl) (OpVs.cons OpV.c (OpVs.cons OpV.c (OpVs.nil)))) (by exact fun hg w F hF hM=>i_within_walk w a0_7 0 9  _ (hy11 (gand hg.1.2 (gnot hg.2)))) ?_
    refine s19 ?_
    refine kp [1,68] ?_
    refine W_cond rfl (fun q12=>?_) (fun q12=>?_)
    ·replace hp:=cond_t q12 hp
     refine s4 ?_
     obtain rfl:=sj hp
     refine s1 ?_
     refine res1 rfl (ResOK.tmp rfl) ⟨rfl,rfl⟩ ms
    ·replace hp:=cond_f q12 hp
     refine s8 ?_
     refine kp [1,71] ?_
     refine W_cond rfl (fun q13=>?_) (fun q13=>?_)
     ·replace hp:=cond_t q13 hp
      refine s1 ?_
      replace hp:=ba hp;obtain ⟨y14,hy14,hp⟩:=hp
      replace hp:=gb_any hp;obtain ⟨y15,hy15,hp⟩:=hp
      refine W_D0 [2] mix (by kernel_rfl) rfl ?_
      refine s2 ?_
      refine D_lenP (X:=a0_8) GC.none (OpV.t rfl) el36.h ?_
      refine D_callX GC.none fn66.h (OpVs.cons (OpV.t rfl) (OpVs.cons OpV.c (OpVs.cons OpV.c (OpVs.nil)))) (by exact fun hg w F hF hM=>i_within_walk w ((GT.dat a0_8).length:Int) 1 4  _ hy14) ?_
      refine s3 ?_
      refine D_callX (GC.some rfl rfl) fn163.h (OpVs.cons (OpV.s rfl) (OpVs.nil)) (by exact fun hg w F hF hM=>i_areChunks_walk w a0_8 (RdT.nowS (RdT.old h0.2.2.2.2.2.2.2) hF hM) _ (hy15 hg.2)) ?_
      refine s14 ?_
      obtain rfl:=sj hp
      refine s1 ?_
      refine res1 rfl (ResOK.tmp rfl) ⟨rfl,rfl⟩ ms
     ·replace hp:=cond_f q13 hp
      refine s9 ?_
      obtain rfl:=sj hp
      refine s1 ?_
      refine res1 rfl (ResOK.tmp rfl) ⟨rfl,rfl⟩ ms
end Go.Proofs.SL
