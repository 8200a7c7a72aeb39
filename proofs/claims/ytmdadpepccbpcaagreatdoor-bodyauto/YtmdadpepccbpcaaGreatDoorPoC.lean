import Derived.Ground.NamesProg
import Derived.Ground.SlbNamesProg
import Derived.Ground.Names7Prog
import Derived.Shelf.Spec.DecodeRune
import Derived.Shelf.Spec.TrailingZeros
import Derived.Shelf.Bytes.SlIndexWhole
import Derived.Shelf.Bytes.SlClone
import Derived.Shelf.Bits.Mul64
import Derived.Test.YtmdadpepccbpcaaGreatDoorProg
import Derived.Test.YtmdadpepccbpcaaGreatDoorPoA
import Derived.Test.YtmdadpepccbpcaaGreatDoorAvE
import Derived.Lib.SlBuf
import Derived.Shelf.Bytes.SlCountOne
import Derived.Test.YtmdadpepccbpcaaGreatDoorAvE
import Derived.Lib.IndexEntry
import Derived.Laws.Externs
import Derived.KernelRfl
import Derived.WalkSmall
section
namespace Go.Proofs
set_option linter.unusedVariables false
set_option linter.unusedSimpArgs false
open Go.Shelf
def Tryz.lays7_32_ren:Go.Shelf.Ren:=⟨fun | 32=>169 | 49=>214 | n=>n,fun | 30=>24 | 21=>21 | 3=>3 | 0=>0 | 5=>5 | 4=>4 | 33=>147 | 66=>184 | 25=>107 | 69=>187 | 68=>186 | n=>n,fun | 2=>3 | 3=>4 | n=>n⟩
theorem Tryz.lays7_32:Go.Proofs.Lays7.n32 Tryz.prog Tryz.lays7_32_ren:={
 mixed:=by kernel_rfl
 f32:=Tryz.func169.trans (congrArg some (by kernel_rfl))
 f49:=Tryz.func214.trans (congrArg some (by kernel_rfl))
 t0:=Tryz.underlying0
 a0:=Tryz.isAgg0
 z0:=Tryz.sizeOf0
 v0:=Tryz.zeroValue0
 i0:=by kernel_rfl
 t3:=Tryz.underlying3
 a3:=Tryz.isAgg3
 z3:=Tryz.sizeOf3
 v3:=Tryz.zeroValue3
 i3:=by kernel_rfl
 t4:=Tryz.underlying4
 a4:=Tryz.isAgg4
 z4:=Tryz.sizeOf4
 v4:=Tryz.zeroValue4
 i4:=by kernel_rfl
 t5:=Tryz.underlying5
 a5:=Tryz.isAgg5
 z5:=Tryz.sizeOf5
 v5:=Tryz.zeroValue5
 i5:=by kernel_rfl
 t21:=Tryz.underlying21
 a21:=Tryz.isAgg21
 z21:=Tryz.sizeOf21
 v21:=Tryz.zeroValue21
 i21:=by kernel_rfl
 t25:=Tryz.underlying107
 a25:=Tryz.isAgg107
 z25:=Tryz.sizeOf107
 v25:=Tryz.zeroValue107
 i25:=by kernel_rfl
 t30:=Tryz.underlying24
 a30:=Tryz.isAgg24
 z30:=Tryz.sizeOf24
 v30:=Tryz.zeroValue24
 i30:=by kernel_rfl
 t33:=Tryz.underlying147
 a33:=Tryz.isAgg147
 z33:=Tryz.sizeOf147
 v33:=Tryz.zeroValue147
 i33:=by kernel_rfl
 t66:=Tryz.underlying184
 a66:=Tryz.isAgg184
 z66:=Tryz.sizeOf184
 t68:=Tryz.underlying186
 a68:=Tryz.isAgg186
 z68:=Tryz.sizeOf186
 v68:=Tryz.zeroValue186
 i68:=by kernel_rfl
 t69:=Tryz.underlying187
 a69:=Tryz.isAgg187
 z69:=Tryz.sizeOf187
 v69:=Tryz.zeroValue187
 i69:=by kernel_rfl
 g2:=by kernel_rfl
 g3:=by kernel_rfl }
def Tryz.lays185_ren:Go.Shelf.Ren:=⟨fun | 185=>143 | 187=>80 | 115=>194 | 253=>195 | 224=>196 | 254=>197 | 255=>141 | 291=>227 | n=>n,fun | 37=>24 | 3=>3 | 4=>4 | 0=>0 | 5=>5 | 46=>107 | 9=>9 | 146=>178 | 51=>137 | n=>n,fun | 1=>0 | n=>n⟩
theorem Tryz.lays185:Go.Proofs.Lays.n185 Tryz.prog Tryz.lays185_ren:={
 mixed:=by kernel_rfl
 f115:=Tryz.func194.trans (congrArg some (by kernel_rfl))
 f185:=Tryz.func143.trans (congrArg some (by kernel_rfl))
 f187:=Tryz.func80.trans (congrArg some (by kernel_rfl))
 f224:=Tryz.func196.trans (congrArg some (by kernel_rfl))
 f253:=Tryz.func195.trans (congrArg some (by kernel_rfl))
 f254:=Tryz.func197.trans (congrArg some (by kernel_rfl))
 f255:=Tryz.func141.trans (congrArg some (by kernel_rfl))
 f291:=Tryz.func227.trans (congrArg some (by kernel_rfl))
 t0:=Tryz.underlying0
 a0:=Tryz.isAgg0
 z0:=Tryz.sizeOf0
 v0:=Tryz.zeroValue0
 t3:=Tryz.underlying3
 a3:=Tryz.isAgg3
 z3:=Tryz.sizeOf3
 v3:=Tryz.zeroValue3
 t4:=Tryz.underlying4
 a4:=Tryz.isAgg4
 z4:=Tryz.sizeOf4
 v4:=Tryz.zeroValue4
 t5:=Tryz.underlying5
 a5:=Tryz.isAgg5
 z5:=Tryz.sizeOf5
 v5:=Tryz.zeroValue5
 t9:=Tryz.underlying9
 a9:=Tryz.isAgg9
 z9:=Tryz.sizeOf9
 v9:=Tryz.zeroValue9
 t37:=Tryz.underlying24
 a37:=Tryz.isAgg24
 z37:=Tryz.sizeOf24
 v37:=Tryz.zeroValue24
 t46:=Tryz.underlying107
 a46:=Tryz.isAgg107
 z46:=Tryz.sizeOf107
 v46:=Tryz.zeroValue107
 t51:=Tryz.underlying137
 a51:=Tryz.isAgg137
 z51:=Tryz.sizeOf137
 v51:=Tryz.zeroValue137
 t146:=Tryz.underlying178
 a146:=Tryz.isAgg178
 z146:=Tryz.sizeOf178
 v146:=Tryz.zeroValue178
 g1:=by kernel_rfl }
def Tryz.laysSlK4_ren:Go.Shelf.Ren:=⟨fun | 4=>153 | n=>n,fun | 22=>24 | 4=>4 | 5=>5 | n=>n,fun | n=>n⟩
theorem Tryz.laysSlK4:Go.Proofs.SlLaysK.n4 Tryz.prog Tryz.laysSlK4_ren:={
 mixed:=by kernel_rfl
 f4:=Tryz.func153.trans (congrArg some (by kernel_rfl))
 t4:=Tryz.underlying4
 a4:=Tryz.isAgg4
 z4:=Tryz.sizeOf4
 v4:=Tryz.zeroValue4
 t22:=Tryz.underlying24
 a22:=Tryz.isAgg24
 z22:=Tryz.sizeOf24
 v22:=Tryz.zeroValue24
 t5:=Tryz.underlying5
 i5:=by kernel_rfl }
def Tryz.lays7_29_ren:Go.Shelf.Ren:=⟨fun | 29=>163 | n=>n,fun | 22=>139 | 3=>3 | 4=>4 | 25=>107 | 54=>168 | 0=>0 | 5=>5 | n=>n,fun | 1=>2 | n=>n⟩
theorem Tryz.lays7_29:Go.Proofs.Lays7.n29 Tryz.prog Tryz.lays7_29_ren:={
 mixed:=by kernel_rfl
 f29:=Tryz.func163.trans (congrArg some (by kernel_rfl))
 t0:=Tryz.underlying0
 a0:=Tryz.isAgg0
 z0:=Tryz.sizeOf0
 v0:=Tryz.zeroValue0
 i0:=by kernel_rfl
 t3:=Tryz.underlying3
 a3:=Tryz.isAgg3
 z3:=Tryz.sizeOf3
 v3:=Tryz.zeroValue3
 i3:=by kernel_rfl
 t4:=Tryz.underlying4
 a4:=Tryz.isAgg4
 z4:=Tryz.sizeOf4
 v4:=Tryz.zeroValue4
 i4:=by kernel_rfl
 t5:=Tryz.underlying5
 a5:=Tryz.isAgg5
 z5:=Tryz.sizeOf5
 v5:=Tryz.zeroValue5
 i5:=by kernel_rfl
 t22:=Tryz.underlying139
 a22:=Tryz.isAgg139
 z22:=Tryz.sizeOf139
 v22:=Tryz.zeroValue139
 i22:=by kernel_rfl
 t25:=Tryz.underlying107
 a25:=Tryz.isAgg107
 z25:=Tryz.sizeOf107
 v25:=Tryz.zeroValue107
 i25:=by kernel_rfl
 t54:=Tryz.underlying168
 a54:=Tryz.isAgg168
 z54:=Tryz.sizeOf168
 g1:=by kernel_rfl }
def Tryz.lays212_ren:Go.Shelf.Ren:=⟨fun | 212=>220 | 263=>240 | 264=>241 | n=>n,fun | 46=>107 | 51=>137 | 146=>178 | 53=>139 | 148=>190 | n=>n,fun | n=>n⟩
theorem Tryz.lays212:Go.Proofs.Lays.n212 Tryz.prog Tryz.lays212_ren:={
 mixed:=by kernel_rfl
 f212:=Tryz.func220.trans (congrArg some (by kernel_rfl))
 f263:=Tryz.func240.trans (congrArg some (by kernel_rfl))
 f264:=Tryz.func241.trans (congrArg some (by kernel_rfl))
 t46:=Tryz.underlying107
 a46:=Tryz.isAgg107
 z46:=Tryz.sizeOf107
 v46:=Tryz.zeroValue107
 t51:=Tryz.underlying137
 a51:=Tryz.isAgg137
 z51:=Tryz.sizeOf137
 v51:=Tryz.zeroValue137
 t53:=Tryz.underlying139
 a53:=Tryz.isAgg139
 z53:=Tryz.sizeOf139
 v53:=Tryz.zeroValue139
 t146:=Tryz.underlying178
 a146:=Tryz.isAgg178
 z146:=Tryz.sizeOf178
 v146:=Tryz.zeroValue178
 t148:=Tryz.underlying190
 a148:=Tryz.isAgg190
 z148:=Tryz.sizeOf190
 v148:=Tryz.zeroValue190 }
end Go.Proofs
end
section
namespace Go.Proofs
set_option linter.unusedVariables false
set_option linter.unusedSimpArgs false
open Go.Shelf Go.RowKit Go.Lib
variable {P:Program} {ρ:Ren}
set_option maxHeartbeats 2000000 in
set_option maxRecDepth 1000000 in
theorem qja (L:Lays.n187 P ρ) (cap:Nat) (cv:Int) (w:World) :
 Calls P (ρ.f 187) #[.slice none 0 cap,.int .u8 cv] w fun e w'=>e=.returned (.int .i64 (-1))∧w'=w:=by
 have t3:=L.t3;have t5:=L.t5;have t37:=L.t37
 have a3:=L.a3;have a5:=L.a5;have a37:=L.a37
 go_enter L.f187,Body.n187_ntmps ρ
 go_wp2
 rw[run_callFunc_extern L.f255 (by kernel_rfl) (by kernel_rfl) (by kernel_rfl) (e:=Extern.BytealgIndexByte.indexByte) (by kernel_rfl),Lib.run_indexByteNil w 0 cap cv];simp only[Result.andThen];rw[Oper.upon_value]
 go_wp2
 go_ret
 exact⟨rfl,rfl⟩
set_option maxHeartbeats 2000000 in
set_option maxRecDepth 1000000 in
theorem qrC (L:Lays.n185 P ρ) (cap b2 o2 d:Nat) (cv:Int) (w:World) (hc2:w.cell? ⟨b2,o2,none⟩=some (.int .u8 cv)) :
 Calls P (ρ.f 185) #[.slice none 0 cap,.slice (some ⟨b2,o2,none⟩) 1 d] w fun e w'=>e=.returned (.int .i64 (-1))∧w'=w:=by
 have mixed:=L.mixed;have t0:=L.t0;have a0:=L.a0;have z0:=L.z0;have v0:=L.v0;have t3:=L.t3;have a3:=L.a3;have z3:=L.z3;have v3:=L.v3;have t4:=L.t4;have a4:=L.a4;have z4:=L.z4;have v4:=L.v4;have t5:=L.t5;have a5:=L.a5;have z5:=L.z5;have v5:=L.v5;have t9:=L.t9;have a9:=L.a9;have z9:=L.z9;have v9:=L.v9;have t37:=L.t37;have a37:=L.a37;have z37:=L.z37;have v37:=L.v37;have t46:=L.t46;have a46:=L.a46;have z46:=L.z46;have v46:=L.v46;have t51:=L.t51;have a51:=L.a51;have z51:=L.z51;have v51:=L.v51;have t146:=L.t146;have a146:=L.a146;have z146:=L.z146;have v146:=L.v146;have g1:=L.g1
 have e187:∀ args w,(callFunc (ρ.f 187) args).run P w=.ok (.enter (ρ.f 187) args) w:=enters_of L.f187 (by kernel_rfl) rfl
 go_enter L.f185,Body.n185_ntmps ρ
 go_wp2_with (go_at_fn (ρ.f 187);refine(qja (P:=P) (ρ:=ρ) { L with } cap cv _).mono ?_;rintro e w' ⟨rfl,rfl⟩)
 go_ret
 exact⟨rfl,rfl⟩
end Go.Proofs
end
namespace Go.Av
set_option linter.unusedSimpArgs false
set_option linter.unusedVariables false
section
open List (length)
open Go.Proofs Go.RowKit
variable {w w':World} {S:qa} {vals:List Value} {x:AV} {P:Program} {f:FuncId} {fn:Func} {a p:LU} {c:UInt8} {oa oc o o1 o2:Lab} {v:Value}
def qoM (w:World) (S:qa):Prop :=
 (∀ c,c < 256→S 3 c∧w.cell? ⟨3,c,none⟩=some (.int .u8 (Lib.firstT c))) ∧
 (∀ i,i < 16→(S 4 (2*i)∧w.cell? ⟨4,2*i,none⟩=some (.int .u8 (Lib.accLo i)))∧(S 4 (2*i+1)∧w.cell? ⟨4,2*i+1,none⟩=some (.int .u8 (Lib.accHi i))))
theorem qoM.keeps {S':qa} (h:qoM w S) (hk:Keeps w S w' S'):qoM w' S' :=
 ⟨fun c hc=>⟨(hk _ _ (h.1 c hc).1).1,(hk _ _ (h.1 c hc).1).2.trans (h.1 c hc).2⟩,
  fun i hi=>⟨⟨(hk _ _ (h.2 i hi).1.1).1,(hk _ _ (h.2 i hi).1.1).2.trans (h.2 i hi).1.2⟩,(hk _ _ (h.2 i hi).2.1).1,(hk _ _ (h.2 i hi).2.1).2.trans (h.2 i hi).2.2⟩⟩
theorem qoM.tabs (h:qoM w S):Lib.Utf8Tabs 3 4 w:=⟨fun c hc=>(h.1 c hc).2,fun i hi=>⟨(h.2 i hi).1.2,(h.2 i hi).2.2⟩⟩
def TabC (g:Nat) (tab:List Nat) (w:World) (S:qa):Prop:=∀ j,j < tab.length→S g j∧w.cell? ⟨g,j,none⟩=some (.int .u8 (tab.getD j 0:Nat))
theorem qBq (g:Nat) (tab:List Nat):Stays (TabC g tab):=fun _ _ _ _ hk h j hj=>⟨(hk _ _ (h j hj).1).1,(hk _ _ (h j hj).1).2.trans (h j hj).2⟩
def glm (m0:Int):Nat→Option (Sigma Den):=fun g=>if g=0 then some ⟨.int .i64,m0⟩ else none
def Gm (m0:Int) (w:World) (S:qa):Prop:=(qoM w S∧TabC 2 Lib.deBruijn64tab w S)∧GlOk (glm m0) w S
def G (w:World) (S:qa):Prop:=∃ m0,Gm m0 w S
theorem qBr (m0:Int):Stays (Gm m0):=fun _ _ _ _ hk h=>⟨⟨h.1.1.keeps hk,qBq _ _ _ _ _ _ hk h.1.2⟩,h.2.keeps hk⟩
theorem G_stays:Stays G:=fun w S w' S' hk ⟨m,h⟩=>⟨m,qBr m w S w' S' hk h⟩
theorem G_of (m0:Int) (h:Gm m0 w S):G w S:=⟨m0,h⟩
theorem G_to (h:G w S):∃ m0,Gm m0 w S:=h
theorem qaO (w:World) (S:qa) (_:G w S):GlOk (fun _=>none) w S:=fun g s x h=>by cases h
theorem args2 {y:AV} (h:qaJ w S vals [x,y]):∃ u v,vals=[u,v]∧Rd w S u x∧Rd w S v y:=by
 match vals,h with
 | [],h=>cases h.1
 | [_],h=>cases h.1
 | [u,v],h=>exact⟨u,v,rfl,h.2 0 u x rfl rfl,h.2 1 v y rfl rfl⟩
 | _ :: _ :: _ :: _,h=>have:=h.1;simp at this
theorem args1 (h:qaJ w S vals [x]):∃ u,vals=[u]∧Rd w S u x:=by
 match vals,h with
 | [],h=>cases h.1
 | [u],h=>exact⟨u,rfl,h.2 0 u x rfl rfl⟩
 | _ :: _ :: _,h=>have:=h.1;simp at this
theorem qcn (h:∀ b o,S b o→b < w.heap.size):Grew w S w S:=⟨Below.refl _ _,fun _ _ _=>Iff.rfl,h⟩
theorem qbA {n:Nat→Prop} {k:IntKind} {i:Int}:ResRd n w S (.int k i) (.int k i):=⟨qbz _ _ _ _,fun s x e=>(by cases e),fun s p e=>(by cases e),fun l te e=>(by cases e)⟩
theorem qwh (hf:P.funcs[f]? = some fn) (hname:(fn.name == "runtime.NumGoroutine")=false) (hb:fn.body.isNone=true) (hn:Extern.findNext fn=none)
 (he:Extern.find fn=some Extern.BytealgIndexByte.indexByte) (hS:∀ b o,S b o→b < w.heap.size) (ha:qaJ w S vals [df a oa,dp c oc]) :
 Ran P f vals.toArray w fun v w'=>∃ S',Grew w S w' S'∧ResRd (· < w.heap.size) w' S' v (.int .i64 (Lib.indexByte a c)):=by
 obtain⟨u,v,rfl,h1,h2⟩:=args2 ha;obtain⟨b,rfl,rfl⟩:=qci h1;obtain rfl:=qbr h2;refine .inr ⟨.int .i64 (Lib.indexByte b.data.toList c),w,?_,S,qcn hS,qbA⟩;rw[run_callFunc_extern hf hname hb hn he];show ((Extern.BytealgIndexByte.indexByte #[.string b,.int .u8 (c.toNat:Nat)]).run P w).andThen _=_;rw[Lib.run_indexByteString];simp[Result.andThen]
theorem qwi (hf:P.funcs[f]? = some fn) (hname:(fn.name == "runtime.NumGoroutine")=false) (hb:fn.body.isNone=true) (hn:Extern.findNext fn=none)
 (he:Extern.find fn=some Extern.BytealgIndex.index) {g:Nat} {m:Int} (hg:P.globals.findIdx? (·.name == "internal/bytealg.MaxLen")=some g) (hm:w.cell? ⟨g,0,none⟩=some (.int .i64 m))
 (hS:∀ b o,S b o→b < w.heap.size) {b:LU} (ha:qaJ w S vals [df a oa,df b oc]) (h2:2≤b.length) (h3:(b.length:Int)≤m) (h4:a.length≤1048576) :
 Ran P f vals.toArray w fun v w'=>∃ S',Grew w S w' S'∧ResRd (· < w.heap.size) w' S' v (.int .i64 (Lib.index a b)):=by
 obtain⟨u,v,rfl,h1,h5⟩:=args2 ha;obtain⟨x,rfl,rfl⟩:=qci h1;obtain⟨y,rfl,rfl⟩:=qci h5;refine .inr ⟨.int .i64 (Lib.index x.data.toList y.data.toList),w,?_,S,qcn hS,qbA⟩;rw[run_callFunc_extern hf hname hb hn he];show ((Extern.BytealgIndex.index #[.string x,.string y]).run P w).andThen _=_;rw[Lib.run_indexString x y w g m hg hm (by rw[Lib.size_eq];exact h2) (by rw[Lib.size_eq];exact h3) (by rw[Lib.size_eq];omega)];simp[Result.andThen]
theorem qrB {c:Code} (hf:P.funcs[f]? = some fn) (hb:fn.body=some c) (hname:(fn.name == "runtime.NumGoroutine")=false) (hS:∀ b o,S b o→b < w.heap.size)
 {vals:Array Value} {r:AV} (h:Calls P f vals w fun e w'=>e=.returned v∧Below w.heap.size w w') (hr:∀ w',Below w.heap.size w w'→ResRd (· < w.heap.size) w' S v r) :
 Ran P f vals w fun v w'=>∃ S',Grew w S w' S'∧ResRd (· < w.heap.size) w' S' v r:=by
 refine .inl ⟨?_,h.mono fun e w' ⟨he,hB⟩=>⟨v,he,S,⟨hB,fun _ _ _=>Iff.rfl,fun b o hs=>yH (hS b o hs) hB.size⟩,hr w' hB⟩⟩;unfold callFunc;rw[yh];have hname':¬ fn.name = "runtime.NumGoroutine" := by simpa using hname
 simp[program,Sem.run,hf,hname',hb]
theorem qKN (hS:∀ b o,S b o→b < w.heap.size) {te:TypeId} (hB:Below w.heap.size w w')
 (ho:w'.ownsRow w.heap.size te 1 v p.length (p.map fun c=>Value.int .u8 (c.toNat:Nat))) :
 ∃ S',Grew w S w' S'∧ResRd (· < w.heap.size) w' S' v (db p (some (0,te))):=by
 let S':qa:=fun b o=>S b o∨(v.ownBlock=some b∧o < p.length)
 have hch:∀ l:LU,qe (RdC w' S' .byte) l (l.map fun c=>Value.int .u8 (c.toNat:Nat)):=fun l=>by
  induction l with
  | nil=>rfl
  | cons c l ih=>exact⟨[_],_,rfl,rfl,ih⟩
 have hnew:∀ b,v.ownBlock=some b→w.heap.size≤b∧b < w'.heap.size:=fun b hb=>ho.lt b hb;refine⟨S',⟨hB,fun b o hb=>⟨fun hh=>hh.elim id (fun hh=>by have:=(hnew b hh.1).1;omega),.inl⟩,fun b o hh=>hh.elim (fun hh=>yH (hS b o hh) hB.size) (fun hh=>(hnew b hh.1).2)⟩,?_⟩;refine⟨?_,fun s x e=>(by cases e),fun s q e=>(by cases e),fun l te' e=>?_⟩
 ·rcases ho.2 with ⟨rfl,h0⟩ | ⟨g,cap,cur,rfl,h1,h2,h3,h4,h5,h6⟩
  ·have:p=[]:=yF h0;subst this;exact .dat _ _ _ _ ⟨none,0,[],rfl,yv _,rfl,fun h=>absurd rfl h⟩
  ·refine .dat _ _ _ _ ⟨some ⟨g,0,none⟩,cap,_,rfl,h3,hch p,fun _=>⟨⟨g,0,none⟩,rfl,rfl,fun i u hu=>⟨.inr ⟨rfl,?_⟩,?_⟩⟩⟩
   ·have:=(List.getElem?_eq_some_iff.1 hu).1;rw[yP] at this;show 0+i < p.length;omega
   ·have hi:=(List.getElem?_eq_some_iff.1 hu).1;rw[yP] at hi;rw[← h6,Nat.mul_one,List.getElem?_take_of_lt hi,Array.getElem?_toList] at hu;simp only[World.cell?,h2,Option.isSome_none,yq,if_false];rw[show 0+i=i by omega];exact hu
 ·simp only[AV.lab,ya,yb] at e;obtain⟨rfl,rfl⟩:=e;refine⟨.byte,p,rfl,_,⟨ho.1,?_⟩,hch p,fun b hb o=>?_,fun b hb=>by have:=(hnew b hb).1;omega⟩
  ·rcases ho.2 with h | ⟨g,cap,cur,rfl,h1,h2⟩
   ·exact .inl h
   ·exact .inr ⟨g,cap,cur,rfl,Nat.zero_le _,h2⟩
  ·constructor
   ·rintro (hh | hh)
    ·have:=hS b o hh;have:=(hnew b hb).1;omega
    ·simpa [Sh.size] using hh.2
   ·intro hh;exact .inr ⟨hb,by simpa [Sh.size] using hh⟩
theorem qwj (hG:qoM w S) (hS:∀ b o,S b o→b < w.heap.size) (ha:qaJ w S vals [db p o]) (hp:0 < p.length) :
 Ran Tryz.prog 169 vals.toArray w fun v w'=>∃ S',Grew w S w' S'∧ResRd (· < w.heap.size) w' S' v (.tup [dm (z169 p).1 none,de (z169 p).2 none]):=by
 obtain⟨u,rfl,h1⟩:=args1 ha;obtain⟨A,cap,cs,ev,hcap,hch,hm⟩:=rd_sl h1;have hcs:=qbO hch;obtain⟨ad,rfl,hmem⟩:=hm (by rintro rfl;have e:=congrArg length hcs;rw[yP] at e;simp only[List.length_nil] at e;omega);obtain⟨bb,oo,sp⟩:=ad;have hsp:=hmem.1;simp only at hsp;subst hsp;subst ev
 let s:ByteArray:=⟨(List.toArray p)⟩
 have hsz:s.size=length p:=by simp[s,ByteArray.size]
 have hcell:∀ j,j < s.size→w.cell? ⟨bb,oo+j,none⟩=some (.int .u8 (s.get! j).toNat):=fun j hj=>by
  have hj':j < length p:=by omega
  have:=(hmem.2 j (.int .u8 (p[j].toNat:Nat)) (by rw[hcs,List.getElem?_map,yO hj'];rfl)).2;rw[this];congr 3;simp[s,ByteArray.get!,hj']
 have hc:=Any7.utf8_DecodeRune Tryz.lays7_32 s bb oo cap w hG.tabs hcell;rw[hsz] at hc;have hd:Lib.decodeGo s=Lib.decodeL p:=by
  unfold Lib.decodeGo;rw[if_neg (by omega)];rfl
 rw[hd] at hc;refine qrB (fn:=Tryz.f169) (c:=Tryz.f169.body.getD .skip) Tryz.func169 (by kernel_rfl) (by kernel_rfl) hS hc (fun w' _=>⟨.tup _ _ (fun i c hi=>.inl ?_) (fun i c hi=>?_),fun s x e=>(by cases e),fun s p e=>(by cases e),fun l te e=>(by cases e)⟩)
 ·have:=(List.getElem?_eq_some_iff.1 hi).1;simpa using this
 ·match i,hi with
  | 0,hi=>simp only[y3,ya] at hi;subst hi;exact qbz _ _ _ _
  | 1,hi=>simp only[yZ,y3,ya] at hi;subst hi;exact qbz _ _ _ _
  | n+2,hi=>simp at hi
theorem qcC (p:LU):Lib.bytesOf (p.map fun c=>(c.toNat:Int))=p:=by
 unfold Lib.bytesOf;rw[List.map_map];conv=>rhs;rw[← List.map_id p]
 apply List.map_congr_left;intro c _;simp
theorem qoN (p:LU):∀ x∈(p.map fun c=>(c.toNat:Int)),0≤x∧x < 256:=by
 intro x hx;obtain⟨c,_,rfl⟩:=List.mem_map.1 hx;have:=c.toNat_lt;omega
theorem qgy (h:Rd w S v (db p o)):∃ A cap,v=.slice A p.length cap∧p.length≤cap∧(A=none→p=[]) ∧
 ∀ ad,A=some ad→∀ i,i < p.length→w.cell? (ad.add i)=some (.int .u8 ((p.map fun c=>(c.toNat:Int)).getD i 0)):=by
 obtain⟨A,cap,cs,ev,hcap,hch,hm⟩:=rd_sl h;have hcs:=qbO hch;refine⟨A,cap,ev,hcap,fun hA=>?_,fun ad hA i hi=>?_⟩
 ·cases p with
  | nil=>rfl
  | cons c r=>obtain⟨ad,e,_⟩:=hm (by rw[hcs];simp);rw[hA] at e;cases e
 ·obtain⟨ad',e,hmem⟩:=hm (by rw[hcs];rintro e;have:=congrArg length e;rw[yP] at this;simp only[List.length_nil] at this;omega);rw[hA] at e;cases e;rw[qeW ad i hmem.1];have:=(hmem.2 i (.int .u8 (p[i].toNat:Nat)) (by rw[hcs,List.getElem?_map,yO hi];rfl)).2;rw[this];simp[List.getD,List.getElem?_map,yO hi]
theorem qhr (k:LU) (hk:k≠[]):Lib.index [] k = -1:=by
 cases k with
 | nil=>exact absurd rfl hk
 | cons c r=>rfl
theorem qwk {m0:Int} (hm:w.cell? ⟨0,0,none⟩=some (.int .i64 m0)) (hS:∀ b o,S b o→b < w.heap.size) {q:LU} 
 (ha:qaJ w S vals [db p o1,db q o2]) (hp:p.length≤1048576) (hq:q.length≤1048576) (hq2:1≤q.length) :
 Ran Tryz.prog 143 vals.toArray w fun v w'=>∃ S',Grew w S w' S'∧ResRd (· < w.heap.size) w' S' v (.int .i64 (Lib.index p q)):=by
 obtain⟨u,v,rfl,h1,h2⟩:=args2 ha;obtain⟨A,cap,rfl,hcap,hA,hcA⟩:=qgy h1;obtain⟨B,cap2,rfl,hcap2,hB,hcB⟩:=qgy h2;have hent:(callFunc 143 #[.slice A (length p) cap,.slice B (length q) cap2]).run Tryz.prog w=.ok (.enter 143 #[.slice A (length p) cap,.slice B (length q) cap2]) w:=enters_of (c:=Tryz.f143.body.getD .skip) Tryz.func143 (by kernel_rfl) (by kernel_rfl) _ _;cases B with
 | none=>have:=hB rfl;subst this;simp at hq2
 | some b2 =>
  rcases Nat.lt_or_ge 1 q.length with hq3 | hq3
  ·replace hq2:2≤q.length:=hq3
   cases A with
   | none =>
    have hp0:=hA rfl;subst hp0;refine .inl ⟨hent,(Any.bytes_Index_longer Tryz.lays185 none (some b2) 0 cap (length q) cap2 w hq2 (by omega) (by omega)).mono ?_⟩;rintro e w' ⟨rfl,rfl⟩;rw[qhr q (by rintro rfl;simp at hq2)];exact⟨_,rfl,S,qcn hS,qbA⟩
   | some a1 =>
    refine .inl ⟨hent,(Any.bytes_Index_at Tryz.lays185 a1 b2 (length p) cap (length q) cap2 _ _ m0 w (by simp) (by simp) (qoN p) (qoN q) (hcA a1 rfl) (hcB b2 rfl) hcap (by omega) (by omega) hm).mono ?_⟩;rintro e w' ⟨rfl,n,rfl⟩;rw[qcC,qcC];exact⟨_,rfl,S,⟨below_drewN (Below.refl _ _) _,fun _ _ _=>Iff.rfl,hS⟩,qbA⟩
  ·have hq1:q.length=1:=by omega
   obtain⟨c,rfl⟩:=List.length_eq_one_iff.1 hq1;obtain⟨bb,oo,sp⟩:=b2;have hsp:sp=none:=by
    obtain⟨A',cap',cs',ev',_,_,hm'⟩:=rd_sl h2;simp only[Value.slice.injEq] at ev';obtain⟨e1,_,_⟩:=ev';obtain⟨ad,e2,hmm⟩:=hm' (by rintro rfl;rename_i hch' ;have:=qe.length (RdC.length .byte) hch';simp[Sh.size] at this);rw[e2] at e1;cases e1;exact hmm.1
   subst hsp;have hc0:=hcB _ rfl 0 (by simp);have hcv:w.cell? ⟨bb,oo,none⟩=some (.int .u8 (c.toNat:Nat)):=by
    rw[qeW _ _ rfl] at hc0;simpa using hc0
   have hx:(c.toNat:Int).toNat.toUInt8=c:=by simp
   have hidx:Lib.index p [c]=Lib.indexByte p c:=Lib.index_one p c;cases A with
   | none =>
    have hp0:=hA rfl;subst hp0;refine .inl ⟨hent,(qrC Tryz.lays185 cap bb oo cap2 _ w hcv).mono ?_⟩;rintro e w' ⟨rfl,rfl⟩;rw[qhr [c] (by simp)];exact⟨_,rfl,S,qcn hS,qbA⟩
   | some a1 =>
    refine .inl ⟨hent,(Any.bytes_Index_one_at Tryz.lays185 a1 (length p) cap bb oo cap2 _ _ w (by simp) (hcA a1 rfl) hcv).mono ?_⟩;rintro e w' ⟨rfl,rfl⟩;rw[qcC,hx,hidx];exact⟨_,rfl,S,qcn hS,qbA⟩
theorem qwl (hS:∀ b o,S b o→b < w.heap.size) (ha:qaJ w S vals [db p o]) (hp:p.length≤1048576) :
 Ran Tryz.prog 153 vals.toArray w fun v w'=>∃ S',Grew w S w' S'∧ResRd (· < w.heap.size) w' S' v (db p (some (0,5))):=by
 obtain⟨u,rfl,h1⟩:=args1 ha;obtain⟨A,cap,cs,ev,hcap,hch,hm⟩:=rd_sl h1;have hcs:=qbO hch;subst ev;have hent:(callFunc 153 #[.slice A (length p) cap]).run Tryz.prog w=.ok (.enter 153 #[.slice A (length p) cap]) w:=enters_of (c:=Tryz.f153.body.getD .skip) Tryz.func153 (by kernel_rfl) (by kernel_rfl) _ _;cases A with
 | none =>
  have hp0:p=[]:=by
   cases p with
   | nil=>rfl
   | cons c r=>obtain⟨ad,e,_⟩:=hm (by rw[hcs];simp);cases e
  subst hp0;refine .inl ⟨hent,(Any.bytes_Clone_nil Tryz.laysSlK4 _ cap w).mono ?_⟩;rintro e w' ⟨rfl,rfl⟩;exact⟨_,rfl,qKN hS (Below.refl _ _) ⟨rfl,.inl ⟨rfl,rfl⟩⟩⟩
 | some ad =>
  have hcell:∀ i,i < length p→w.cell? (ad.add i)=some (.int .u8 ((p.map fun c=>(c.toNat:Int)).getD i 0)):=fun i hi=>by
   obtain⟨ad',e,hmem⟩:=hm (by rw[hcs];rintro e;have:=congrArg length e;rw[yP] at this;simp only[List.length_nil] at this;omega);cases e;rw[qeW ad i hmem.1];have:=(hmem.2 i (.int .u8 (p[i].toNat:Nat)) (by rw[hcs,List.getElem?_map,yO hi];rfl)).2;rw[this];simp[List.getD,List.getElem?_map,yO hi]
  refine .inl ⟨hent,(Any.bytes_Clone_at Tryz.laysSlK4 ad (length p) cap (p.map fun c=>(c.toNat:Int)) w (by simp) (by omega) hcell).mono ?_⟩;rintro e w' ⟨v',rfl,ho,_,hB⟩;refine⟨v',rfl,qKN hS hB ?_⟩;rw[List.map_map] at ho;exact ho
theorem qwm (hS:∀ b o,S b o→b < w.heap.size) (ha:qaJ w S vals [db p o1,dp c o2]) :
 Ran Tryz.prog 193 vals.toArray w fun v w'=>∃ S',Grew w S w' S'∧ResRd (· < w.heap.size) w' S' v (.int .i64 ((p.count c:Nat):Int)):=by
 obtain⟨u,v,rfl,h1,h2⟩:=args2 ha;obtain⟨A,cap,rfl,hcap,hA,hcA⟩:=qgy h1;obtain rfl:=qbr h2;have hx:(c.toNat:Int).toNat.toUInt8=c:=by simp
 refine .inr ⟨.int .i64 ((p.count c:Nat):Int),w,?_,S,qcn hS,qbA⟩;rw[run_callFunc_extern (e:=Extern.BytealgCount.count) Tryz.func193 (by kernel_rfl) (by kernel_rfl) (by kernel_rfl) (by kernel_rfl)];show ((Extern.BytealgCount.count #[.slice A p.length cap,.int .u8 (c.toNat:Nat)]).run Tryz.prog w).andThen _=_;cases A with
 | none =>
  have hp0:=hA rfl;subst hp0;rw[Lib.run_countNil w _ cap];rfl
 | some a1 =>
  rw[Lib.run_countAt w a1 p.length cap (p.map fun c=>(c.toNat:Int)) (by simp) (hcA a1 rfl),qcC,hx];rfl
theorem qhP (w:World) (a:Addr) (p:LU) (cap:Nat) (hc:∀ i,i < p.length→w.cell? (a.add i)=some (.int .u8 ((p.map fun c=>(c.toNat:Int)).getD i 0))) (cv:Int) :
 (Extern.BytealgIndexByte.indexByte #[.slice (some a) p.length cap,.int .u8 cv]).run P w=.ok (.int .i64 (Lib.indexByte p cv.toNat.toUInt8)) w:=by
 have hl:=Lib.run_loadBytesX (P:=P) w (p.map fun c=>(c.toNat:Int)) a .empty (fun j x hj=>by
  have hjl:j < p.length:=by have:=(List.getElem?_eq_some_iff.1 hj).1;rwa[yP] at this
  rw[hc j hjl,yY,hj];rfl)
 rw[qcC,yP] at hl;have hs:=Lib.run_indexByteString (P:=P) ⟨p.toArray⟩ cv w;have he:(⟨ByteArray.empty.data++p.toArray⟩:ByteArray)=⟨p.toArray⟩:=by
  apply ByteArray.ext;show (#[]:Array UInt8)++p.toArray=p.toArray;simp
 rw[he] at hl;change Sem.run P (do
  let b ← Extern.Bytes.bytesOf (.slice (some a) p.length cap)
  let c ← Extern.Bytes.asByte (.int .u8 cv)
  match (List.range b.size).find? fun i=>b[i]! == c with
  | some i=>pure (goInt i)
  | none=>pure (goInt (-1))) w=_
 change Sem.run P (do
  let b ← Extern.Bytes.bytesOf (.string ⟨p.toArray⟩)
  let c ← Extern.Bytes.asByte (.int .u8 cv)
  match (List.range b.size).find? fun i=>b[i]! == c with
  | some i=>pure (goInt i)
  | none=>pure (goInt (-1))) w=_ at hs
 simp only[Extern.Bytes.bytesOf,yh,yu,hl,Result.andThen] at hs ⊢;exact hs
theorem qwn (hS:∀ b o,S b o→b < w.heap.size) (ha:qaJ w S vals [db p o1,dp c o2]) :
 Ran Tryz.prog 141 vals.toArray w fun v w'=>∃ S',Grew w S w' S'∧ResRd (· < w.heap.size) w' S' v (.int .i64 (Lib.indexByte p c)):=by
 obtain⟨u,v,rfl,h1,h2⟩:=args2 ha;obtain⟨A,cap,rfl,hcap,hA,hcA⟩:=qgy h1;obtain rfl:=qbr h2;have hx:(c.toNat:Int).toNat.toUInt8=c:=by simp
 refine .inr ⟨.int .i64 (Lib.indexByte p c),w,?_,S,qcn hS,qbA⟩;rw[run_callFunc_extern (e:=Extern.BytealgIndexByte.indexByte) Tryz.func141 (by kernel_rfl) (by kernel_rfl) (by kernel_rfl) (by kernel_rfl)];show ((Extern.BytealgIndexByte.indexByte #[.slice A p.length cap,.int .u8 (c.toNat:Nat)]).run Tryz.prog w).andThen _=_;cases A with
 | none =>
  have hp0:=hA rfl;subst hp0;rw[Lib.run_indexByteNil w _ cap];rfl
 | some a1 =>
  rw[qhP w a1 p cap (hcA _ rfl) _,hx];rfl
theorem qwo (hT:TabC 2 Lib.deBruijn64tab w S) (hS:∀ b o,S b o→b < w.heap.size) {x:Int} 
 (ha:qaJ w S vals [.dat (.int .u64) x o]) (h0:0≤x) (h1:x < 18446744073709551616) :
 Ran Tryz.prog 163 vals.toArray w fun v w'=>∃ S',Grew w S w' S'∧ResRd (· < w.heap.size) w' S' v (.int .i64 (z163 x)):=by
 obtain⟨u,rfl,h2⟩:=args1 ha;obtain rfl:=qaS h2;obtain⟨n,rfl⟩:∃ n:Nat,x=n:=⟨x.toNat,by omega⟩;refine .inl ⟨enters_of (c:=Tryz.f163.body.getD .skip) Tryz.func163 (by kernel_rfl) (by kernel_rfl) _ _,(Any7.bits_TrailingZeros64 Tryz.lays7_29 n (by omega) w (fun _ j hj=>(hT j hj).2)).mono ?_⟩;rintro e w' ⟨rfl,rfl⟩;exact⟨_,rfl,S,qcn hS,by
  have:z163 (n:Int)=((Lib.ctz 64 n:Nat):Int):=by simp[z163]
  rw[this];exact qbA⟩
end
end Go.Av
