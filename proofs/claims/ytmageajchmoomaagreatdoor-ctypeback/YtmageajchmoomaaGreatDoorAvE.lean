import Derived.Test.YtmageajchmoomaaGreatDoorAvD
import Derived.RangeFuncRecord
import Derived.Scope
import Derived.IntWalk
import Derived.Test.YtmageajchmoomaaGreatDoorAvB
import Derived.ReadAgain
import Derived.ChangeReads
import Derived.OpenShut
import Derived.ChangeBears
namespace Go.Av
set_option linter.unusedSimpArgs false
set_option linter.unusedVariables false
section
open Go.RowKit Go.Lib
variable {o:Oper} {d:Nat} {fr':Fr} {s ks:Sh} {kt t:TypeId} {ops:Array Oper}
section
variable {base:Nat→Prop} {w0 w:World} {S0 S:qa} {fr:Fr} {gv:Nat→Value} {a:Act} {F:Nat→Nat→Prop} {P:Program} {E:EnvP}
theorem qqK {w:World} {S:qa}:∀ (avs:List AV) (ds:List (Sigma Den)) (vals:List Value),qtJ avs=some ds→qav w S vals avs→qav w S vals (ds.map fun q=>.dat q.1 q.2 none)
 | [],ds,vals,h,ha=>by
  simp only[qtJ,ya] at h;subst h;exact ha
 | av :: avs,ds,vals,h,⟨hl,ha⟩=>by
  cases av with
  | dat s x o =>
   simp only[qtJ] at h;split at h
   ·rename_i r hr;simp only[ya] at h;subst h;cases vals with
    | nil=>simp at hl
    | cons v vals =>
     obtain⟨k1,k2⟩:=qqK avs r vals hr ⟨by simpa using hl,fun i v av hv hav=>ha (i+1) v av (by simpa using hv) (by simpa using hav)⟩;refine⟨by simpa using k1,fun i v' av' hv hav=>?_⟩;cases i with
     | zero =>
      simp only[yI,y3,ya] at hv hav;subst hv hav;exact(ha 0 v (.dat s x o) rfl rfl).relab none
     | succ i =>
      simp only[yI,yZ] at hv hav;exact k2 i v' av' hv hav
   ·cases h
  | _=>simp[qtJ] at h
theorem qIw (hn:a.tmps.size=E.nt) (h:RP P base w0 S0 S fr gv a w F) (hdst:o.dst=some d) (hd:d < a.tmps.size) (he:callY E fr o d=some (some (true,fr'))) :
 OpX P o a w (PPost P base w0 S0 E.nt gv w S F False fr'):=by
 unfold callY at he;split at he
 ·rename_i c hop;obtain⟨callee,args,argTypes⟩:=c;simp only at he;split at he
  ·rename_i y;split at he
   ·rename_i s hr;split at he
    ·rename_i t V x hs;simp only[ya] at he;split at he
     ·cases he
     rename_i hc;rw[not_or] at hc;obtain⟨ok,avs,hargs⟩:∃ ok avs,argsV E.toEnv fr true args.toList argTypes.toList=(ok,avs):=⟨_,_,rfl⟩;rw[hargs] at he;simp only at he;split at he
     ·rename_i ds hds;simp only[ya,yb,yf] at he;obtain⟨⟨rfl,hpre⟩,rfl⟩:=he;have ha:=qqK avs ds _ hds (qfD h.r _ _ _ (by simpa using hc.2) hargs);rw[← hn] at hr;obtain⟨y',ey,hy,ht,hR⟩:=h.refV hr;obtain rfl:y=y':=by simpa using ey
      have hro:(fr s).isRoot=true:=by rw[hs];rfl
      have hroot:=h.root s hro;rw[hs] at hroot hR;cases hroot with
      | tree _ _ p x' hh c h1 h2=>cases h1
      | abs _ _ _ _ hV hI =>
       have hu:tv gv a y=tv gv a s:=by
        rcases hR with ⟨_,_,_,_,h1,_⟩ | ⟨_,_,_,_,_,h2⟩
        ·cases h1
        ·exact h2
       obtain⟨b,y1,x1,hsp⟩:∃ (b:Bool) (y1:Bool) (x1:Den t),V.spec x ds=(b,y1,x1):=⟨_,_,_,rfl⟩;rw[hsp] at hpre ⊢;simp only at hpre;subst hpre;have hran:=hV.call x _ w S (F s) _ ds y1 x1 hI h.r.slt hsp ha;have e1:args.map a.eval=(args.toList.map a.eval).toArray:=by apply Array.ext';simp
       have hrun:(execOp a.eval o).run P w=(callV (tv gv a s) (args.toList.map a.eval).toArray).run P w:=by
        rw[← hu,qE gv a y hy];unfold execOp callV;simp only[hop,resolve,e1]
       have hsame:qz (fr s) (.abs t V x1)=true:=by rw[hs];rfl
       have key:∀ v w',(∃ S' F',TurnedBut (F s) w S w' S'∧v=.bool y1∧V.I x1 (tv gv a s) w' S' F'∧∀ b,F' b→F s b∨w.heap.size≤b) →
        PPost P base w0 S0 E.nt gv w S F False ((fr.turnR s (.abs t V x1)).putP d (.bool y1)) (a.put o.dst v) w':=fun v w' ⟨S',F',k1,k2,k3,k4⟩=>by
        subst k2;have hRP:=h.calledM k1 hsame (.abs t V x1 _ hV k3) k4;rw[hdst];exact⟨by rw[qg,hn],S',_,hRP.putDat hd (.dat _ _ _ _ (by simp[RdV,RdC,Sh.agg])) rfl rfl,k1.keeps,fun hf=>hf.elim⟩
       rcases hran with ⟨f,as,h1,h2⟩ | ⟨l,f,tm,as,bo,h1,h2⟩ | ⟨v,w',h1,h2⟩
       ·exact OpX.enter (hrun.trans h1) (h2.mono fun e w' ⟨v,he,hp⟩=>⟨v,he,key v w' hp⟩)
       ·exact OpX.round (hrun.trans h1) (h2.mono fun e w' ⟨v,he,hp⟩=>⟨v,he,key v w' hp⟩)
       ·exact OpX.value (hrun.trans h1) (key v w' h2)
     ·cases he
    ·cases he
   ·cases he
  ·cases he
 ·cases he
theorem qIx (hn:a.tmps.size=E.nt) (h:RP P base w0 S0 S fr gv a w F) (hF:EnvOk P E w S) (hdst:o.dst=some d) (hd:d < a.tmps.size) (he:callR E fr o d=some (some (true,fr'))) :
 OpX P o a w (PPost P base w0 S0 E.nt gv w S F False fr'):=by
 unfold callR at he;split at he
 ·rename_i c hop;obtain⟨callee,args,argTypes⟩:=c;simp only at he;split at he
  ·rename_i f;split at he
   ·rename_i sp hsp;simp only[ya] at he;split at he
    ·cases he
    rename_i hc;obtain⟨ok,avs,hargs⟩:∃ ok avs,argsV E.toEnv fr true args.toList argTypes.toList=(ok,avs):=⟨_,_,rfl⟩;rw[hargs] at he;simp only at he;split at he
    ·rename_i pre s V x hspec;simp only[ya,yb,yf] at he;obtain⟨⟨rfl,rfl⟩,rfl⟩:=he;have ha:=qfD h.r _ _ _ (by simpa using hc) hargs;have hran:=hF.2.2.2.1 f sp hsp (args.toList.map a.eval) avs s V x hspec h.r.slt ha;have e1:args.map a.eval=(args.toList.map a.eval).toArray:=by apply Array.ext';simp
     have hrun:(execOp a.eval o).run P w=(callFunc f (args.toList.map a.eval).toArray).run P w:=by
      simp only[execOp,hop,resolve,yh,Deferred.ofValue,Act.eval,yu,ye,invoke,Array.append_empty,Array.empty_append,e1]
     have key:∀ v w',(∃ (S':qa) (F:Nat→Prop),TurnedBut (fun _=>False) w S w' S'∧AbsOk P V∧V.I x v w' S' F∧∀ b,F b→w.heap.size≤b) →
      PPost P base w0 S0 E.nt gv w S F False (fr.putP d (.abs s V x)) (a.put o.dst v) w':=fun v w' ⟨S',F',k1,k2,k3,k4⟩=>by
      have g:Grew w S w' S':=⟨⟨k1.kept.os,k1.kept.tape,k1.kept.output,k1.kept.size,fun k hk=>k1.kept.block k ⟨hk,fun hf=>hf⟩⟩,fun b o hb=>k1.old b o hb (fun hf=>hf),k1.lt⟩;rw[hdst];exact⟨by rw[qg,hn],S',_,h.newRoot hd g (Fd:=F') (fun b hb=>⟨k4 b hb,k2.lt _ _ _ _ _ _ k3 hb⟩) rfl (.abs s V x v k2 k3),k1.keeps,fun hf=>hf.elim⟩
     rcases hran with ⟨h1,h2⟩ | ⟨v,w',h1,h2⟩
     ·exact OpX.enter (hrun.trans h1) (h2.mono fun e w' ⟨v,he,hp⟩=>⟨v,he,key v w' hp⟩)
     ·exact OpX.value (hrun.trans h1) (key v w' h2)
    ·cases he
   ·cases he
  ·cases he
 ·cases he
theorem qkC {av:AV} {k:Den s} (h:qvV s av=some k) (hs:s.cell=true) {v:Value} (hr:Rd w S v av):cellV s k=some v:=by
 unfold qvV at h;split at h
 ·rename_i s' x o;split at h
  ·rename_i e;subst e;simp only[ya] at h;subst h;cases hr with
   | dat _ _ _ _ hv=>exact qNb hs hv
  ·cases h
 ·cases h
theorem qGJ (hT:TyOk P E.toEnv) (h:(E.ti kt).sh=some ks) (hk:ks.key=true):∃ d,P.underlying kt=some d∧keyD ks d:=by
 have hd:=(hT kt ks h).desc;cases ks with
 | bool=>exact⟨_,hd,rfl⟩
 | int k=>exact⟨_,hd.1,rfl⟩
 | str=>exact⟨_,hd,rfl⟩
 | _=>cases hk
theorem qIy (hT:TyOk P E.toEnv) (h:(E.ti t).sh=some s) (w:World) (S:qa):∃ z,(zeroValue t).run P w=.ok z w∧RdV w S s (dflt s) z:=by
 obtain⟨i,z,hi,_,_,hz,hrd⟩:=(hT t s h).info;exact⟨z,by simp[zeroValue,typeInfo,hi,hz],hrd w S⟩
theorem qqL (hn:a.tmps.size=E.nt) (h:RP P base w0 S0 S fr gv a w F) {x:Operand} {s:Nat} {m:MapAt} (hr:qBC E.nt fr x=some s) (hm:mapAt E fr t s=some m) :
 ∃ kt vt,E.mts t=some (kt,vt)∧(E.ti kt).sh=some m.ks∧(E.ti vt).sh=some m.vs∧m.ks.key=true∧m.vs.cell=true∧AbsOk P m.V∧fr s=.abs m.s m.V (m.h ▸ m.x)∧a.eval x=tv gv a s ∧
  (∀ y w' S' F',m.V.I (m.h ▸ y) (tv gv a s) w' S' F'↔mapI m.ks m.vs y (tv gv a s) w' S' F')∧mapI m.ks m.vs m.x (tv gv a s) w S (F s):=by
 have key:∀ {sh:Sh} {V:Inv sh} {x:Den sh},fr s=.abs sh V x→RootAny P w S (F s) (fr s) (tv gv a s):=fun he=>h.root s (by rw[he];rfl);have hval:a.eval x=tv gv a s:=by
  unfold qBC at hr;split at hr
  ·rename_i y;split at hr
   ·cases hr
   rename_i hy;have hy:y < a.tmps.size:=by rw[hn];exact Nat.lt_of_not_le hy
   split at hr
   ·cases hr;exact(qE gv a s hy).symm
   ·rename_i s' hs';split at hr
    ·rename_i _ _ _ he;cases hr;rcases h.adr y s [] hs' with ⟨_,_,_,_,h1,_⟩ | ⟨_,_,_,_,_,h2⟩
     ·rw[he] at h1;cases h1
     ·exact(qE gv a y hy).symm.trans h2
    ·cases hr
   ·cases hr
  ·cases hr
 unfold mapAt at hm;split at hm
 ·rename_i sh V x0 he;split at hm
  ·rename_i ks vs kt vt hmp hmt;split at hm
   ·rename_i hc;obtain⟨e,h1,h2,h3,h4⟩:=hc;subst e;simp only[ya] at hm;subst hm;have hroot:=key he;rw[he] at hroot;cases hroot with
    | tree _ _ p x' hh c h1 h2=>cases h1
    | abs _ _ _ _ hV hI =>
     obtain⟨_,hiff⟩:=hV.mp ks vs hmp;exact⟨kt,vt,hmt,h1,h2,h3,h4,hV,he,hval,fun y w' S' F'=>hiff y _ w' S' F',(hiff x0 _ w S (F s)).1 hI⟩
   ·cases hm
  ·cases hm
 ·cases hm
theorem qvr {vt:TypeId} {d:TypeDesc} (h:MtOk P t kt vt) (hkd:P.underlying kt=some d) (hd:keyD ks d):P.underlying t=some (.map kt vt):=by
 rcases h with ⟨_,h⟩ | ⟨rfl,ps,rs,v,h⟩
 ·exact h
 ·rw[h] at hkd;obtain rfl:=yp hkd;cases ks <;> cases hd
theorem qNf (hn:a.tmps.size=E.nt) (h:RP P base w0 S0 S fr gv a w F) (hT:TyOk P E.toEnv) (hF:EnvOk P E w S) (hdst:o.dst=some d) (hd:d < a.tmps.size) (he:mapD E fr o d=some (some (true,fr'))) :
 OpX P o a w (PPost P base w0 S0 E.nt gv w S F False fr'):=by
 unfold mapD at he;split at he
 ·rename_i t hop;split at he
  ·rename_i kt vt hmt;simp only[ya] at he;split at he
   ·rename_i ks vs hks hvs;split at he
    ·simp only[ya,yb,true_and] at he;subst he;have hrun:(execOp a.eval o).run P w=.ok (.value (.map (some w.heap.size))) (w.alloc (.map #[] 0)):=by
      unfold execOp;simp only[hop,Option.map_none,yh,qom P t w,ye,yu]
     have hbel:=qK w (.map #[] 0);have g:Grew w S (w.alloc (.map #[] 0)) S:=⟨hbel,fun _ _ _=>Iff.rfl,fun b o hs=>yH (h.r.slt b o hs) hbel.size⟩;have hsz:w.heap.size < (w.alloc (.map #[] 0)).heap.size:=by show w.heap.size < (w.heap.push _).size;simp
     refine OpX.value hrun ?_;rw[hdst];exact⟨by rw[qg,hn],S,_,h.newRoot hd g (Fd:=fun k=>k=w.heap.size) (fun b hb=>by subst hb;exact⟨yv _,hsz⟩) rfl
      (.abs _ _ _ _ (qBD P ks vs) ⟨w.heap.size,#[],0,rfl,fun k=>Iff.rfl,heap_alloc_new w _,fun o ho=>Nat.lt_irrefl _ (h.r.slt _ _ ho),trivial⟩),g.keeps h.r.slt,fun hf=>hf.elim⟩
    ·cases he
   ·cases he
  ·cases he
 ·rename_i t x i c hop;split at he
  ·rename_i s hr;simp only[ya] at he;split at he
   ·rename_i m ok vi hm hi;split at he
    ·rename_i k hk;simp only[ya,yb] at he;obtain⟨rfl,rfl⟩:=he;obtain⟨kt,vt,hmt,hks,hvs,hkk,hvc,hV,hfs,hev,_,hI⟩:=qqL hn h hr hm;have hkv:=qkC hk (qvm hkk) (qt h.r hi).1;obtain⟨dk,hkd,hdk⟩:=qGJ hT hks hkk;obtain⟨z,hz,hzr⟩:=qIy hT hvs w S;obtain⟨vv,hlk,hvv⟩:=qtv (qvr (hF.2.2.2.2.2 t kt vt hmt) hkd hdk) hkd hdk hz hzr hI hkv c;have hrun:(execOp a.eval o).run P w=.ok (.value (if c then .tuple #[vv,.bool (findM k m.x).isSome] else vv)) w:=by
      unfold execOp;simp only[hop,hev,yh,hlk,ye,yu]
     refine OpX.value hrun ?_;rw[hdst];cases c with
     | false=>exact⟨by rw[qg,hn],S,_,h.putDat hd (.dat _ _ _ _ hvv) rfl rfl,Keeps.refl _ _,fun hf=>hf.elim⟩
     | true =>
     refine⟨by rw[qg,hn],S,_,h.putDat hd (.tup _ _ (fun i c hc=>?_) (fun i c hc=>?_)) rfl rfl,Keeps.refl _ _,fun hf=>hf.elim⟩
     ·match i,hc with
      | 0,_=>exact .inl (by simp)
      | 1,_=>exact .inl (by simp)
      | i+2,hc=>simp at hc
     ·match i,hc with
      | 0,hc =>
       simp only[y3,ya] at hc;subst hc;exact .dat _ _ _ _ hvv
      | 1,hc =>
       simp only[yZ,y3,ya] at hc;subst hc;exact .dat _ _ _ _ (by simp[RdV,RdC,Sh.agg])
      | i+2,hc=>simp at hc
    ·cases he
   ·cases he
  ·cases he
 ·cases he
theorem qNg (hn:a.tmps.size=E.nt) (h:RP P base w0 S0 S fr gv a w F) (hT:TyOk P E.toEnv) (hF:EnvOk P E w S) (hdst:o.dst=none) (he:mapU E fr o=some (some (true,fr'))) :
 OpX P o a w (PPost P base w0 S0 E.nt gv w S F False fr'):=by
 unfold mapU at he;split at he
 ·rename_i t x i y hop;simp only[ya] at he;split at he
  ·rename_i s hr;split at he
   ·rename_i m ok1 vi ok2 vy hm hi hy;split at he
    ·rename_i k v hk hv;simp only[ya,yb,yf] at he;obtain⟨⟨rfl,rfl⟩,rfl⟩:=he;obtain⟨kt,vt,hmt,hks,hvs,hkk,hvc,hV,hfs,hev,hiff,hI⟩:=qqL hn h hr hm;have hkv:=qkC hk (qvm hkk) (qt h.r hi).1;have hvv:=qkC hv hvc (qt h.r hy).1;obtain⟨dk,hkd,hdk⟩:=qGJ hT hks hkk;obtain⟨b,ob,ob',hFb,hb,hup,hnS,hI'⟩:=qtw (qvr (hF.2.2.2.2.2 t kt vt hmt) hkd hdk) hkd hdk hI hkv hvv;have hrun:(execOp a.eval o).run P w=.ok .skip { w with heap:=w.heap.setIfInBounds b ob' }:=by
      unfold execOp;simp only[hop,hev,yh,hup,ye,yu]
     have hne:∀ k,k≠b→(w.heap.setIfInBounds b ob')[k]? = w.heap[k]? := fun k hk=>(MapKept.heap_set hb).2 k hk;have ht:TurnedBut (F s) w S { w with heap:=w.heap.setIfInBounds b ob' } S:={
      kept:=⟨rfl,rfl,rfl,by simp,fun k hk=>hne k (fun e=>hk.2 ((hFb k).2 e))⟩
      old:=fun _ _ _ _=>Iff.rfl
      keeps:=fun b' o' hs=>⟨hs,qj (hne b' (fun e=>hnS o' (e ▸ hs))) o'⟩
      lt:=fun b' o' hs=>by simpa using h.r.slt b' o' hs }
     have hsame:qz (fr s) (.abs m.s m.V (m.h ▸ putM k v m.x))=true:=by rw[hfs];rfl
     refine OpX.skip hrun ?_;rw[hdst];have hR:=h.calledM ht hsame (.abs _ _ _ _ hV ((hiff _ _ _ _).2 hI')) (fun b hb=>.inl hb);exact⟨hn,S,_,hR,ht.keeps,fun hf=>hf.elim⟩
    ·cases he
   ·cases he
  ·cases he
 ·cases he
 ·cases he
theorem qIz (hn:a.tmps.size=E.nt) (h:RP P base w0 S0 S fr gv a w F) (hT:TyOk P E.toEnv) (hF:EnvOk P E w S) (he:callZ E fr o=some (some (true,fr'))) :
 Region.wanted o (yielded ops a.tmps)=true∧OpX P o a w (PPost P base w0 S0 E.nt gv w S F False fr'):=by
 unfold callZ at he;split at he
 ·rename_i d hdst hg;refine⟨by simp[Region.wanted,hg],?_⟩;split at he
  ·rename_i r hr;split at he
   ·cases he
   rename_i hlt;simp only[ya] at he;subst he;exact qIw hn h hdst (by rw[hn];exact Nat.lt_of_not_le hlt) hr
  ·split at he
   ·rename_i r hr;split at he
    ·cases he
    rename_i hlt;simp only[ya] at he;subst he;exact qIx hn h hF hdst (by rw[hn];exact Nat.lt_of_not_le hlt) hr
   ·split at he
    ·rename_i r hr;split at he
     ·cases he
     rename_i hlt;simp only[ya] at he;subst he;exact qNf hn h hT hF hdst (by rw[hn];exact Nat.lt_of_not_le hlt) hr
    ·cases he
 ·rename_i hdst hg;exact⟨by simp[Region.wanted,hg],qNg hn h hT hF hdst he⟩
 ·cases he
def tameX (E:EnvP) (ops:Array Oper) (fr:Fr) (o:Oper):Bool:=(callZ E fr o).isNone&&tameP E ops fr o
theorem PPost.defers {T:Prop} {a':Act} {w':World} {n:Nat} (h:PPost P base w0 S0 n gv w S F T fr' a' w'):a'.defers=[]:=by
 obtain⟨_,_,_,h,_⟩:=h;exact h.r.dfr
theorem qvs (hn:a.tmps.size=E.nt) (h:RP P base w0 S0 S fr gv a w F) (hT:TyOk P E.toEnv) (hF:∀ w S,Keeps w0 S0 w S→EnvOk P E w S) (he:stepX E ops fr o=some (true,fr')) :
 (Region.wanted o (yielded ops a.tmps)=true∧OpX P o a w (PPost P base w0 S0 E.nt gv w S F (tameX E ops fr o=true) fr')) ∨
 (Region.wanted o (yielded ops a.tmps)=false∧PPost P base w0 S0 E.nt gv w S F (tameX E ops fr o=true) fr' (a.put o.dst undef) w):=by
 unfold stepX at he;unfold tameX;split at he
 ·rename_i r hr;subst he;rw[hr];obtain⟨h1,h2⟩:=qIz (ops:=ops) hn h hT (hF _ _ h.kp) hr;exact .inl ⟨h1,h2.mono fun a' w' hp=>hp.mono (fun ht=>by simp at ht)⟩
 ·rename_i hr;rw[hr];rcases qIO hn h hT hF he with ⟨h1,h2⟩ | ⟨h1,h2⟩
  ·exact .inl ⟨h1,(h2.x fun a' w' hp=>hp.defers).mono fun a' w' hp=>hp.mono (fun ht=>by simpa using ht)⟩
  ·exact .inr ⟨h1,h2.mono (fun ht=>by simpa using ht)⟩
end
end
section
open Go.RowKit Go.Lib
variable {listed:Array Bool} {i fuel k:Nat} {C:World→Prop} {oi o:Oper} {v:Value} {a:Act} {w:World} {S:qa} {fr fr':Fr} {F:Nat→Nat→Prop}
section
variable {P:Program} {ops:Array Oper} {Q:Exit→Act→World→Prop} {md:Region.Mode}
def qfF (P:Program) (md:Region.Mode) (ops:Array Oper) (Q:Exit→Act→World→Prop) (W:Array Bool→World→Prop):Nat→Array Bool→Act→World→Prop
 | 0,listed,a,w=>Region.ready md ops listed=[]∧Q .normal a w
 | fuel+1,listed,a,w =>
  (Region.ready md ops listed=[]→Q .normal a w) ∧
  ∀ i∈Region.ready md ops listed,wpOpX P ops Q i (fun a' w'=>W (listed.setIfInBounds i true) w'∧qfF P md ops Q W fuel (listed.setIfInBounds i true) a' w') a w
theorem qlW {W:Array Bool→World→Prop}:∀ (fuel:Nat) (listed:Array Bool) (a:Act) (w:World),qfF P md ops Q W fuel listed a w→qtU P md ops Q fuel listed a w
 | 0,_,_,_,h=>h
 | fuel+1,_,_,_,h=>⟨h.1,fun i hi=>qfa (fun a' w' h'=>qlW fuel _ a' w' h'.2) (h.2 i hi)⟩
theorem qfG {W W':Array Bool→World→Prop} (h:∀ l w,W l w→W' l w):∀ (fuel:Nat) (listed:Array Bool) (a:Act) (w:World),qfF P md ops Q W fuel listed a w→qfF P md ops Q W' fuel listed a w
 | 0,_,_,_,k=>k
 | fuel+1,_,_,_,k=>⟨k.1,fun i hi=>qfa (fun a' w' k'=>⟨h _ _ k'.1,qfG h fuel _ a' w' k'.2⟩) (k.2 i hi)⟩
def qon (md:Region.Mode) (ops:Array Oper):Nat→Oper→Nat→Bool
 | 0,_,_=>false
 | n+1,o,p=>o.after.any fun e=>Region.binds md e&&(e.on==p||match ops[e.on]? with
  | some o'=>qon md ops n o' p
  | none=>false)
def qdg (md:Region.Mode) (ops:Array Oper) (listed:Array Bool) (i:Nat):Prop :=
 ∀ n j oj,ops[j]? = some oj→listed.getD j false=true→qon md ops n oj i=false
theorem qtz {md:Region.Mode} {ops:Array Oper} {oj:Oper} (hall:∀ e∈oj.after,Region.binds md e=true→listed.getD e.on false=true) (hi:listed.getD i true=false)
 (hnb:∀ n j o,ops[j]? = some o→listed.getD j false=true→qon md ops n o i=false):∀ n,qon md ops n oj i=false
 | 0=>rfl
 | n+1=>by
  simp only[qon];rw[Bool.eq_false_iff];intro h;rw[Array.any_eq_true'] at h;obtain⟨e,he,hh⟩:=h;simp only[yf,yR,beq_iff_eq] at hh;obtain⟨h1,h2⟩:=hh;have hl:=hall e he h1;rcases h2 with h2 | h2
  ·rw[h2] at hl;rcases Nat.lt_or_ge i listed.size with h' | h'
   ·simp[h'] at hi hl;rw[hi] at hl;cases hl
   ·simp[Array.getElem?_eq_none h'] at hi
  ·split at h2
   ·rename_i o' ho;rw[hnb n e.on o' ho hl] at h2;cases h2
   ·cases h2
theorem qcA {j:Nat} (h:(listed.setIfInBounds i true).getD j false=true):j=i∨listed.getD j false=true:=by
 by_cases hij:i=j
 ·exact .inl hij.symm
 ·right;rw[getD_set_ne false hij] at h;exact h
theorem qoo {W:Array Bool→World→Prop} (hi:ops[i]? = some oi) (hsel:∀ (j:Nat) (o:Oper) cs b,ops[j]? = some o→o.op≠.select cs b)
 (hQ:∀ c a w,Q (.panic c) (a.put oi.dst v) w→Q (.panic c) a w) (hanti:∀ l w,W (l.setIfInBounds i true) w→W l w) (hC:∀ l w,qdg md ops l i→W l w→C w) :
 ∀ (fuel:Nat) (listed:Array Bool) (a:Act) (w:World),
  (∀ j oj,ops[j]? = some oj→j≠i→listed.getD j true=false→(∀ e∈oj.after,Region.binds md e=true→e.on≠i)→oi.apart ops oj=true) →
  i∈Region.ready md ops listed→qdg md ops listed i→YieldsIf P ops C oi v a→C w→W (listed.setIfInBounds i true) w →
  qfF P md ops Q W fuel (listed.setIfInBounds i true) (a.put oi.dst v) w→qfF P md ops Q W (fuel+1) listed a w:=by
 intro fuel;induction fuel with
 | zero =>
  intro listed a w _ hr _ hy hc hw H;refine⟨fun h=>(by rw[h] at hr;cases hr),fun j hj=>?_⟩
  by_cases hji:j=i
  ·subst hji;exact qfb hi hy hc ⟨hw,H⟩
  ·have:=ready_mono hj hji;rw[H.1] at this;cases this
 | succ fuel ih =>
  intro listed a w hfree hr hnb hy hc hw H;refine⟨fun h=>(by rw[h] at hr;cases hr),fun j hj=>?_⟩
  by_cases hji:j=i
  ·subst hji;exact qfb hi hy hc ⟨hw,H⟩
  ·have h1:=H.2 j (ready_mono hj hji);obtain⟨hjun,oj,hoj,hall⟩:=mem_ready.1 hj;have hnot:∀ e∈oj.after,Region.binds md e=true→e.on≠i:=fun e he hb heq=>by
    have h1:=hall e he hb;have h0:=(mem_ready.1 hr).1;rw[heq] at h1;rcases Nat.lt_or_ge i listed.size with h' | h'
    ·simp[h'] at h0 h1;rw[h0] at h1;cases h1
    ·simp[Array.getElem?_eq_none h'] at h1
   have hnb':qdg md ops (listed.setIfInBounds j true) i:=fun n k ok hk hl=>by
    rcases qcA hl with rfl | hl
    ·rw[hoj] at hk;obtain rfl:=yp hk;exact qtz hall (mem_ready.1 hr).1 hnb n
    ·exact hnb n k ok hk hl
   have h2:=qtT hoj (hfree j oj hoj hji hjun hnot) (fun cs b=>hsel i oi cs b hi) (fun cs b=>hsel j oj cs b hoj) hQ hy h1;have hfree':∀ k ok,ops[k]? = some ok→k≠i→(listed.setIfInBounds j true).getD k true=false →
    (∀ e∈ok.after,Region.binds md e=true→e.on≠i)→oi.apart ops ok=true:=fun k ok hk hki hun hno=>by
    refine hfree k ok hk hki ?_ hno
    by_cases hjk:j=k
    ·subst hjk;exact hjun
    ·rw[getD_set_ne true hjk] at hun;exact hun
   refine qfa (fun a' w' h3=>?_) h2;obtain⟨h4,h5,h6⟩:=h3;rw[Array.setIfInBounds_comm _ _ (Ne.symm hji)] at h5 h6;have h7:=hanti _ _ h5;exact⟨h7,ih (listed.setIfInBounds j true) a' w' hfree' (ready_mono hr (Ne.symm hji)) hnb' h4 (hC _ _ hnb' h7) h5 h6⟩
theorem qtA {W:Array Bool→World→Prop} (hr:Region.ready md ops listed=[]) (h:Q .normal a w):∀ fuel,qfF P md ops Q W fuel listed a w
 | 0=>⟨hr,h⟩
 | _+1=>⟨fun _=>h,by rw[hr];simp⟩
theorem qvv {W:Array Bool→World→Prop} {rs:List Nat} (hr:Region.ready md ops listed=rs) (hne:rs≠[])
 (h:∀ i∈rs,wpOpX P ops Q i (fun a' w'=>W (listed.setIfInBounds i true) w'∧qfF P md ops Q W fuel (listed.setIfInBounds i true) a' w') a w):qfF P md ops Q W (fuel+1) listed a w :=
 ⟨fun h0=>absurd (hr ▸ h0) hne,hr ▸ h⟩
theorem qtB {W:Array Bool→World→Prop} {id:Nat} (ro:Option Nat) (hd:qdp ops=true) (hm:P.follows .mixedOrders=true) (dl:List Deferred)
 (h:qfF P .any ops Q W ops.size (Array.replicate ops.size false) a { w with drawn:=w.drawn+1 }):(Code.region id ops true).wpIn (FW ro) 0 P (Qup dl Q) (up dl a) w :=
 qkY ro hd hm (qhq dl _ _ _ _ (qlW _ _ _ _ h))
end
def modOp:Op→Bool
 | .store _ _ _=>true
 | .call c=>match c.callee with
  | .builtin .append=>true
  | .value _=>true
  | _=>false
 | _=>false
def qgK (ops:Array Oper) (o:Oper) (p:Nat):Bool:=qon .any ops ops.size o p
def pinOk (E:EnvP) (ops:Array Oper) (fr:Fr) (o:Oper) (p:Nat):Bool:=tameX E ops fr o||(modOp o.op&&qgK ops o p)
def qvw (E:EnvP) (fr:Fr) (ops:Array Oper) (o:Oper):Nat :=
 match o.dst with
 | none=>0
 | some d =>
  let go:Nat:=if (modM E fr o d).isNone&&(qdi E fr o d).isNone then (match qfP E fr o d with
   | some (some _)=>if modOp o.op then 0 else 1
   | some none=>0
   | none=>match qer E fr o d with
    | some (some _)=>if (fr d).isRoot then 0 else 2
    | some none=>0
    | none=>if qip o.op&&(qbs E.nt fr o.op.operands.toList).isEmpty&&(makeQ E fr o d).isNone&&(makeN E fr o d).isNone&&(makeP E fr o d).isNone&&(still E.toEnv fr true o).isSome&&qdl E.toEnv fr true o then 1 else 0) else 0
  match o.guard with
  | none=>go
  | some (j,want)=>match qmn ops fr j want with
   | some true=>go
   | some false=>if qip o.op then 1 else 0
   | none=>0
def qtC (E:EnvP) (fr:Fr) (ops:Array Oper) (o:Oper):Nat:=if (callZ E fr o).isNone then qvw E fr ops o else 0
open Classical in
noncomputable def both (x y:Option AV):Option AV:=if x=y then x else none
theorem qeL (x:Option AV):both x x=x:=by unfold both;rw[if_pos rfl]
theorem qBl {x y:Option AV} {r:AV} (h:both x y=some r):x=some r∧y=some r:=by
 unfold both at h;split at h
 ·rename_i e;exact⟨h,e ▸ h⟩
 ·cases h
noncomputable def bothL (x:Option AV):List (Option AV)→Option AV
 | []=>x
 | y :: l=>both x (bothL y l)
theorem qhY {r:AV}:∀ (l:List (Option AV)) (x:Option AV),bothL x l=some r→x=some r∧∀ y∈l,y=some r
 | [],x,h=>⟨h,fun y hy=>by cases hy⟩
 | z :: l,x,h=>by
  obtain⟨h1,h2⟩:=qBl h;obtain⟨h3,h4⟩:=qhY l z h2;exact⟨h1,fun y hy=>(List.mem_cons.1 hy).elim (fun e=>e ▸ h3) (h4 y)⟩
def qhZ (E:EnvP) (ops:Array Oper) (listed:Array Bool) (pins:List Nat) (fr:Fr) (K:Fr→Option AV) (next:Array Bool→List Nat→Fr→(Fr→Option AV)→Option AV) (i:Nat):Option AV :=
 match pins.all fun p=>pinOk E ops fr (ops.getD i default) p with
 | true=>match stepX E ops fr (ops.getD i default) with
  | some (ok,fr')=>bif ok then qjp ops (ops.getD i default).dst fr' (fun fr2=>next (listed.setIfInBounds i true) (pins.filter fun p => !(modOp (ops.getD i default).op&&qgK ops (ops.getD i default) p)) fr2 K) else none
  | none=>none
 | false=>none
def slowR (E:EnvP) (ops:Array Oper):Bool:=match E.cuts 3999999 with
 | some l=>ops.any fun o=>match o.dst with
  | some d=>l.contains d
  | none=>false
 | none=>false
def qNi (E:EnvP) (ops:Array Oper):Bool:=slowR E ops||ops.any fun o=>match o.op,o.dst with
 | .assign (.tmp y),some d=>qNp E d&&ops.any fun o'=>match o'.op,o'.dst with
  | .load t _,some d'=>d'==y&&(match (E.ti t).sh with
   | some (.sl _)=>true
   | _=>false)
  | _,_=>false
 | _,_=>false
noncomputable def qdh (E:EnvP) (ops:Array Oper):Nat→Array Bool→List Nat→Fr→(Fr→Option AV)→Option AV
 | 0,_,_,_,_=>none
 | n+1,listed,pins,fr,K=>match Region.ready .any ops listed with
  | []=>K fr
  | i :: rs=>match (i :: rs).find? (fun i=>Region.free .any ops listed i&&(qtC E fr ops (ops.getD i default)==1&&pins.all fun p=>pinOk E ops fr (ops.getD i default) p)) with
   | some k=>match stepX E ops fr (ops.getD k default) with
    | some (ok,fr')=>bif ok then qjp ops (ops.getD k default).dst fr' (fun fr2=>qdh E ops n (listed.setIfInBounds k true) pins fr2 K) else none
    | none=>none
   | none=>match (i :: rs).find? (fun i=>(qNi E ops==false&&Region.free .any ops listed i)&&(qtC E fr ops (ops.getD i default)==2&&pins.all fun p=>pinOk E ops fr (ops.getD i default) p)) with
    | some k=>match stepX E ops fr (ops.getD k default) with
     | some (ok,fr')=>bif ok then qjp ops (ops.getD k default).dst fr' (fun fr2=>qdh E ops n (listed.setIfInBounds k true) (k :: pins) fr2 K) else none
     | none=>none
    | none=>bothL (qhZ E ops listed pins fr K (qdh E ops n) i) (rs.map fun k=>qhZ E ops listed pins fr K (qdh E ops n) k)
structure Pin where
 p:Nat
 g:Nat
 o:Nat
 k:Nat
 c:Nat→Option Value
def Pin.holds (π:Pin) (w:World):Prop:=∀ i,i < π.k→w.cell? ⟨π.g,π.o+i,none⟩=π.c i
def depL (ops:Array Oper) (listed:Array Bool) (p:Nat):Prop:=∃ j oj,ops[j]? = some oj∧listed.getD j false=true∧modOp oj.op=true∧qgK ops oj p=true
section
variable {base:Nat→Prop} {w0:World} {S0:qa} {gv:Nat→Value} {P:Program} {E:EnvP}
def RRP (P:Program) (base:Nat→Prop) (w0:World) (S0:qa) (n:Nat) (gv:Nat→Value) (fr:Fr) (a:Act) (w:World):Prop:=a.tmps.size=n∧∃ S F,RP P base w0 S0 S fr gv a w F
theorem qqN {ops:Array Oper} (hi:ops[i]? = some oi) (hm:modOp oi.op=false) {l:Array Bool} {p:Nat} (h:depL ops (l.setIfInBounds i true) p):depL ops l p:=by
 obtain⟨j,oj,h1,h2,h3,h4⟩:=h;rcases qcA h2 with rfl | h2
 ·rw[hi] at h1;obtain rfl:=yp h1;rw[hm] at h3;cases h3
 ·exact⟨j,oj,h1,h2,h3,h4⟩
theorem qgL {op:Op} (h:qip op=true):modOp op=false:=by
 cases op with
 | call c =>
  obtain⟨callee,args,ts⟩:=c;simp only[qip] at h;simp only[modOp];cases callee with
  | builtin b=>cases b <;> first | rfl | cases h
  | value f=>cases h
  | invoke r m=>rfl
 | store t x y=>cases h
 | _=>rfl
theorem qBm (hn:a.tmps.size=E.nt) (h:RP P base w0 S0 S fr gv a w F) (hT:TyOk P E.toEnv) {ops:Array Oper} 
 (he:stepP E ops fr o=some (true,fr')) (ht:qvw E fr ops o=1):∃ v F',YieldsIf P ops (fun w'=>Keeps w S w' S) o v a∧RP P base w0 S0 S fr' gv (a.put o.dst v) w F'∧modOp o.op=false∧(tameP E ops fr o=true→∀ t b,F t b→∃ t',F' t' b):=by
 unfold qvw at ht;split at ht
 ·cases ht
 ·rename_i d hdst;dsimp only at ht;unfold stepP at he;simp only[hdst] at he;split at he
  ·cases he
  rename_i hlt;have hd:d < a.tmps.size:=by rw[hn];exact Nat.lt_of_not_le hlt
  have go:Region.wanted o (yielded ops a.tmps)=true→stepD E fr o d=some (true,fr') →
   ((if (modM E fr o d).isNone&&(qdi E fr o d).isNone then (match qfP E fr o d with
    | some (some _)=>if modOp o.op then 0 else 1
    | some none=>0
    | none=>match qer E fr o d with
     | some (some _)=>if (fr d).isRoot then 0 else 2
     | some none=>0
     | none=>if qip o.op&&(qbs E.nt fr o.op.operands.toList).isEmpty&&(makeQ E fr o d).isNone&&(makeN E fr o d).isNone&&(makeP E fr o d).isNone&&(still E.toEnv fr true o).isSome&&qdl E.toEnv fr true o then 1 else 0) else 0):Nat)=1 →
   ∃ v F',YieldsIf P ops (fun w'=>Keeps w S w' S) o v a∧RP P base w0 S0 S fr' gv (a.put o.dst v) w F'∧modOp o.op=false∧(qot E fr o d=true→∀ t b,F t b→∃ t',F' t' b):=by
   intro hw hs hk;have hpa:qdi E fr o d=none:=by
    cases hh:qdi E fr o d with
    | none=>rfl
    | some r=>rw[hh] at hk;simp at hk
   have hmo:modM E fr o d=none:=by
    cases hh:modM E fr o d with
    | none=>rfl
    | some r=>rw[hh] at hk;simp at hk
   unfold stepD at hs;rw[hmo] at hs hk;simp only at hs;unfold qvU qtI at hs;rw[hpa] at hs hk;simp only[Option.isNone_none,Bool.and_self,if_true] at hs hk;split at hk
   ·rename_i q hq;rw[hq] at hs;simp only at hs;obtain rfl:=yp hs;split at hk
    ·cases hk
    ·rename_i hm;obtain⟨_,v,k1,F',k2,k3⟩:=qjB hn h hT hd hq;refine⟨v,F',.inl ⟨hw,fun w' _=>k1 w' trivial⟩,by rw[hdst];exact k2,by simpa using hm,fun ht=>k3 ?_⟩;unfold qot qmg at ht;simp only[yf] at ht;simpa using ht.2.2.1.1
   ·cases hk
   ·rename_i hq;rw[hq] at hs;split at hk
    ·split at hk <;> cases hk
    ·cases hk
    ·rename_i hq2;rw[hq2] at hs;simp only at hs;split at hk
     ·rename_i hc;simp only[yf] at hc;obtain⟨⟨⟨⟨⟨⟨hst,hte⟩,hmq⟩,hmn⟩,hmk⟩,hso⟩,hta⟩:=hc;have hte':qbs E.nt fr o.op.operands.toList=[]:=by simpa using hte
      rw[hte'] at hs;simp only[qdj] at hs;have hmq':makeQ E fr o d=none:=by simpa using hmq
      rw[hmq'] at hs;simp only at hs;have hmn':makeN E fr o d=none:=by simpa using hmn
      rw[hmn'] at hs;simp only at hs;have hmk':makeP E fr o d=none:=by simpa using hmk
      rw[hmk'] at hs;simp only at hs;split at hs
      ·rename_i ok fr2 hu;split at hs
       ·cases hs
       ·rename_i hpr;simp only[ya,yb] at hs;obtain⟨rfl,rfl⟩:=hs;have hu':=hu;unfold stepU at hu';split at hu'
        ·rename_i ok v hsv;split at hu'
         ·rename_i hok;simp only[ya,yb] at hu';obtain⟨rfl,rfl⟩:=hu';obtain⟨val,k1,k2,k3⟩:=qoE h.r hT hsv (bx:=false) (.inr hta);have hR:=h.r.put_copy hd k2 k3 hok;refine⟨val,fun t b=>t≠d∧F t b,.inl ⟨hw,fun w' hk=>k1 w' ⟨hk,fun e=>by cases e⟩⟩,?_,?_,fun ht t b hb=>?_⟩
          ·rw[hdst];exact h.otherD hd hR rfl (qim hu) (by simpa using hpr)
          ·exact qgL hst
          ·unfold qot qmg at ht;simp only[yf] at ht;exact⟨t,qaX h (by simpa using ht.2.2.1.1) hb,hb⟩
         ·cases hu'
        ·rename_i hsn;rw[hsn] at hso;simp at hso
      ·cases hs
     ·cases hk
  split at he
  ·rename_i hg;simp only[hg] at ht;have:=go (by simp[Region.wanted,hg]) he ht;obtain⟨v,F',k1,k2,k3,k4⟩:=this;exact⟨v,F',k1,k2,k3,fun hh=>k4 (by unfold tameP at hh;simpa only[hdst,hg] using hh)⟩
  ·rename_i j want hg;simp only[hg] at ht;split at he
   ·rename_i hG;simp only[hG] at ht;obtain⟨v,F',k1,k2,k3,k4⟩:=go (qeT h hg hG) he ht;exact⟨v,F',k1,k2,k3,fun hh=>k4 (by unfold tameP at hh;simpa only[hdst,hg,hG] using hh)⟩
   ·rename_i hG;simp only[ya,yb,true_and] at he;subst he;simp only[hG] at ht;split at ht
    ·rename_i hst;refine⟨undef,fun t b=>t≠d∧F t b,.inr ⟨qeT h hg hG,rfl⟩,by rw[hdst];exact h.putDat hd (val:=undef) (v:=.cnd false .bad) (.cnd _ _ _ (fun _=>rfl) (fun e=>by cases e)) rfl rfl,?_,fun hh t b hb=>?_⟩
     ·exact qgL hst
     ·unfold tameP at hh;simp only[hdst,hg,hG] at hh;exact⟨t,qaX h (by simpa using hh) hb,hb⟩
    ·cases ht
   ·cases he
theorem qBn (hn:a.tmps.size=E.nt) (h:RP P base w0 S0 S fr gv a w F) (hT:TyOk P E.toEnv) {ops:Array Oper} 
 (he:stepP E ops fr o=some (true,fr')) (ht:qvw E fr ops o=2) :
 ∃ v F' g o' k,YieldsIf P ops (fun w'=>∀ i,i < k→w'.cell? ⟨g,o'+i,none⟩=w.cell? ⟨g,o'+i,none⟩) o v a∧RP P base w0 S0 S fr' gv (a.put o.dst v) w F'∧modOp o.op=false∧(∃ s,F s g)∧∀ t b,F t b→∃ t',F' t' b:=by
 unfold qvw at ht;split at ht
 ·cases ht
 ·rename_i d hdst;dsimp only at ht;unfold stepP at he;simp only[hdst] at he;split at he
  ·cases he
  rename_i hlt;have hd:d < a.tmps.size:=by rw[hn];exact Nat.lt_of_not_le hlt
  have go:Region.wanted o (yielded ops a.tmps)=true→stepD E fr o d=some (true,fr') →
   ((if (modM E fr o d).isNone&&(qdi E fr o d).isNone then (match qfP E fr o d with
    | some (some _)=>if modOp o.op then 0 else 1
    | some none=>0
    | none=>match qer E fr o d with
     | some (some _)=>if (fr d).isRoot then 0 else 2
     | some none=>0
     | none=>if qip o.op&&(qbs E.nt fr o.op.operands.toList).isEmpty&&(makeQ E fr o d).isNone&&(makeN E fr o d).isNone&&(makeP E fr o d).isNone&&(still E.toEnv fr true o).isSome&&qdl E.toEnv fr true o then 1 else 0) else 0):Nat)=2 →
   ∃ v F' g o' k,YieldsIf P ops (fun w'=>∀ i,i < k→w'.cell? ⟨g,o'+i,none⟩=w.cell? ⟨g,o'+i,none⟩) o v a∧RP P base w0 S0 S fr' gv (a.put o.dst v) w F'∧modOp o.op=false∧(∃ s,F s g)∧∀ t b,F t b→∃ t',F' t' b:=by
   intro hw hs hk;have hpa:qdi E fr o d=none:=by
    cases hh:qdi E fr o d with
    | none=>rfl
    | some r=>rw[hh] at hk;simp at hk
   have hmo:modM E fr o d=none:=by
    cases hh:modM E fr o d with
    | none=>rfl
    | some r=>rw[hh] at hk;simp at hk
   unfold stepD at hs;rw[hmo] at hs hk;simp only at hs;unfold qvU qtI at hs;rw[hpa] at hs hk;simp only[Option.isNone_none,Bool.and_self,if_true] at hs hk;split at hk
   ·split at hk <;> cases hk
   ·cases hk
   ·rename_i hq;rw[hq] at hs;split at hk
    ·rename_i q hq2;rw[hq2] at hs;simp only at hs;obtain rfl:=yp hs;split at hk
     ·cases hk
     ·rename_i hnr;obtain⟨x,k,g,o',hx,hF,_,v,k1,F',k2,k3⟩:=qjC hn h hT hd hq2;refine⟨v,F',g,o',k,.inl ⟨hw,fun w' hh=>k1 w' (fun g1 o1 e i hi=>?_)⟩,by rw[hdst];exact k2,?_,hF,k3 (by simpa using hnr)⟩
      ·rw[hx] at e;cases e;exact hh i hi
      ·unfold qer at hq2;split at hq2
       ·rename_i hop;rw[hop];rfl
       ·cases hq2
    ·cases hk
    ·split at hk <;> cases hk
  split at he
  ·rename_i hg;simp only[hg] at ht;exact go (by simp[Region.wanted,hg]) he ht
  ·rename_i j want hg;simp only[hg] at ht;split at he
   ·rename_i hG;simp only[hG] at ht;exact go (qeT h hg hG) he ht
   ·rename_i hG;simp only[hG] at ht;split at ht <;> cases ht
   ·cases he
def HeldL (ops:Array Oper) (listed:Array Bool) (w:World) (S:qa) (G:List Pin) (W:Array Bool→World→Prop):Prop :=
 ∀ l w',(∀ j,listed.getD j false=true→l.getD j false=true)→Keeps w S w' S→(∀ π∈G,depL ops l π.p∨π.holds w')→W l w'
def Anti (ops:Array Oper) (W:Array Bool→World→Prop):Prop:=∀ i oi,ops[i]? = some oi→modOp oi.op=false→∀ l w,W (l.setIfInBounds i true) w→W l w
def qlX (ops:Array Oper) (listed:Array Bool):Prop:=∀ j oj,ops[j]? = some oj→listed.getD j false=true→∀ e∈oj.after,Region.binds .any e=true→listed.getD e.on false=true
theorem qia {ops:Array Oper} (hc:qlX ops listed) (hk:k∈Region.ready .any ops listed):qlX ops (listed.setIfInBounds k true):=fun j oj hj hl e he hb=>by
 obtain⟨_,o,ho,hall⟩:=mem_ready.1 hk;rcases qcA hl with rfl | hl
 ·rw[ho] at hj;obtain rfl:=yp hj;exact getD_set_true (hall e he hb)
 ·exact getD_set_true (hc j oj hj hl e he hb)
theorem qtD {ops:Array Oper} (hc:qlX ops listed) (hk:k∈Region.ready .any ops listed):qdg .any ops listed k:=fun n=>by
 induction n with
 | zero=>intro j oj _ _;rfl
 | succ n ih =>
  intro j oj hj hl;have h0:=(mem_ready.1 hk).1;have hall:=hc j oj hj hl;rw[Bool.eq_false_iff];intro h;simp only[qon] at h;rw[Array.any_eq_true'] at h;obtain⟨e,he,hh⟩:=h;simp only[yf,yR,beq_iff_eq] at hh;obtain⟨h1,h2⟩:=hh;have hle:=hall e he h1;rcases h2 with h2 | h2
  ·rw[h2] at hle;rcases Nat.lt_or_ge k listed.size with h' | h'
   ·simp[h'] at h0 hle;rw[h0] at hle;cases hle
   ·simp[Array.getElem?_eq_none h'] at h0
  ·split at h2
   ·rename_i o' ho;rw[ih e.on o' ho hle] at h2;cases h2
   ·cases h2
theorem qjA {ops:Array Oper} {Q:Exit→Act→World→Prop} {W:Array Bool→World→Prop} (hi:ops[i]? = some oi)
 (hs:Region.noSelect ops=true) (hf:Region.free .any ops listed i=true) (hr:i∈Region.ready .any ops listed) (hQ:∀ c a w,Q (.panic c) (a.put oi.dst v) w→Q (.panic c) a w)
 (hanti:∀ l w,W (l.setIfInBounds i true) w→W l w) (hC:∀ l w,qdg .any ops l i→W l w→C w) (hcl:qlX ops listed) (hy:YieldsIf P ops C oi v a) (hc:C w) (hw:W (listed.setIfInBounds i true) w)
 (h:qfF P .any ops Q W fuel (listed.setIfInBounds i true) (a.put oi.dst v) w):qfF P .any ops Q W (fuel+1) listed a w :=
 qoo hi (Region.noSelect_spec hs) hQ hanti hC fuel listed a w (Region.free_spec hi hf) hr (qtD hcl hr) hy hc hw h
theorem qvx (hn:a.tmps.size=E.nt) (h:RP P base w0 S0 S fr gv a w F) (hT:TyOk P E.toEnv) {ops:Array Oper} 
 (he:stepX E ops fr o=some (true,fr')) (ht:qtC E fr ops o=1):∃ v F',YieldsIf P ops (fun w'=>Keeps w S w' S) o v a∧RP P base w0 S0 S fr' gv (a.put o.dst v) w F'∧modOp o.op=false∧(tameX E ops fr o=true→∀ t b,F t b→∃ t',F' t' b):=by
 unfold qtC at ht;unfold stepX at he;unfold tameX;cases hz:callZ E fr o with
 | some r=>rw[hz] at ht;simp at ht
 | none =>
  rw[hz] at ht he;simp only[Option.isNone_none,if_true] at ht;obtain⟨v,F',h1,h2,h3,h4⟩:=qBm hn h hT he ht;exact⟨v,F',h1,h2,h3,fun ht=>h4 (by simpa using ht)⟩
theorem qvy (hn:a.tmps.size=E.nt) (h:RP P base w0 S0 S fr gv a w F) (hT:TyOk P E.toEnv) {ops:Array Oper} 
 (he:stepX E ops fr o=some (true,fr')) (ht:qtC E fr ops o=2) :
 ∃ v F' g o' k,YieldsIf P ops (fun w'=>∀ i,i < k→w'.cell? ⟨g,o'+i,none⟩=w.cell? ⟨g,o'+i,none⟩) o v a∧RP P base w0 S0 S fr' gv (a.put o.dst v) w F'∧modOp o.op=false∧(∃ s,F s g)∧∀ t b,F t b→∃ t',F' t' b:=by
 unfold qtC at ht;unfold stepX at he;cases hz:callZ E fr o with
 | some r=>rw[hz] at ht;simp at ht
 | none =>
  rw[hz] at ht he;simp only[Option.isNone_none,if_true] at ht;exact qBn hn h hT he ht
theorem qeM (hT:TyOk P E.toEnv) (hF:∀ w S,Keeps w0 S0 w S→EnvOk P E w S) {ops:Array Oper} (hsel:Region.noSelect ops=true) {Q:Exit→Act→World→Prop} (hQ:∀ c a w,¬ Q (.panic c) a w) {K:Fr→Option AV} {r:AV}
 (hK:∀ fr' a' w',K fr'=some r→RRP P base w0 S0 E.nt gv fr' a' w'→Q .normal a' w') :
 ∀ (n m:Nat) (listed:Array Bool) (G:List Pin) (fr:Fr) (a:Act) (w:World) (S:qa) (F:Nat→Nat→Prop) (W:Array Bool→World→Prop),qdh E ops n listed (G.map Pin.p) fr K=some r→a.tmps.size=E.nt →
  RP P base w0 S0 S fr gv a w F→(∀ π∈G,π.holds w∧∃ t,F t π.g)→HeldL ops listed w S G W→Anti ops W→qlX ops listed→n≤m+1→qfF P .any ops Q W m listed a w
 | 0,m,listed,G,fr,a,w,S,F,W,he,_,_,_,_,_,_,_=>by simp[qdh] at he
 | n+1,m,listed,G,fr,a,w,S,F,W,he,hn,h,hG,hW,hA,hcl,hle=>by
  simp only[qdh] at he;split at he
  ·rename_i hr;exact qtA hr (hK fr a w he ⟨hn,S,F,h⟩) m
  ·rename_i i rs hr;cases m with
   | zero =>
    exfalso;obtain rfl:n=0:=by omega
    have no:∀ (k:Nat) (ps:List Nat),(match stepX E ops fr (ops.getD k default) with
     | some (ok,fr')=>bif ok then qjp ops (ops.getD k default).dst fr' (fun fr2=>qdh E ops 0 (listed.setIfInBounds k true) ps fr2 K) else none
     | none=>none)≠some r:=fun k ps hh=>by
     split at hh
     ·rename_i ok fr' _;cases ok with
      | false=>cases hh
      | true=>simp only[yc] at hh;obtain⟨_,hh,_⟩:=qbk hh;simp[qdh] at hh
     ·cases hh
    split at he
    ·exact no _ _ he
    ·split at he
     ·exact no _ _ he
     ·replace he:=(qhY _ _ he).1
      unfold qhZ at he;split at he
      ·exact no _ _ he
      ·cases he
   | succ m =>
    have getOp:∀ k,k∈Region.ready .any ops listed→∃ o,ops[k]? = some o∧ops.getD k default=o:=fun k hk=>by
     obtain⟨_,o,ho,_⟩:=mem_ready.1 hk;obtain⟨hlt,e⟩:=Array.getElem?_eq_some_iff.1 ho;refine⟨o,ho,?_⟩;unfold Array.getD;rw[dif_pos hlt];exact e
    have ext:∀ (k:Nat) (l:Array Bool),(∀ j:Nat,(listed.setIfInBounds k true).getD j false=true→l.getD j false=true)→∀ j:Nat,listed.getD j false=true→l.getD j false=true:=fun k l hl j hj=>hl j (getD_set_true hj);split at he
    ·
     rename_i k hk;have hmem:=List.mem_of_find?_eq_some hk;have hprop:=List.find?_some hk;simp only[yf,beq_iff_eq,List.all_eq_true] at hprop;obtain⟨hfree,htk,hpins⟩:=hprop;rw[← hr] at hmem;obtain⟨o,ho,hget⟩:=getOp k hmem;rw[hget] at he htk hpins;split at he
     ·rename_i ok fr' hs;cases ok with
      | false=>cases he
      | true =>
       simp only[yc] at he;obtain⟨fr2,he,hr2⟩:=qbk he;obtain⟨v,F',hy,hR,hmd,htm⟩:=qvx hn h hT hs htk
       replace hR:=hR.res1 hr2
       have hG':∀ π∈G,π.holds w∧∃ t,F' t π.g:=fun π hπ=>by
        obtain⟨h1,t,h2⟩:=hG π hπ;have h3:=hpins π.p (List.mem_map_of_mem hπ);unfold pinOk at h3;rw[hmd] at h3;exact⟨h1,htm (by simpa using h3) t π.g h2⟩
       have hrest:=qeM hT hF hsel hQ hK n m (listed.setIfInBounds k true) G fr2 (a.put o.dst v) w S F' (fun l w'=>W l w'∧Keeps w S w' S) he (by rw[qg,hn]) hR hG'
        (fun l w' hl hk' hp=>⟨hW l w' (ext k l hl) hk' hp,hk'⟩) (fun i oi hi hm l w' hh=>⟨hA i oi hi hm l w' hh.1,hh.2⟩) (qia hcl hmem) (by omega)
       refine qfG (W:=fun l w'=>W l w'∧Keeps w S w' S) (fun _ _ hh=>hh.1) _ _ _ _ ?_;refine qjA ho hsel hfree hmem (fun c a w hq=>absurd hq (hQ c _ w)) (fun l w' hh=>⟨hA k o ho hmd l w' hh.1,hh.2⟩) (C:=fun w'=>Keeps w S w' S) (fun l w' _ hh=>hh.2) hcl hy (Keeps.refl w S)
        ⟨hW _ w (fun j hj=>getD_set_true hj) (Keeps.refl w S) (fun π hπ=>.inr (hG π hπ).1),Keeps.refl w S⟩ hrest
     ·cases he
    ·split at he
     ·
      rename_i k hk;have hmem:=List.mem_of_find?_eq_some hk;have hprop:=List.find?_some hk;simp only[yf,beq_iff_eq,List.all_eq_true] at hprop;obtain⟨⟨_,hfree⟩,htk,hpins⟩:=hprop;rw[← hr] at hmem;obtain⟨o,ho,hget⟩:=getOp k hmem;rw[hget] at he htk hpins;split at he
      ·rename_i ok fr' hs;cases ok with
       | false=>cases he
       | true =>
        simp only[yc] at he;obtain⟨fr2,he,hr2⟩:=qbk he;obtain⟨v,F',g,o',kk,hy,hR,hmd,⟨s,hFs⟩,htm⟩:=qvy hn h hT hs htk
        replace hR:=hR.res1 hr2
        let π0:Pin:=⟨k,g,o',kk,fun i=>w.cell? ⟨g,o'+i,none⟩⟩
        have hG':∀ π∈π0 :: G,π.holds w∧∃ t,F' t π.g:=fun π hπ=>by
         rcases List.mem_cons.1 hπ with rfl | hπ
         ·exact⟨fun i _=>rfl,htm s g hFs⟩
         ·obtain⟨h1,t,h2⟩:=hG π hπ;exact⟨h1,htm t π.g h2⟩
        have hrest:=qeM hT hF hsel hQ hK n m (listed.setIfInBounds k true) (π0 :: G) fr2 (a.put o.dst v) w S F' (fun l w'=>W l w'∧(depL ops l k∨π0.holds w')) he (by rw[qg,hn]) hR hG'
         (fun l w' hl hk' hp=>⟨hW l w' (ext k l hl) hk' (fun π hπ=>hp π (List.mem_cons_of_mem _ hπ)),hp π0 (List.mem_cons_self ..)⟩)
         (fun i oi hi hm l w' hh=>⟨hA i oi hi hm l w' hh.1,hh.2.imp (qqN hi hm) id⟩) (qia hcl hmem) (by omega)
        refine qfG (W:=fun l w'=>W l w'∧(depL ops l k∨π0.holds w')) (fun _ _ hh=>hh.1) _ _ _ _ ?_;refine qjA ho hsel hfree hmem (fun c a w hq=>absurd hq (hQ c _ w)) (fun l w' hh=>⟨hA k o ho hmd l w' hh.1,hh.2.imp (qqN ho hmd) id⟩) (C:=fun w'=>π0.holds w') (fun l w' hnb hh=>?_) hcl hy (fun _ _=>rfl)
         ⟨hW _ w (fun j hj=>getD_set_true hj) (Keeps.refl w S) (fun π hπ=>.inr (hG π hπ).1),.inr (fun _ _=>rfl)⟩ hrest
        rcases hh.2 with ⟨j,oj,h1,h2,_,h4⟩ | h1
        ·unfold qgK at h4;rw[hnb _ j oj h1 h2] at h4;cases h4
        ·exact h1
      ·cases he
     ·
      rename_i hnone1 hnone2;obtain⟨he1,he2⟩:=qhY _ _ he;refine qvv hr (by simp) (fun j hj=>?_);have hmem:j∈Region.ready .any ops listed:=by rw[hr];exact hj
      replace he:qhZ E ops listed (G.map Pin.p) fr K (qdh E ops n) j=some r:=by
       rcases List.mem_cons.1 hj with rfl | hj
       ·exact he1
       ·exact he2 _ (List.mem_map_of_mem hj)
      unfold qhZ at he
      ·split at he
       ·rename_i hpins;obtain⟨o,ho,hget⟩:=getOp j hmem;rw[hget] at he hpins;simp only[List.all_eq_true] at hpins;split at he
        ·rename_i ok fr' hs;cases ok with
         | false=>cases he
         | true =>
          simp only[yc] at he;obtain⟨fr2,he,hr2⟩:=qbk he;refine qmz ho (qvs hn h hT hF hs) (fun a' w' ⟨hn',S',F',hR,hk,htm⟩=>?_)
          replace hR:=hR.res1 hr2
          have hkw:Keeps w S w' S:=fun b o hs=>⟨hs,(hk b o hs).2⟩;have hjl:(listed.setIfInBounds j true).getD j false=true:=by
           obtain⟨h0,_⟩:=mem_ready.1 hmem;rcases Nat.lt_or_ge j listed.size with h' | h'
           ·simp[h']
           ·simp[Array.getElem?_eq_none h'] at h0
          have pin:∀ π∈G,(modOp o.op=true∧qgK ops o π.p=true)∨(tameX E ops fr o=true∧π.holds w'∧∃ t,F' t π.g):=fun π hπ=>by
           have h3:=hpins π.p (List.mem_map_of_mem hπ);unfold pinOk at h3;simp only[yR,yf] at h3;rcases h3 with h3 | h3
           ·obtain⟨h1,t,h2⟩:=hG π hπ;obtain⟨h4,h5⟩:=htm h3 t π.g h2;exact .inr ⟨h3,fun i hi=>(qj h4 _).trans (h1 i hi),h5⟩
           ·exact .inl h3
          refine⟨hW _ w' (fun j' hj'=>getD_set_true hj') hkw (fun π hπ=>?_),?_⟩
          ·rcases pin π hπ with ⟨h1,h2⟩ | ⟨_,h1,_⟩
           ·exact .inl ⟨j,o,ho,hjl,h1,h2⟩
           ·exact .inr h1
          ·have hfil:((G.filter fun π => !(modOp o.op&&qgK ops o π.p)).map Pin.p)=(G.map Pin.p).filter fun p => !(modOp o.op&&qgK ops o p):=by
            rw[List.filter_map];rfl
           rw[← hfil] at he;refine qeM hT hF hsel hQ hK n m (listed.setIfInBounds j true) _ fr2 a' w' S' F' W he hn' hR (fun π hπ=>?_) (fun l w2 hl hk2 hp=>hW l w2 (ext j l hl) (fun b o hs=>⟨hs,((hk2 b o (hk b o hs).1).2).trans (hk b o hs).2⟩) (fun π hπ=>?_)) hA (qia hcl hmem) (by omega)
           ·obtain⟨h1,h2⟩:=List.mem_filter.1 hπ;rcases pin π h1 with ⟨h3,h4⟩ | ⟨_,h3,h4⟩
            ·rw[h3,h4] at h2;cases h2
            ·exact⟨h3,h4⟩
           ·by_cases hmw:(modOp o.op&&qgK ops o π.p)=true
            ·simp only[yf] at hmw;exact .inl ⟨j,o,ho,hl j hjl,hmw.1,hmw.2⟩
            ·exact hp π (List.mem_filter.2 ⟨hπ,by rw[Bool.not_eq_true'];exact Bool.eq_false_iff.2 hmw⟩)
        ·cases he
       ·cases he
end
end
section
open Go.RowKit Go.Lib
variable {t:Nat} {l:List Nat} {p:PSh} {b1:Nat→Prop}
def qA:AV→Bool
 | .pbox _ _ none=>true
 | _=>false
def stOf (fr:Fr):List Nat→Sigma Den
 | []=>⟨.unit,()⟩
 | t :: l=>match fr t with
  | .pbox p x none=>⟨.pair p.sh (stOf fr l).1,(x,(stOf fr l).2)⟩
  | _=>stOf fr l
def setSt (fr:Fr):List Nat→(s:Sh)→Den s→Fr
 | [],_,_=>fr
 | t :: l,s,x=>match fr t with
  | .pbox p _ none=>match s,x with
   | .pair a b,x=>if h:a=p.sh then (fun u=>if u=t then .pbox p (h ▸ x.1) none else setSt fr l b x.2 u) else fr
   | _,_=>fr
  | _=>setSt fr l s x
def qgZ (n:Nat) (fr:Fr) (fr':Fr):List Nat→Option (Sigma Den)
 | []=>some ⟨.unit,()⟩
 | t :: l=>match fr t with
  | .pbox p _ none=>match fr' (n+1000+t) with
   | .pbox p' x none=>if p'=p then (match qgZ n fr fr' l with
    | some ⟨s,y⟩=>some ⟨.pair p'.sh s,(x,y)⟩
    | none=>none) else none
   | _=>none
  | _=>qgZ n fr fr' l
def kpV (n:Nat) (L:List Nat) (fr:Fr) (t:Nat):AV:=match fr t with
 | .pbox _ _ none=>.padr (n+1000+t) []
 | .padr s r=>if qaS r&&(L.contains s&&qA (fr s)) then .padr (n+1000+s) r else .bad
 | .dat s x _=>.dat s x none
 | .adr s x=>.adr s x
 | _=>.bad
def ghV (fr:Fr) (t:Nat):AV:=match fr t with
 | .pbox p x none=>.pbox p x none
 | _=>.bad
def qkK (n:Nat) (L:List Nat) (fr:Fr):Fr:=frOf ((L.map fun t=>(t,kpV n L fr t))++L.map fun t=>(n+1000+t,ghV fr t))
def qBx:Fr→List Nat→List (Sigma Den)→Fr
 | fr,p :: ps,q :: qs=>qBx (fr.putP p (.dat q.1 q.2 none)) ps qs
 | fr,_,_=>fr
def yfin (s1:Sh) (x:Den (.pair .bool s1)) (r:Option AV):Bool×Bool×Den (.pair .bool s1) :=
 match r with
 | some (.dat s' y _)=>if h:s'=.pair .bool s1 then (true,!(h ▸ y:Den (.pair .bool s1)).1,(h ▸ y:Den (.pair .bool s1))) else (false,false,x)
 | _=>(false,false,x)
def kAsg (k:Fr→Option AV):Ex→Fr→Option AV
 | .normal,fr=>k fr
 | _,_=>none
def qIK (n:Nat) (L:List Nat) (fr:Fr):Ex→Fr→Option AV
 | .normal,fr'=>match qgZ n fr fr' L with
  | some ⟨s,y⟩=>some (.dat (.pair .bool s) (false,y) none)
  | none=>none
 | .ret,fr'=>match qgZ n fr fr' L with
  | some ⟨s,y⟩=>some (.dat (.pair .bool s) (true,y) none)
  | none=>none
 | .exit _,_=>none
noncomputable def yspec (n:Nat) (A B:(Ex→Fr→Option AV)→Fr→Option AV) (fr:Fr) (L ps:List Nat) (x:Den (.pair .bool (stOf fr L).1)) (qs:List (Sigma Den)):Bool×Bool×Den (.pair .bool (stOf fr L).1) :=
 bif x.1 then (false,false,x) else bif decide (ps.length=qs.length) then
  yfin (stOf fr L).1 x (A (kAsg (B (qIK n L fr))) (qBx (qkK n L (setSt fr L (stOf fr L).1 x.2)) ps qs)) else (false,false,x)
def endFr (fr:Fr) (y:Nat) (L:List Nat) (fr2:Fr):Fr:=fun t =>
 if t=y then .bad else if L.contains t&&qA (fr t) then fr2 t else match fr t with
  | .padr s r=>if s=y then .bad else if L.contains s&&qA (fr s) then (if qaS r then .padr s r else .bad) else .padr s r
  | .pval s r=>if s=y||(L.contains s&&qA (fr s)) then .bad else .pval s r
  | v=>v
section
variable {base:Nat→Prop} {w0 w:World} {S0 S:qa} {fr:Fr} {gv:Nat→Value} {a:Act} {F:Nat→Nat→Prop} {P:Program}
theorem RP.fresh (hd:a.defers=[]) (hsl:∀ b o,S b o→b < w.heap.size) (hno:∀ t,(fr t).lab=none∧(∀ s x,fr t≠.box s x)∧(∀ s p,fr t≠.badr s p∧fr t≠.clom s p)∧∀ s r,fr t≠.pval s r) (hrd:∀ t,Rd w S (a.tmps.getD t undef) (fr t))
 (hF:∀ t b,F t b→b < w.heap.size) (hdj:∀ t t' b,t≠t'→F t b→¬ F t' b) (hnr:∀ t,(fr t).isRoot=false→∀ b,¬ F t b) (hroot:∀ t,(fr t).isRoot=true→RootAny P w S (F t) (fr t) (tv gv a t))
 (hadr:∀ t s r,fr t=.padr s r→RefAt w S (fr s) (tv gv a s) r (tv gv a t) (F s)):RP P (fun b=>b < w.heap.size∧¬ ∃ t,F t b) w S S fr gv a w F where
 r:={
  below:=Kept.refl _ _
  base_le:=fun k hk=>hk.elim (·.1) (fun ⟨t,ht⟩=>hF t k ht)
  old:=fun _ _ _=>Iff.rfl
  kp:=Keeps.refl _ _
  slt:=hsl
  dfr:=hd
  rd:=hrd
  cp:=fun t l e he=>by rw[(hno t).1] at he;cases he
  sls:=fun t s x l he=>by have:=(hno t).1;rw[he] at this;cases this
  own:=fun t e x te he=>by have:=(hno t).1;rw[he] at this;cases this
  dist:=fun l l' e e' b he=>by rw[(hno l).1] at he;cases he
  box:=fun t s x he=>absurd he ((hno t).2.1 s x)
  boxd:=fun t t' s s' x x' b he=>absurd he ((hno t).2.1 s x)
  boxo:=fun t s x b l e he=>absurd he ((hno t).2.1 s x)
  badr:=fun t s p he=>absurd he ((hno t).2.2.1 s p).1
  clm:=fun t f ss he=>absurd he ((hno t).2.2.1 f ss).2 }
 below:=Kept.refl _ _
 old:=fun _ _ _=>Iff.rfl
 kp:=Keeps.refl _ _
 nb:=fun t b hb hB=>hB.2 ⟨t,hb⟩
 dj:=hdj
 nroot:=hnr
 root:=hroot
 adr:=hadr
 val:=fun t s r he=>absurd he ((hno t).2.2.2 s r)
theorem qqY:∀ (ps:List Nat) (qs:List (Sigma Den)) (vals:List Value) (fr:Fr) (a:Act) (F:Nat→Nat→Prop),RP P base w0 S0 S fr gv a w F→(∀ p∈ps,p < a.tmps.size)→qav w S vals (qs.map fun q=>.dat q.1 q.2 none)→ps.length=qs.length →
 ∃ F',RP P base w0 S0 S (qBx fr ps qs) gv { a with tmps:=(ps.zip vals).foldl (fun t (p,v)=>t.setIfInBounds p v) a.tmps } w F'∧((ps.zip vals).foldl (fun t (p,v)=>t.setIfInBounds p v) a.tmps).size=a.tmps.size
 | [],qs,vals,fr,a,F,h,_,_,_=>⟨F,by cases qs <;> exact h,rfl⟩
 | p :: ps,[],vals,fr,a,F,h,_,_,hl=>by simp at hl
 | p :: ps,q :: qs,[],fr,a,F,h,_,ha,_=>by have:=ha.1;simp at this
 | p :: ps,q :: qs,v :: vals,fr,a,F,h,hp,ha,hl=>by
  have hpl:=hp p (by simp);have h1:=h.putDat hpl (v:=.dat q.1 q.2 none) (ha.2 0 v _ rfl rfl) rfl rfl;have hs:=qg a (some p) v;obtain⟨F',h2,h3⟩:=qqY ps qs vals _ (a.put (some p) v) _ h1 (fun p' hp'=>by rw[hs];exact hp p' (by simp[hp'])) ⟨by have:=ha.1;simpa using this,fun i v' av' hv hav=>ha.2 (i+1) v' av' (by simpa using hv) (by simpa using hav)⟩ (by simpa using hl);exact⟨F',h2,h3.trans hs⟩
end
section
variable {fr:Fr}
theorem qab {v:AV}:qA v=true↔∃ p x,v=.pbox p x none:=by
 constructor
 ·intro h;unfold qA at h;split at h
  ·exact⟨_,_,rfl⟩
  ·cases h
 ·rintro⟨p,x,rfl⟩;rfl
theorem qkL {x:Den p.sh} (h:fr t=.pbox p x none):stOf fr (t :: l)=⟨.pair p.sh (stOf fr l).1,(x,(stOf fr l).2)⟩:=by
 simp only[stOf,h]
theorem qqZ (h:¬ qA (fr t)=true):stOf fr (t :: l)=stOf fr l:=by
 simp only[stOf];split
 ·rename_i p x e;rw[e] at h;exact absurd rfl h
 ·rfl
theorem qhm {x0:Den p.sh} {b:Sh} (h:fr t=.pbox p x0 none) (x:Den (.pair p.sh b)) :
 setSt fr (t :: l) (.pair p.sh b) x=fun u=>if u=t then .pbox p x.1 none else setSt fr l b x.2 u:=by
 simp only[setSt,h,dif_pos]
theorem qkM {s:Sh} {x:Den s} (h:¬ qA (fr t)=true):setSt fr (t :: l) s x=setSt fr l s x:=by
 simp only[setSt];split
 ·rename_i p x e;rw[e] at h;exact absurd rfl h
 ·rfl
theorem qfO:∀ (L:List Nat) (s:Sh) (x:Den s) (t:Nat),s=(stOf fr L).1→¬ (t∈L∧qA (fr t)=true)→setSt fr L s x t=fr t
 | [],s,x,t,_,_=>rfl
 | t0 :: l,s,x,t,hs,hn=>by
  by_cases hb:qA (fr t0)=true
  ·obtain⟨p,x0,hf⟩:=qab.1 hb;rw[qkL hf] at hs;subst hs;rw[qhm hf];have hne:¬ t=t0:=fun e=>hn ⟨by simp[e],by rw[e];exact hb⟩;simp only[hne,if_false];exact qfO l _ _ t rfl (fun h=>hn ⟨by simp[h.1],h.2⟩)
  ·rw[qkM hb];rw[qqZ hb] at hs;exact qfO l s x t hs (fun h=>hn ⟨by simp[h.1],h.2⟩)
theorem qkN:∀ (L:List Nat) (s:Sh) (x:Den s) (t:Nat) (p:PSh) (x0:Den p.sh),s=(stOf fr L).1→t∈L→fr t=.pbox p x0 none→∃ x',setSt fr L s x t=.pbox p x' none
 | [],s,x,t,p,x0,_,ht,_=>by cases ht
 | t0 :: l,s,x,t,p,x0,hs,ht,hf=>by
  by_cases hb:qA (fr t0)=true
  ·obtain⟨p0,x00,hf0⟩:=qab.1 hb;rw[qkL hf0] at hs;subst hs;rw[qhm hf0]
   by_cases e:t=t0
   ·subst e;rw[hf0] at hf;cases hf;simp only[if_true];exact⟨_,rfl⟩
   ·simp only[e,if_false];exact qkN l _ _ t p x0 rfl ((List.mem_cons.1 ht).resolve_left e) hf
  ·rw[qkM hb];rw[qqZ hb] at hs;have e:t≠t0:=fun e=>by subst e;rw[hf] at hb;exact hb rfl
   exact qkN l s x t p x0 hs ((List.mem_cons.1 ht).resolve_left e) hf
theorem qil:∀ (L:List Nat) (t:Nat),setSt fr L (stOf fr L).1 (stOf fr L).2 t=fr t
 | [],t=>rfl
 | t0 :: l,t=>by
  by_cases hb:qA (fr t0)=true
  ·obtain⟨p0,x00,hf0⟩:=qab.1 hb;rw[qkL hf0,qhm hf0]
   by_cases e:t=t0
   ·subst e;simp only[if_true,hf0]
   ·simp only[e,if_false];exact qil l t
  ·rw[qqZ hb,qkM hb];exact qil l t
theorem qhn {n:Nat} {fr':Fr}:∀ (L:List Nat) (s:Sh) (y:Den s),qgZ n fr fr' L=some ⟨s,y⟩→s=(stOf fr L).1∧∀ t,t∈L→qA (fr t)=true→fr' (n+1000+t)=setSt fr L s y t
 | [],s,y,h=>by
  simp only[qgZ,ya,yD] at h;obtain⟨rfl,_⟩:=h;exact⟨rfl,fun t ht=>by cases ht⟩
 | t0 :: l,s,y,h=>by
  by_cases hb:qA (fr t0)=true
  ·obtain⟨p0,x00,hf0⟩:=qab.1 hb;simp only[qgZ,hf0] at h;split at h
   ·rename_i p' x hg;split at h
    ·rename_i hp;subst hp;split at h
     ·rename_i s' y' hrest;simp only[ya,yD] at h;obtain⟨rfl,h⟩:=h;cases h;obtain⟨k1,k2⟩:=qhn l s' y' hrest;refine⟨by rw[qkL hf0,k1],fun t ht hbt=>?_⟩;rw[qhm hf0]
      by_cases e:t=t0
      ·subst e;simp only[if_true];exact hg
      ·simp only[e,if_false];exact k2 t ((List.mem_cons.1 ht).resolve_left e) hbt
     ·cases h
    ·cases h
   ·cases h
  ·rw[qqZ hb];have h':qgZ n fr fr' l=some ⟨s,y⟩:=by
    rw[← h];simp only[qgZ];split
    ·rename_i p x e;rw[e] at hb;exact absurd rfl hb
    ·rfl
   obtain⟨k1,k2⟩:=qhn l s y h';refine⟨k1,fun t ht hbt=>?_⟩;rw[qkM hb];have e:t≠t0:=fun e=>by subst e;exact hb hbt
   exact k2 t ((List.mem_cons.1 ht).resolve_left e) hbt
end
inductive Marks (base base':Nat→Prop) (w:World) (S:qa):List Deferred→Prop
 | nil:Marks base base' w S []
 | cons (D:Nat) (dl:List Deferred) (h1:base' D) (h2:¬ base D) (h3:w.heap[D]? = some (.deferred (some []))) (h5:∀ i,¬ S D i) (h4:∀ d∈dl,d.target≠.collected D) (h:Marks base base' w S dl):Marks base base' w S ({ target:=.collected D,args := #[] } :: dl)
theorem Marks.mono {base b2:Nat→Prop} {w w':World} {S S':qa} (hb:∀ k,b1 k→b2 k) {dl:List Deferred} (h:Marks base b1 w S dl) (hw:∀ k,b1 k→¬ base k→(∃ d∈dl,d.target=.collected k)→w'.heap[k]? = w.heap[k]? ∧ ∀ i,S' k i→S k i):Marks base b2 w' S' dl:=by
 induction h with
 | nil=>exact .nil
 | cons D dl h1 h2 h3 h5 h4 _ ih =>
  obtain⟨k1,k2⟩:=hw D h1 h2 ⟨{ target:=.collected D,args := #[] },List.mem_cons_self ..,rfl⟩;exact .cons D dl (hb D h1) h2 (k1.trans h3) (fun i hi=>h5 i (k2 i hi)) h4 (ih (fun k hk hn ⟨d,hd,e⟩=>hw k hk hn ⟨d,by simp[hd],e⟩))
theorem Marks.ne {base:Nat→Prop} {w:World} {S:qa} {dl:List Deferred} (h:Marks base b1 w S dl) {D:Nat} (hD:¬ b1 D):∀ d∈dl,d.target≠.collected D:=by
 induction h with
 | nil=>intro d hd;cases hd
 | cons D' dl h1 h2 h3 h5 h4 _ ih =>
  intro d hd;rcases List.mem_cons.1 hd with rfl | hd
  ·intro e;simp only[Target.collected.injEq] at e;exact hD (e ▸ h1)
  ·exact ih d hd
section
variable {base:Nat→Prop} {w0 w:World} {S0 S:qa} {fr:Fr} {gv:Nat→Value} {a:Act} {F:Nat→Nat→Prop} {P:Program}
theorem RP.weaken {base':Nat→Prop} {w1:World} {S1:qa} (h:RP P base' w1 S1 S fr gv a w F) (hb:∀ k,base k→base' k) (hk:Kept base w0 w1) (hK:Keeps w0 S0 w1 S1) (hS:∀ b o,base b→(S1 b o↔S0 b o)):RP P base w0 S0 S fr gv a w F where
 r:=h.r.rebase (fun k hk=>hk.imp (hb k) id)
 below:=⟨h.below.os.trans hk.os,h.below.tape.trans hk.tape,h.below.output.trans hk.output,yL hk.size h.below.size,fun k hB=>(h.below.block k (hb k hB)).trans (hk.block k hB)⟩
 old:=fun b o hB=>(h.old b o (hb b hB)).trans (hS b o hB)
 kp:=hK.trans h.kp
 nb:=fun t b hF hB=>h.nb t b hF (hb b hB)
 dj:=h.dj
 nroot:=h.nroot
 root:=h.root
 adr:=h.adr
 val:=h.val
theorem qaC {l:Nat} {o:Obj} (hl:∀ i,¬ S l i):Keeps w S (w.putObj l o) S:=fun b i hs=>⟨hs,qj (World.putObj_heap_other (fun e=>by subst e;exact hl i hs)) i⟩
theorem RP.touch (h:RP P base w0 S0 S fr gv a w F) {l:Nat} (hbl:base l) (hl:∀ i,¬ S l i) (o:Obj):RP P base (w.putObj l o) S S fr gv a (w.putObj l o) F:=by
 have hk:Keeps w S (w.putObj l o) S:=qaC hl;have hoth:∀ k,k≠l→(w.putObj l o).heap[k]? = w.heap[k]? := fun k hk=>World.putObj_heap_other hk;have hlab:∀ t l' e b,(fr t).lab=some (l',e)→(a.tmps.getD t undef).ownBlock=some b→¬ b=l:=fun t l' e b hlb hb e1=>by
  have h1:=h.r.cp t l' e hlb;have h2:(fr l').lab=some (l',e):=by rw[h1.1];exact hlb
  rw[← h1.2] at hb;exact h.r.lab_base h2 hb (.inl (e1 ▸ hbl))
 have hbox:∀ t u (x:Den u) b,fr t=.box u x→a.tmps.getD t undef=.pointer (some ⟨b,0,none⟩)→¬ b=l:=fun t u x b hlb hb e1=>by
  obtain⟨b',k1,k2⟩:=h.r.box t u x hlb;rw[hb] at k2;simp only[Value.pointer.injEq,ya,Addr.mk.injEq,and_true] at k2;subst k2;exact k1.1 (.inl (e1 ▸ hbl))
 have hlt:l < w.heap.size:=h.base_le hbl;have hsz:(w.putObj l o).heap.size=w.heap.size:=World.putObj_size;have ht:TurnedBut (fun b=>b=l) w S (w.putObj l o) S:=⟨⟨rfl,rfl,rfl,by rw[hsz];exact yv _,fun k hk=>hoth k hk.2⟩,fun _ _ _ _=>Iff.rfl,hk,fun b i hs=>by rw[hsz];exact h.r.slt b i hs⟩;have hR1:=(h.r.rebase (b2:=fun k=>(base k∧k≠l)∨∃ t,F t k) (fun k hk=>hk.imp (·.1) id)).turnedSet ht (fun k hk e=>hk.elim (fun hh=>hh.2 e) (fun ⟨t,hh⟩=>h.nb t k hh (e ▸ hbl))) hlab hbox;have hR2:=(hR1.rebase (fun k hk=>hk)).widen (X:=fun k=>k=l) (fun k hk=>by rw[hk,hsz];exact hlt) hlab hbox;have hF:∀ t b,F t b→b≠l:=fun t b hh e=>h.nb t b hh (e ▸ hbl);have h1:RP P base (w.putObj l o) S S fr gv a (w.putObj l o) F:={
  r:=hR2.rebase (fun k hk=>by
   by_cases e:k=l
   ·exact .inr e
   ·exact .inl (hk.imp (fun hB=>⟨hB,e⟩) id))
  below:=Kept.refl _ _
  old:=fun _ _ _=>Iff.rfl
  kp:=Keeps.refl _ _
  nb:=h.nb
  dj:=h.dj
  nroot:=h.nroot
  root:=fun t ht=>(h.root t ht).step hk (fun b i hs=>by rw[hsz];exact h.r.slt b i hs) (fun b hb=>hoth b (hF t b hb)) (fun _ _ _=>Iff.rfl)
  adr:=fun t s r ht=>(h.adr t s r ht).step hk (fun b hb=>hoth b (hF s b hb))
  val:=fun t s r ht=>by
   obtain⟨p,x,hh,c,k1,k2⟩:=h.val t s r ht;exact⟨p,x,hh,c,k1,k2.step (fun b hb=>hoth b (hF s b hb))⟩ }
 exact h1
end
end
section
open Go.RowKit Go.Lib
variable {t:Nat} {r:List PStep}
def RRPm (P:Program) (base:Nat→Prop) (w0:World) (S0:qa) (n:Nat) (gv:Nat→Value) (fr:Fr) (a:Act) (w:World):Prop :=
 ∃ base' w1 S1,RRP P base' w1 S1 n gv fr (up [] a) w∧(∀ b,base b→base' b)∧Kept base w0 w1∧Keeps w0 S0 w1 S1∧(∀ b o,base b→(S1 b o↔S0 b o))∧Marks base base' w1 S1 a.defers
section
variable {base:Nat→Prop} {w0 w:World} {S0 S:qa} {fr:Fr} {gv:Nat→Value} {a:Act} {P:Program} {n:Nat}
theorem RRPm.plain (h:RRPm P base w0 S0 n gv fr a w):RRP P base w0 S0 n gv fr (up [] a) w:=by
 obtain⟨base',w1,S1,⟨hn,S,F,h1⟩,h2,h3,h4,h5,_⟩:=h;exact⟨hn,S,F,h1.weaken h2 h3 h4 h5⟩
theorem RRP.m {F:Nat→Nat→Prop} (hn:a.tmps.size=n) (h:RP P base w0 S0 S fr gv a w F):RRPm P base w0 S0 n gv fr a w:=by
 have hd:=h.r.dfr;have ha:up [] a=a:=by cases a;simp only[up] at *;simp_all
 exact⟨base,w0,S0,⟨hn,S,F,by rw[ha];exact h⟩,fun _ hb=>hb,Kept.refl _ _,Keeps.refl _ _,fun _ _ _=>Iff.rfl,by rw[hd];exact .nil⟩
end
structure GoesP (P:Program) (E:EnvP) (base:Nat→Prop) (w0:World) (S0:qa) (gv:Nat→Value) (K:Ex→Fr→Option AV) (r:AV) (Q:Exit→Act→World→Prop):Prop where
 panics:∀ c a w,¬ Q (.panic c) a w
 go:∀ ex fr a w,K ex fr=some r→RRPm P base w0 S0 E.nt gv fr a w→Q (exOf ex) a w
def qtK (P:Program) (E:EnvP) (ro:Option Nat) (c:Code) (A:(Ex→Fr→Option AV)→Fr→Option AV):Prop :=
 ∀ (base:Nat→Prop) (w0:World) (S0:qa) (gv:Nat→Value) (r:AV) (K:Ex→Fr→Option AV) (Q:Exit→Act→World→Prop) (fr:Fr) (a:Act) (w:World),(∀ w S,Keeps w0 S0 w S→EnvOk P E w S) →
  A K fr=some r→GoesP P E base w0 S0 gv K r Q→RRPm P base w0 S0 E.nt gv fr a w→c.wpIn (FW ro) 0 P Q a w
structure LoopI (P:Program) (L:List Nat) (fr:Fr) (gv:Nat→Value) (a:Act) (wE:World) (SE:qa) (l D:Nat) (rc:LoopState→Option Code→Loop) (c:Bool) (fr2:Fr) (w:World) (S:qa) (Fp:Nat→Prop) (G:Nat→Nat→Prop):Prop where
 roots:∀ t,t∈L→qA (fr t)=true→RootAny P w S (G t) (fr2 t) (tv gv a t)
 box:∀ t b,G t b→t∈L∧qA (fr t)=true
 dj:∀ t t' b,t≠t'→G t b→¬ G t' b
 fp:∀ b,Fp b↔(∃ t,G t b)∨b=l∨b=D
 nl:∀ t,¬ G t l∧¬ G t D
 rcd:w.heap[l]? = some (.loop (rc (if c=true then .done else .ready) (if c=true then some .ret else none)))
 dfd:w.heap[D]? = some (.deferred (some []))
 ne:l≠D
 uns:∀ o,¬ S l o∧¬ S D o
 kp:Keeps wE SE w S
noncomputable def qvX (P:Program) (n:Nat) (A B:(Ex→Fr→Option AV)→Fr→Option AV) (fr:Fr) (L ps:List Nat) (gv:Nat→Value) (a:Act) (wE:World) (SE:qa) (l D:Nat) (rc:LoopState→Option Code→Loop):Inv (.pair .bool (stOf fr L).1) where
 I:=fun x u w S Fp=>u=.func (.yield l) #[] #[]∧∃ G,LoopI P L fr gv a wE SE l D rc x.1 (setSt fr L (stOf fr L).1 x.2) w S Fp G
 spec:=yspec n A B fr L ps
 tag:=none
 mp:=none
theorem qrb (f:Nat→AV) (rest:List (Nat×AV)):∀ (L:List Nat) (t:Nat),frOf ((L.map fun t=>(t,f t))++rest) t=if t∈L then f t else frOf rest t
 | [],t=>by simp
 | s :: L,t=>by
  simp only[yI,List.cons_append,frOf]
  by_cases e:t=s
  ·subst e;simp
  ·rw[if_neg e,qrb f rest L t];simp[e]
theorem qrc (k:Nat) (f:Nat→AV):∀ (L:List Nat) (t:Nat),frOf (L.map fun t=>(k+t,f t)) t=if k≤t∧t - k∈L then f (t - k) else .bad
 | [],t=>by simp[frOf]
 | s :: L,t=>by
  simp only[yI,frOf]
  by_cases e:t=k+s
  ·subst e;simp
  ·rw[if_neg e,qrc k f L t];have:¬ (k≤t∧t - k=s):=fun hh=>e (by omega)
   by_cases hk:k≤t
   ·have:¬ t - k=s:=fun hh=>e (by omega);simp[hk,this]
   ·simp[hk]
section
variable {n:Nat} {L:List Nat} {fr fr2:Fr}
theorem qeV (t:Nat):qkK n L fr2 t=if t∈L then kpV n L fr2 t else if n+1000≤t∧t - (n+1000)∈L then ghV fr2 (t - (n+1000)) else .bad:=by
 unfold qkK;rw[qrb,qrc]
theorem qvY (h1:∀ t,¬ (t∈L∧qA (fr t)=true)→fr2 t=fr t) (h2:∀ t,t∈L→qA (fr t)=true→qA (fr2 t)=true) (ht:t∈L):kpV n L fr2 t=kpV n L fr t:=by
 have hb:∀ s,s∈L→qA (fr2 s)=qA (fr s):=fun s hs=>by
  by_cases e:qA (fr s)=true
  ·rw[h2 s hs e,e]
  ·rw[h1 s (fun hh=>e hh.2)]
 by_cases e:qA (fr t)=true
 ·obtain⟨p,x,e1⟩:=qab.1 e;obtain⟨p2,x2,e2⟩:=qab.1 (h2 t ht e);unfold kpV;rw[e1,e2]
 ·have e1:=h1 t (fun hh=>e hh.2);have key:∀ s,(L.contains s&&qA (fr2 s))=(L.contains s&&qA (fr s)):=fun s=>by
   cases hc:L.contains s with
   | false=>rfl
   | true=>rw[hb s (by simpa using hc)]
  unfold kpV;rw[e1];split <;> first | rfl | (rw[key])
theorem qrd (t:Nat):(kpV n L fr t).lab=none∧(∀ s x,kpV n L fr t≠.box s x)∧(∀ s p,kpV n L fr t≠.badr s p∧kpV n L fr t≠.clom s p)∧(∀ s r,kpV n L fr t≠.pval s r)∧(kpV n L fr t).isRoot=false:=by
 unfold kpV;split
 ·exact⟨rfl,by simp,by simp,by simp,rfl⟩
 ·split
  ·exact⟨rfl,by simp,by simp,by simp,rfl⟩
  ·exact⟨rfl,by simp,by simp,by simp,rfl⟩
 ·exact⟨rfl,by simp,by simp,by simp,rfl⟩
 ·exact⟨rfl,by simp,by simp,by simp,rfl⟩
 ·exact⟨rfl,by simp,by simp,by simp,rfl⟩
theorem qIR {s:Nat} (h:kpV n L fr t=.padr s r):(qA (fr t)=true∧s=n+1000+t∧r=[])∨∃ s0,fr t=.padr s0 r∧qaS r=true∧s0∈L∧qA (fr s0)=true∧s=n+1000+s0:=by
 unfold kpV at h;split at h
 ·rename_i p x e;simp only[AV.padr.injEq] at h;exact .inl ⟨by rw[e];rfl,h.1.symm,h.2.symm⟩
 ·rename_i s0 r0 e;split at h
  ·rename_i hc;simp only[AV.padr.injEq] at h;obtain⟨rfl,rfl⟩:=h;simp only[yf,List.contains_iff_mem] at hc;exact .inr ⟨s0,e,hc.1,hc.2.1,hc.2.2,rfl⟩
  ·cases h
 ·cases h
 ·cases h
 ·cases h
end
section
variable {w:World} {S:qa} {P:Program}
theorem RootAny.refTop {X:Nat→Prop} {p:PSh} {x:Den p.sh} {y v:Value} (h:RootAny P w S X (.pbox p x none) y) (ht:qaS r=true) (hc:cloV w S r y v):RefAt w S (.pbox p x none) y r v X:=by
 cases h with
 | tree _ _ p x hh c k1 k2 =>
  cases k1 with
  | pbox _ _ _ b =>
   have hb:=(k2.blk b rfl).1;refine .inl ⟨_,_,none,.blk b 0,.pbox _ _ _ _,?_⟩;cases r with
   | nil =>
    have hl:locP w p (.blk b 0) []=some (p,.blk b 0):=by cases p <;> rfl
    have hs:qC w p (.blk b 0) []=[]:=by cases p <;> rfl
    have hi:inPP p x []:=by cases p <;> trivial
    exact .inl ⟨p,b,0,hi,hl,hc,(fun k hk=>by rw[hs] at hk;cases hk),hb⟩
   | cons a r=>exact .inr ⟨ht,by simp,b,rfl,hc,hb⟩
structure LoopOk (n:Nat) (L:List Nat) (fr:Fr) (gv:Nat→Value) (a:Act) (wE:World) (SE:qa):Prop where
 sz:a.tmps.size=n
 dfr:a.defers=[]
 lt:∀ t,t∈L→t < n
 dat:∀ t,t∈L→Rd wE SE (a.tmps.getD t undef) (kpV n L fr t)
 clo:∀ t s r,t∈L→fr t=.padr s r→qaS r=true→s∈L→qA (fr s)=true→cloV wE SE r (tv gv a s) (tv gv a t)
def gvL (n:Nat) (gv:Nat→Value) (a:Act):Nat→Value:=fun t=>if n+1000≤t then tv gv a (t - (n+1000)) else gv t
variable {n:Nat} {L:List Nat} {fr fr2:Fr} {gv:Nat→Value} {a:Act} {wE:World} {SE:qa} {G:Nat→Nat→Prop}
theorem qRL (hO:LoopOk n L fr gv a wE SE) (hk:Keeps wE SE w S) (hsl:∀ b o,S b o→b < w.heap.size) (h1:∀ t,¬ (t∈L∧qA (fr t)=true)→fr2 t=fr t) (h2:∀ t,t∈L→qA (fr t)=true→qA (fr2 t)=true)
 (hroots:∀ t,t∈L→qA (fr t)=true→RootAny P w S (G t) (fr2 t) (tv gv a t)) (hbox:∀ t b,G t b→t∈L∧qA (fr t)=true) (hdj:∀ t t' b,t≠t'→G t b→¬ G t' b) :
 RP P (fun b=>b < w.heap.size∧¬ ∃ t,∃ t0,t=n+1000+t0∧G t0 b) w S S (qkK n L fr2) (gvL n gv a) a w (fun t b=>∃ t0,t=n+1000+t0∧G t0 b):=by
 have hghost:∀ t0,t0∈L→qA (fr t0)=true→qkK n L fr2 (n+1000+t0)=fr2 t0:=fun t0 ht hb=>by
  rw[qeV];have hn:¬ n+1000+t0∈L:=fun hh=>by have:=hO.lt _ hh;omega
  rw[if_neg hn,if_pos ⟨by omega,by rw[Nat.add_sub_cancel_left];exact ht⟩,Nat.add_sub_cancel_left];obtain⟨p,x,e⟩:=qab.1 (h2 t0 ht hb);unfold ghV;rw[e]
 have htvg:∀ t0,tv (gvL n gv a) a (n+1000+t0)=tv gv a t0:=fun t0=>by
  have e:tv (gvL n gv a) a (n+1000+t0)=gvL n gv a (n+1000+t0):=by
   unfold tv Array.getD;rw[dif_neg (by rw[hO.sz];omega)]
  rw[e];unfold gvL;rw[if_pos (by omega),Nat.add_sub_cancel_left]
 have htvl:∀ t,t∈L→tv (gvL n gv a) a t=tv gv a t:=fun t ht=>by
  have:=hO.lt t ht;unfold tv Array.getD;rw[dif_pos (by rw[hO.sz];omega),dif_pos (by rw[hO.sz];omega)]
 have hgh:∀ t,ghV fr2 t=.bad∨∃ p x,fr2 t=.pbox p x none∧ghV fr2 t=.pbox p x none:=fun t=>by
  unfold ghV;split
  ·rename_i p x e;exact .inr ⟨p,x,e,rfl⟩
  ·exact .inl rfl
 have hroot:∀ t,(qkK n L fr2 t).isRoot=true→∃ t0,t=n+1000+t0∧t0∈L∧qA (fr t0)=true∧qkK n L fr2 t=fr2 t0:=fun t ht=>by
  have hc:=qeV (n:=n) (L:=L) (fr2:=fr2) t;rw[hc] at ht;split at ht
  ·rw[(qrd t).2.2.2.2] at ht;cases ht
  ·split at ht
   ·rename_i hh;obtain⟨hle,hm⟩:=hh;have hb:qA (fr (t - (n+1000)))=true:=by
     by_cases e:qA (fr (t - (n+1000)))=true
     ·exact e
     ·exfalso;rcases hgh (t - (n+1000)) with h3 | ⟨p,x,h3,_⟩
      ·rw[h3] at ht;cases ht
      ·rw[h1 _ (fun hh=>e hh.2)] at h3;rw[h3] at e;exact e rfl
    refine⟨t - (n+1000),by omega,hm,hb,?_⟩;have:=hghost _ hm hb;rwa[show n+1000+(t - (n+1000))=t by omega] at this
   ·cases ht
 have hsame:∀ t0,t0∈L→qA (fr t0)=true→qz (fr2 t0) (fr2 t0)=true∧(fr2 t0).isRoot=true:=fun t0 hm hb=>by
  obtain⟨p,x,e⟩:=qab.1 (h2 t0 hm hb);rw[e];exact⟨by simp[qz],rfl⟩
 refine RP.fresh hO.dfr hsl (fun t=>?_) (fun t=>?_) (fun t b ⟨t0,_,hb⟩=>?_) (fun t t' b hne ⟨t0,e0,hb⟩ ⟨t1,e1,hb'⟩=>hdj t0 t1 b (fun e=>hne (by omega)) hb hb') (fun t ht b ⟨t0,e0,hb⟩=>?_) (fun t ht=>?_) (fun t s r ht=>?_)
 ·rw[qeV];split
  ·have:=qrd (n:=n) (L:=L) (fr:=fr2) t;exact⟨this.1,this.2.1,this.2.2.1,this.2.2.2.1⟩
  ·split
   ·rcases hgh (t - (n+1000)) with h3 | ⟨p,x,_,h3⟩
    ·rw[h3];exact⟨rfl,by simp,by simp,by simp⟩
    ·rw[h3];exact⟨rfl,by simp,by simp,by simp⟩
   ·exact⟨rfl,by simp,by simp,by simp⟩
 ·rw[qeV];split
  ·rename_i hm;rw[qvY h1 h2 hm];exact(hO.dat t hm).keeps hk
  ·split
   ·rcases hgh (t - (n+1000)) with h3 | ⟨p,x,_,h3⟩
    ·rw[h3];exact .bad _
    ·rw[h3];exact .pbox _ _ _ _
   ·exact .bad _
 ·obtain⟨hm,hbx⟩:=hbox t0 b hb;exact(hroots t0 hm hbx).lt (hsame t0 hm hbx).1 hb
 ·obtain⟨hm,hbx⟩:=hbox t0 b hb;rw[e0,hghost t0 hm hbx,(hsame t0 hm hbx).2] at ht;cases ht
 ·obtain⟨t0,e0,hm,hbx,e1⟩:=hroot t ht;have e2:(fun b=>∃ t1,t=n+1000+t1∧G t1 b)=G t0:=funext fun b=>propext ⟨fun ⟨t1,k1,k2⟩=>by rwa[show t1=t0 by omega] at k2,fun hh=>⟨t0,e0,hh⟩⟩;rw[e1,e2];have:=hroots t0 hm hbx;rw[e0,htvg];exact this
 ·have ht':t∈L∧kpV n L fr t=.padr s r:=by
   rw[qeV] at ht;split at ht
   ·rename_i hm;exact⟨hm,by rw[← qvY h1 h2 hm];exact ht⟩
   ·split at ht
    ·rcases hgh (t - (n+1000)) with h3 | ⟨p,x,_,h3⟩
     ·rw[h3] at ht;cases ht
     ·rw[h3] at ht;cases ht
    ·cases ht
  obtain⟨hm,ht'⟩:=ht';have fin:∀ s0,s0∈L→qA (fr s0)=true→s=n+1000+s0→qaS r=true→cloV w S r (tv gv a s0) (tv gv a t)→RefAt w S (qkK n L fr2 s) (tv (gvL n gv a) a s) r (tv (gvL n gv a) a t) (fun b=>∃ t0,s=n+1000+t0∧G t0 b):=fun s0 k1 k2 k3 k4 k5=>by
   have e2:(fun b=>∃ t1,s=n+1000+t1∧G t1 b)=G s0:=funext fun b=>propext ⟨fun ⟨t1,m1,m2⟩=>by rwa[show t1=s0 by omega] at m2,fun hh=>⟨s0,k3,hh⟩⟩;have hr:=hroots s0 k1 k2;obtain⟨p,x,e⟩:=qab.1 (h2 s0 k1 k2);rw[e2,k3,hghost s0 k1 k2,htvg,htvl t hm];rw[e] at hr ⊢;exact hr.refTop k4 k5
  rcases qIR ht' with ⟨k1,k2,k3⟩ | ⟨s0,k1,k2,k3,k4,k5⟩
  ·exact fin t hm k1 k2 (by rw[k3];rfl) (by rw[k3];rfl)
  ·exact fin s0 k3 k4 k5 k2 (cloV.keeps hk _ _ _ (hO.clo t s0 r hm k1 k2 k3 k4))
end
end
section
open Go.RowKit Go.Lib
section
variable {P:Program} {E:EnvP} {L:List Nat} {fr:Fr} {gv:Nat→Value} {a:Act} {wE:World} {SE:qa} {l D:Nat} {assign body:Code} {A B:(Ex→Fr→Option AV)→Fr→Option AV} {ps:Array Tmp} {fid:FuncId}
theorem qIS (x:Den (stOf fr L).1):∀ t,¬ (t∈L∧qA (fr t)=true)→setSt fr L (stOf fr L).1 x t=fr t:=fun t ht=>qfO L _ x t rfl ht
theorem qou (x:Den (stOf fr L).1):∀ t,t∈L→qA (fr t)=true→qA (setSt fr L (stOf fr L).1 x t)=true:=fun t ht hb=>by
 obtain⟨p,x0,e⟩:=qab.1 hb;obtain⟨x',e'⟩:=qkN L _ x t p x0 rfl ht e;rw[e'];rfl
theorem qca {v:AV} (h:qA v=true):qz v v=true∧v.isRoot=true:=by
 obtain⟨p,x,rfl⟩:=qab.1 h;exact⟨by simp[qz],rfl⟩
theorem qIT (ps:Array Tmp) (vals:List Value) (tm:Array Value) :
 (ps.zip vals.toArray).foldl (fun t (p,v)=>t.setIfInBounds p v) tm=(ps.toList.zip vals).foldl (fun t (p,v)=>t.setIfInBounds p v) tm:=by
 rw[← Array.foldl_toList,Array.toList_zip]
theorem qNw (hO:LoopOk E.nt L fr gv a wE SE) (hE:∀ w S,Keeps wE SE w S→EnvOk P E w S) (hA:qtK P E (some l) assign A) (hB:qtK P E (some l) body B) (hps:∀ p∈ps.toList,p < E.nt)
 {rc:LoopState→Option Code→Loop} (hrc:∀ st pe,rc st pe={ state:=st,pending:=pe,fn:=fid,tmps:=a.tmps,params:=ps,assign:=assign,body:=body,defers:=D }) :
 AbsOk P (qvX P E.nt A B fr L ps.toList gv a wE SE l D rc) where
 step:=fun x u w S F w' S' ⟨hu,G,h⟩ hk hsl hb hS=>⟨hu,G,{
  roots:=fun t ht hbx=>(h.roots t ht hbx).step hk hsl (fun b hG=>hb b ((h.fp b).2 (.inl ⟨t,hG⟩))) (fun b o hG=>hS b o ((h.fp b).2 (.inl ⟨t,hG⟩)))
  box:=h.box
  dj:=h.dj
  fp:=h.fp
  nl:=h.nl
  rcd:=(hb l ((h.fp l).2 (.inr (.inl rfl)))).trans h.rcd
  dfd:=(hb D ((h.fp D).2 (.inr (.inr rfl)))).trans h.dfd
  ne:=h.ne
  uns:=fun o=>⟨fun hh=>(h.uns o).1 ((hS l o ((h.fp l).2 (.inr (.inl rfl)))).1 hh),fun hh=>(h.uns o).2 ((hS D o ((h.fp D).2 (.inr (.inr rfl)))).1 hh)⟩
  kp:=h.kp.trans hk }⟩
 lt:=fun x u w S F b ⟨hu,G,h⟩ hF=>by
  rcases (h.fp b).1 hF with ⟨t,hG⟩ | rfl | rfl
  ·obtain⟨h1,h2⟩:=h.box t b hG;exact(h.roots t h1 h2).lt (qca (qou x.2 t h1 h2)).1 hG
  ·exact(Array.getElem?_eq_some_iff.1 h.rcd).1
  ·exact(Array.getElem?_eq_some_iff.1 h.dfd).1
 tag:=fun f ps h=>by cases h
 mp:=fun _ _ h=>by cases h
 call:=fun x u w S F vals qs y x' ⟨hu,G,h⟩ hsl hsp ha=>by
  have hsp':x.1=false∧ps.toList.length=qs.length∧∃ o,A (kAsg (B (qIK E.nt L fr))) (qBx (qkK E.nt L (setSt fr L (stOf fr L).1 x.2)) ps.toList qs)=some (.dat (.pair .bool (stOf fr L).1) x' o)∧y = !x'.1:=by
   have hsp:yspec E.nt A B fr L ps.toList x qs=(true,y,x'):=hsp;unfold yspec at hsp;cases hx:x.1 with
   | true=>rw[hx] at hsp;simp at hsp
   | false =>
    rw[hx] at hsp;simp only[yd] at hsp
    by_cases hl:ps.toList.length=qs.length
    ·rw[yo hl] at hsp;simp only[yc] at hsp;refine⟨rfl,hl,?_⟩;unfold yfin at hsp;split at hsp
     ·rename_i s' z o he;split at hsp
      ·rename_i hs;subst hs;simp only[yb,true_and] at hsp;obtain⟨rfl,rfl⟩:=hsp;exact⟨o,he,rfl⟩
      ·simp at hsp
     ·simp at hsp
    ·rw[yx hl] at hsp;simp at hsp
  obtain⟨hx,hl,o,hev,rfl⟩:=hsp';have hrcd:=h.rcd;rw[hx] at hrcd;simp only[yq,if_false] at hrcd;subst hu;right;left;have hvl:vals.length=qs.length:=by simpa using ha.1
  have hrun:(callV (.func (.yield l) #[] #[]) vals.toArray).run P w=.ok (.round l fid ((ps.zip vals.toArray).foldl (fun t (p,v)=>t.setIfInBounds p v) a.tmps) assign body) w:=by
   have h1:=run_yield (P:=P) (args:=vals.toArray) hrcd (by rw[hrc];simp only[List.size_toArray];rw[hvl,← hl];simp);rw[hrc] at h1;unfold callV;rw[yh];simp only[Deferred.ofValue,yu,ye,invoke,Array.append_empty,Array.empty_append];exact h1
  refine⟨l,fid,_,assign,body,hrun,?_⟩;have hcore:=qRL (P:=P) (w:=w) (S:=S) (fr2:=setSt fr L (stOf fr L).1 x.2) hO h.kp hsl (qIS x.2) (qou x.2) h.roots h.box h.dj;obtain⟨F1,hpar,hsz⟩:=qqY ps.toList qs vals _ a _ hcore (fun p hp=>by rw[hO.sz];exact hps p hp) ha hl;rw[← qIT] at hpar hsz;have hb1:∀ k,(k < w.heap.size∧¬ F k)→k < w.heap.size∧¬ ∃ t,∃ t0,t=E.nt+1000+t0∧G t0 k:=fun k hk=>⟨hk.1,fun ⟨t,t0,_,hG⟩=>hk.2 ((h.fp k).2 (.inl ⟨t0,hG⟩))⟩;have hl1:l < w.heap.size:=(Array.getElem?_eq_some_iff.1 h.rcd).1;have hD1:D < w.heap.size:=(Array.getElem?_eq_some_iff.1 h.dfd).1;have hbl:l < w.heap.size∧¬ ∃ t,∃ t0,t=E.nt+1000+t0∧G t0 l:=⟨hl1,fun ⟨t,t0,_,hG⟩=>(h.nl t0).1 hG⟩;have hbD:D < w.heap.size∧¬ ∃ t,∃ t0,t=E.nt+1000+t0∧G t0 D:=⟨hD1,fun ⟨t,t0,_,hG⟩=>(h.nl t0).2 hG⟩;generalize hbase:(fun b=>b < w.heap.size∧¬ ∃ t,∃ t0,t=E.nt+1000+t0∧G t0 b)=base1 at hpar;have hbi:∀ k,base1 k↔(k < w.heap.size∧¬ ∃ t,∃ t0,t=E.nt+1000+t0∧G t0 k):=fun k=>by rw[← hbase]
  refine roundIn_of_wpIn (F:=FW none) (n:=0) trivial ?_;have hdef:({ tmps:=(ps.zip vals.toArray).foldl (fun t (p,v)=>t.setIfInBounds p v) a.tmps,defers:=[] }:Act)={ a with tmps:=(ps.zip vals.toArray).foldl (fun t (p,v)=>t.setIfInBounds p v) a.tmps }:=by rw[hO.dfr]
  rw[hdef];refine hA base1 w S (gvL E.nt gv a) _ _ _ _ _ w (fun w1 S1 hk=>hE w1 S1 (h.kp.trans hk)) hev ⟨fun c a w hp=>hp,fun ex fr1 a1 w1 hK hR1=>?_⟩ (RRP.m (by rw[hsz,hO.sz]) hpar);cases ex with
  | exit id=>cases hK
  | ret=>cases hK
  | normal =>
   replace hK:B (qIK E.nt L fr) fr1=some (.dat (.pair .bool (stOf fr L).1) x' o):=hK
   obtain⟨base',wx,Sx,⟨hn1,S1,F2,hRP1⟩,m1,m2,m3,m4,m5⟩:=hR1;have hpl:=hRP1.weaken m1 m2 m3 m4;have hl2:w1.heap[l]? = some (.loop (rc .ready none)):=(hpl.below.block l ((hbi l).2 hbl)).trans hrcd;have hun1:∀ i,¬ S1 l i:=fun i hh=>(h.uns i).1 ((hpl.old l i ((hbi l).2 hbl)).1 hh);have hunD:∀ i,¬ S1 D i:=fun i hh=>(h.uns i).2 ((hpl.old D i ((hbi D).2 hbD)).1 hh);refine⟨w1.putObj l (.loop { rc .ready none with state:=.busy }),run_beginRound hl2 (by rw[hrc]),?_⟩;have hbl':base' l:=m1 l ((hbi l).2 hbl);have ht1:=hRP1.touch hbl' hun1 (.loop { rc .ready none with state:=.busy });have hk12:Keeps w1 S1 (w1.putObj l (.loop { rc .ready none with state:=.busy })) S1:=qaC hun1;refine hB base1 (w1.putObj l (.loop { rc .ready none with state:=.busy })) S1 (gvL E.nt gv a) _ _ _ _ _ _ (fun w2 S2 hk=>hE w2 S2 (((h.kp.trans hpl.kp).trans hk12).trans hk)) hK ⟨fun c a w hp=>hp,fun ex fr3 a3 w3 hK3 hR3=>?_⟩
    ⟨base',_,S1,⟨hn1,S1,F2,ht1⟩,m1,Kept.refl _ _,Keeps.refl _ _,fun _ _ _=>Iff.rfl,m5.mono (fun _ hk=>hk) (fun k hk hnk _=>by
     have hkl:k≠l:=fun e=>hnk (by rw[e];exact(hbi l).2 hbl);exact⟨(World.putObj_heap_other hkl).trans (hRP1.below.block k hk),fun i hi=>(hRP1.old k i hk).1 hi⟩)⟩
   obtain⟨hn3,S3,F3,hRP3⟩:=hR3.plain;have hl3:w3.heap[l]? = some (.loop { rc .ready none with state:=.busy }):=(hRP3.below.block l ((hbi l).2 hbl)).trans (World.putObj_heap_same (Array.getElem?_eq_some_iff.1 hl2).1);have hD3:w3.heap[D]? = some (.deferred (some [])):=(hRP3.below.block D ((hbi D).2 hbD)).trans ((World.putObj_heap_other (Ne.symm h.ne)).trans ((hpl.below.block D ((hbi D).2 hbD)).trans h.dfd));have hun3:∀ i,¬ S3 l i:=fun i hh=>hun1 i ((hRP3.old l i ((hbi l).2 hbl)).1 hh);have hunD3:∀ i,¬ S3 D i:=fun i hh=>hunD i ((hRP3.old D i ((hbi D).2 hbD)).1 hh);have fin:∀ (c:Bool) (ys:Den (stOf fr L).1),x'=(c,ys)→qgZ E.nt fr fr3 L=some ⟨(stOf fr L).1,ys⟩ →
    ∃ v w',(Instr.endRound l (if c=true then some .ret else none)).run P w3=.ok v w'∧∃ v',Ending.returned v=.returned v'∧∃ S' F',TurnedBut F w S w' S'∧v'=.bool (!x'.1) ∧
     (qvX P E.nt A B fr L ps.toList gv a wE SE l D rc).I x' (.func (.yield l) #[] #[]) w' S' F'∧∀ b,F' b→F b∨w.heap.size≤b:=fun c ys hx' hpk=>by
    subst hx';refine⟨_,_,run_endRound _ hl3,_,rfl,S3,fun b=>(∃ t,t∈L∧qA (fr t)=true∧F3 (E.nt+1000+t) b)∨b=l∨b=D,?_,?_,?_,?_⟩
    ·have hk34:Keeps w3 S3 (w3.putObj l (.loop { ({ rc .ready none with state:=.busy }:Loop) with state:=if (if c=true then some Code.ret else none).isNone then .ready else .done,pending:=if c=true then some .ret else none })) S3:=qaC hun3;have hbk:∀ k,k < w.heap.size∧¬ F k→base1 k∧k≠l:=fun k hk=>⟨(hbi k).2 (hb1 k hk),fun e=>hk.2 ((h.fp k).2 (.inr (.inl e)))⟩;exact {
      kept:=⟨hRP3.below.os.trans hpl.below.os,hRP3.below.tape.trans hpl.below.tape,hRP3.below.output.trans hpl.below.output,by
       rw[World.putObj_size];have h1:=hRP3.below.size;rw[World.putObj_size] at h1;exact yL hpl.below.size h1,fun k hk=>by
       obtain⟨h1,h2⟩:=hbk k hk;exact(World.putObj_heap_other h2).trans ((hRP3.below.block k h1).trans ((World.putObj_heap_other h2).trans (hpl.below.block k h1)))⟩
      old:=fun b i hb hF=>(hRP3.old b i (hbk b ⟨hb,hF⟩).1).trans (hpl.old b i (hbk b ⟨hb,hF⟩).1)
      keeps:=((hpl.kp.trans hk12).trans hRP3.kp).trans hk34
      lt:=fun b i hs=>by rw[World.putObj_size];exact hRP3.r.slt b i hs }
    ·cases c <;> rfl
    ·obtain⟨_,hpk⟩:=qhn L _ ys hpk;have hF3l:∀ t b,F3 t b→b≠l∧b≠D:=fun t b hF=>⟨fun e=>hRP3.nb t b hF (e ▸ (hbi l).2 hbl),fun e=>hRP3.nb t b hF (e ▸ (hbi D).2 hbD)⟩;refine⟨rfl,fun t b=>t∈L∧qA (fr t)=true∧F3 (E.nt+1000+t) b,{
      roots:=fun t ht hbx=>?_
      box:=fun t b hG=>⟨hG.1,hG.2.1⟩
      dj:=fun t t' b hne hG hG'=>hRP3.dj _ _ b (by omega) hG.2.2 hG'.2.2
      fp:=fun b=>Iff.rfl
      nl:=fun t=>⟨fun hG=>(hF3l _ _ hG.2.2).1 rfl,fun hG=>(hF3l _ _ hG.2.2).2 rfl⟩
      rcd:=?_
      dfd:=(World.putObj_heap_other (Ne.symm h.ne)).trans hD3
      ne:=h.ne
      uns:=fun i=>⟨hun3 i,hunD3 i⟩
      kp:=(((h.kp.trans hpl.kp).trans hk12).trans hRP3.kp).trans (qaC hun3) }⟩
     ·have hbox2:=qou (fr:=fr) (L:=L) ys t ht hbx;have e1:=hpk t ht hbx;have hr:=hRP3.root (E.nt+1000+t) (by rw[e1];exact(qca hbox2).2);rw[e1] at hr;have e2:tv (gvL E.nt gv a) (up [] a3) (E.nt+1000+t)=tv gv a t:=by
       have e3:tv (gvL E.nt gv a) (up [] a3) (E.nt+1000+t)=gvL E.nt gv a (E.nt+1000+t):=by
        unfold tv Array.getD;rw[dif_neg (by rw[hn3];omega)]
       rw[e3];unfold gvL;rw[if_pos (by omega),Nat.add_sub_cancel_left]
      rw[e2] at hr;have e4:(fun b=>t∈L∧qA (fr t)=true∧F3 (E.nt+1000+t) b)=F3 (E.nt+1000+t):=funext fun b=>propext ⟨fun hh=>hh.2.2,fun hh=>⟨ht,hbx,hh⟩⟩;rw[e4];exact hr.step (qaC hun3) (fun b i hs=>by rw[World.putObj_size];exact hRP3.r.slt b i hs) (fun b hF=>World.putObj_heap_other (hF3l _ _ hF).1) (fun _ _ _=>Iff.rfl)
     ·rw[World.putObj_heap_same (Array.getElem?_eq_some_iff.1 hl3).1,hrc,hrc];cases c <;> rfl
    ·intro b hb;rcases hb with ⟨t,_,_,hF⟩ | rfl | rfl
     ·have:=hRP3.nb _ b hF;rw[hbi] at this
      by_cases hlt:b < w.heap.size
      ·left;have h2:∃ t,∃ t0,t=E.nt+1000+t0∧G t0 b:=by
        by_cases h3:∃ t,∃ t0,t=E.nt+1000+t0∧G t0 b
        ·exact h3
        ·exact absurd ⟨hlt,h3⟩ this
       obtain⟨_,t0,_,hG⟩:=h2;exact(h.fp b).2 (.inl ⟨t0,hG⟩)
      ·exact .inr (Nat.le_of_not_lt hlt)
     ·exact .inl ((h.fp b).2 (.inr (.inl rfl)))
     ·exact .inl ((h.fp b).2 (.inr (.inr rfl)))
   have pk:∀ c,(match qgZ E.nt fr fr3 L with | some ⟨s,z⟩=>some (AV.dat (.pair .bool s) (c,z) none) | none=>none)=some (.dat (.pair .bool (stOf fr L).1) x' o)→∃ ys,x'=(c,ys)∧qgZ E.nt fr fr3 L=some ⟨(stOf fr L).1,ys⟩:=fun c hh=>by
    split at hh
    ·rename_i s z hz;obtain⟨hs,_⟩:=qhn L s z hz;subst hs;simp only[ya,AV.dat.injEq,heq_eq_eq,true_and] at hh;exact⟨z,hh.1.symm,hz⟩
    ·cases hh
   cases ex with
   | exit id=>cases hK3
   | normal =>
    obtain⟨ys,h1,h2⟩:=pk false hK3;exact fin false ys h1 h2
   | ret =>
    obtain⟨ys,h1,h2⟩:=pk true hK3;exact fin true ys h1 h2
end
end
section
open Go.RowKit Go.Lib
variable {L:List Nat}
def qan:Code→Bool
 | .seq a b=>qan a&&qan b
 | .cond _ a b=>qan a&&qan b
 | .block _ c=>qan c
 | .loop c=>qan c
 | .scope c=>qan c
 | .rangeFunc _ _ _ _=>false
 | _=>true
def cutVP (l:List Nat):AV→AV
 | .padr s r=>match qjq l s with
  | true=>.padr s r
  | false=>.bad
 | .pval s r=>match qjq l s with
  | true=>.pval s r
  | false=>.bad
 | v=>cutV l v
def cutFP (o:Option (List Nat)) (fr:Fr):Fr :=
 match o with
 | some l=>frOf (l.map fun s=>(s % 1000000,cutVP l (fr (s % 1000000))))
 | none=>fr
noncomputable def qvL (E:EnvP) (A B:(Ex→Fr→Option AV)→Fr→Option AV) (L:List Nat) (g:Operand) (ps:List Nat) (K:Ex→Fr→Option AV) (fr:Fr):Option AV :=
 match g with
 | .tmp y=>match fr y with
  | .abs s V x=>match V.tag with
   | some (f,pl)=>match E.its f with
    | some it=>if h:s=qjn it.ps∧it.ps=pl then
     bif decide (y < E.nt)&&(L.all (fun t=>decide (t < E.nt))&&(!L.contains y&&ps.all (fun t=>decide (t < E.nt)))) then
      bif (it.run (.pair .bool (stOf fr L).1) (yspec E.nt A B fr L ps) (false,(stOf fr L).2) (h.1 ▸ x)).1 then
       bif (it.run (.pair .bool (stOf fr L).1) (yspec E.nt A B fr L ps) (false,(stOf fr L).2) (h.1 ▸ x)).2.1 then
        K .ret (cutFP E.cutr (endFr fr y L (setSt fr L (stOf fr L).1 (it.run (.pair .bool (stOf fr L).1) (yspec E.nt A B fr L ps) (false,(stOf fr L).2) (h.1 ▸ x)).2.2)))
       else K .normal (endFr fr y L (setSt fr L (stOf fr L).1 (it.run (.pair .bool (stOf fr L).1) (yspec E.nt A B fr L ps) (false,(stOf fr L).2) (h.1 ▸ x)).2.2))
      else none
     else none
     else none
    | none=>none
   | none=>none
  | _=>none
 | _=>none
section
variable {base:Nat→Prop} {w0 w:World} {S0 S:qa} {fr:Fr} {gv:Nat→Value} {a:Act} {F:Nat→Nat→Prop} {P:Program} {E:EnvP}
theorem qos {w':World} {S':qa} (hk:Keeps w S w' S'):∀ (ps:List PSh) (y:Den (qjn ps)) (bs:List Nat) (F:Nat→Prop),clI w S ps y bs F→(∀ b,F b→w'.heap[b]? = w.heap[b]?)→(∀ b o,F b→(S' b o↔S b o))→clI w' S' ps y bs F
 | [],_,_,_,h,_,_=>h
 | p :: ps,y,bs,F,⟨b,bs',F1,F2,h1,h2,h3,h4,h5⟩,hb,hS=>⟨b,bs',F1,F2,h1,h2.step hk (fun k hF=>hb k ((h4 k).2 (.inl hF))) (fun k o hF=>hS k o ((h4 k).2 (.inl hF))),
  qos hk ps y.2 bs' F2 h3 (fun k hF=>hb k ((h4 k).2 (.inr hF))) (fun k o hF=>hS k o ((h4 k).2 (.inr hF))),h4,h5⟩
theorem RP.addBase (h:RP P base w0 S0 S fr gv a w F) {D:Nat} (hlt:D < w.heap.size) (hD:∀ t,¬ F t D) (ho:∀ t l e,(fr t).lab=some (l,e)→(a.tmps.getD t undef).ownBlock≠some D) (hb:∀ t u (x:Den u),fr t=.box u x→a.tmps.getD t undef≠.pointer (some ⟨D,0,none⟩)) :
 RP P (fun b=>base b∨b=D) w S S fr gv a w F where
 r:=(((h.r.rebase (fun k hk=>hk)).widen (X:=fun k=>k=D) (fun k hk=>by rw[hk];exact hlt) (fun t l e b hl hob e1=>ho t l e hl (by rw[← e1];exact hob)) (fun t u x b hl hob e1=>hb t u x hl (by rw[← e1];exact hob))).rebase
  (fun k hk=>by rcases hk with (hk | hk) | hk
                ·exact .inl (.inl hk)
                ·exact .inr hk
                ·exact .inl (.inr hk)))
 below:=Kept.refl _ _
 old:=fun _ _ _=>Iff.rfl
 kp:=Keeps.refl _ _
 nb:=fun t b hF hB=>hB.elim (h.nb t b hF) (fun e=>hD t (e ▸ hF))
 dj:=h.dj
 nroot:=h.nroot
 root:=h.root
 adr:=h.adr
 val:=h.val
theorem qvM {y:Nat} {fr2:Fr} {t:Nat} (h:L.contains t=true∧qA (fr t)=true) (hy:t≠y):endFr fr y L fr2 t=fr2 t:=by
 unfold endFr;rw[if_neg hy,if_pos (by rw[h.1,h.2];rfl)]
theorem qvN {assign body:Code} {A B:(Ex→Fr→Option AV)→Fr→Option AV} {g:Operand} {ps:Array Tmp} (hA:∀ l,qtK P E (some l) assign A) (hB:∀ l,qtK P E (some l) body B)
 (hcut:∀ (base:Nat→Prop) (w0:World) (S0:qa) (gv:Nat→Value) (fr:Fr) (a:Act) (w:World),RRPm P base w0 S0 E.nt gv fr a w→RRPm P base w0 S0 E.nt gv (cutFP E.cutr fr) a w) :
 qtK P E none (.rangeFunc g ps assign body) (qvL E A B L g ps.toList):=by
 intro base w0 S0 gv r K Q fr a w hE he hK hR;unfold qvL at he;split at he
 ·rename_i y;split at he
  ·rename_i s V x hy;split at he
   ·rename_i f pl htag;split at he
    ·rename_i it hit;split at he
     ·rename_i hsh;obtain⟨hs,hpl⟩:=hsh;subst hs;subst hpl;cases hc:(decide (y < E.nt)&&(L.all (fun t=>decide (t < E.nt))&&(!L.contains y&&ps.toList.all (fun t=>decide (t < E.nt))))) with
      | false=>rw[hc] at he;cases he
      | true =>
       rw[hc] at he;simp only[yc] at he;simp only[yf,ym,List.all_eq_true,Bool.not_eq_true',] at hc;obtain⟨hy1,hL,hyL,hps⟩:=hc;obtain⟨ok,x',hrun⟩:∃ ok x',it.run (.pair .bool (stOf fr L).1) (yspec E.nt A B fr L ps.toList) (false,(stOf fr L).2) x=(ok,x'):=⟨_,_,rfl⟩;rw[hrun] at he;simp only at he;cases ok with
       | false=>cases he
       | true =>
        simp only[yc] at he;obtain⟨base',w1,S1,⟨hn,S,F,h⟩,m1,m2,m3,m4,m5⟩:=hR;have hyL':¬ y∈L:=fun hh=>by rw[List.contains_iff_mem.2 hh] at hyL;cases hyL
        have hroot:=h.root y (by rw[hy];rfl);rw[hy] at hroot;obtain⟨hV,hI⟩:AbsOk P V∧V.I x (tv gv (up [] a) y) w S (F y):=by
         cases hroot with
         | tree _ _ p x' hh c h1 h2=>cases h1
         | abs _ _ _ _ hV hI=>exact⟨hV,hI⟩
        obtain⟨_,htg⟩:=hV.tag f it.ps htag;obtain⟨bs,hu,hcl⟩:=htg x _ w S (F y) hI;have hO:LoopOk E.nt L fr gv (up [] a) w S:={
         sz:=hn
         dfr:=rfl
         lt:=fun t ht=>hL t ht
         dat:=fun t ht=>by
          have hrd:=h.r.rd t;unfold kpV;split
          ·exact .padr _ _ _
          ·split
           ·exact .padr _ _ _
           ·exact .bad _
          ·rename_i s0 x0 o0 e;rw[e] at hrd;exact hrd.relab none
          ·rename_i s0 x0 e;rw[e] at hrd;exact hrd
          ·exact .bad _
         clo:=fun t s r ht e hr _ _=>(h.adr t s r e).clo hr }
        have hsz1:(w.alloc (.deferred (some []))).heap.size=w.heap.size+1:=by simp
        let rc:FuncId→LoopState→Option Code→Loop:=fun fn st pe=>{ state:=st,pending:=pe,fn:=fn,tmps:=a.tmps,params:=ps,assign:=assign,body:=body,defers:=w.heap.size }
        refine wpIn_rangeFunc (F:=FW none) (n:=0) (fun fn _=>?_);obtain⟨W1,hW1⟩:∃ W1,(w.alloc (.deferred (some []))).alloc (.loop (rc fn .ready none))=W1:=⟨_,rfl⟩;have hL1:W1.heap[w.heap.size+1]? = some (.loop (rc fn .ready none)):=by
         rw[← hW1];have:=World.alloc_heap_new (w.alloc (.deferred (some []))) (.loop (rc fn .ready none));rwa[hsz1] at this
        have hD1:W1.heap[w.heap.size]? = some (.deferred (some [])):=by
         rw[← hW1];exact(Below.heap_alloc _ _ _ (by simp)).trans (World.alloc_heap_new w _)
        have hB1:Below w.heap.size w W1:=by
         rw[← hW1];exact(((Below.refl _ w).alloc (yv _) _).alloc (by simp) _)
        have hszW:W1.heap.size=w.heap.size+2:=by rw[← hW1];simp
        have hold:∀ k,k < w.heap.size→W1.heap[k]? = w.heap[k]? := fun k hk=>hB1.block k hk;have hkW:Keeps w S W1 S:=fun b o hs=>⟨hs,qj (hold b (h.r.slt b o hs)) o⟩;have hslW:∀ b o,S b o→b < W1.heap.size:=fun b o hs=>by have:=h.r.slt b o hs;omega
        have huns:∀ o,¬ S (w.heap.size+1) o∧¬ S w.heap.size o:=fun o=>⟨fun hh=>by have:=h.r.slt _ o hh;omega,fun hh=>by have:=h.r.slt _ o hh;omega⟩;have hKE:∀ w' S',Keeps w S w' S'→EnvOk P E w' S':=fun w' S' hk=>hE w' S' ((m3.trans h.kp).trans hk);have hAbs:=qNw (fid:=fn) (D:=w.heap.size) hO hKE (hA (w.heap.size+1)) (hB (w.heap.size+1)) hps (rc:=rc fn) (fun st pe=>rfl)
        let VL:=qvX P E.nt A B fr L ps.toList gv (up [] a) w S (w.heap.size+1) w.heap.size (rc fn)
        let Fu:Nat→Prop:=fun b=>(∃ t,t∈L∧qA (fr t)=true∧F t b)∨b=w.heap.size+1∨b=w.heap.size
        have hsetS:setSt fr L (stOf fr L).1 (stOf fr L).2=fr:=funext (qil L);have hI0:VL.I (false,(stOf fr L).2) (.func (.yield (w.heap.size+1)) #[] #[]) W1 S Fu:=by
         refine⟨rfl,fun t b=>t∈L∧qA (fr t)=true∧F t b,{
          roots:=fun t ht hb=>?_
          box:=fun t b hG=>⟨hG.1,hG.2.1⟩
          dj:=fun t t' b hne hG hG'=>h.dj t t' b hne hG.2.2 hG'.2.2
          fp:=fun b=>Iff.rfl
          nl:=fun t=>⟨fun hG=>by have:=h.lt hG.2.2;omega,fun hG=>by have:=h.lt hG.2.2;omega⟩
          rcd:=hL1
          dfd:=hD1
          ne:=by omega
          uns:=huns
          kp:=hkW }⟩
         show RootAny P W1 S _ (setSt fr L (stOf fr L).1 (stOf fr L).2 t) _;rw[hsetS];have e4:(fun b=>t∈L∧qA (fr t)=true∧F t b)=F t:=funext fun b=>propext ⟨fun hh=>hh.2.2,fun hh=>⟨ht,hb,hh⟩⟩;rw[e4];exact(h.root t (qca hb).2).step hkW hslW (fun b hF=>hold b (h.lt hF)) (fun _ _ _=>Iff.rfl)
        have hdis:∀ b,Fu b→¬ F y b:=fun b hb hF=>by
         rcases hb with ⟨t,ht,_,hG⟩ | rfl | rfl
         ·exact h.dj t y b (fun e=>hyL' (e ▸ ht)) hG hF
         ·have:=h.lt hF;omega
         ·have:=h.lt hF;omega
        have hclW:clI W1 S it.ps x bs (F y):=qos hkW _ _ _ _ hcl (fun b hF=>hold b (h.lt hF)) (fun _ _ _=>Iff.rfl);obtain⟨hent,hcalls⟩:=(hKE W1 S hkW).2.2.2.2.1 f it hit (.pair .bool (stOf fr L).1) VL (false,(stOf fr L).2) x' (.func (.yield (w.heap.size+1)) #[] #[]) Fu (F y) bs x hAbs hI0 hclW hdis hslW hrun;have harr:(Value.func (.yield (w.heap.size+1)) #[] #[] :: bs.map fun b=>Value.pointer (some ⟨b,0,none⟩)).toArray = #[Value.func (.yield (w.heap.size+1)) #[] #[]]++(bs.map fun b=>Value.pointer (some ⟨b,0,none⟩)).toArray:=by
         apply Array.ext';simp
        rw[harr] at hent hcalls;have heval:a.eval (.tmp y)=qkR f bs:=by
         rw[← hu];exact(qE gv (up [] a) y (by rw[hn];exact hy1)).symm
        refine⟨w.heap.size+1,[{ target:=.collected w.heap.size,args := #[] }],W1,{ target:=.fn (.func f) (bs.map fun b=>Value.pointer (some ⟨b,0,none⟩)).toArray,args := #[.func (.yield (w.heap.size+1)) #[] #[]] },W1,f,_,W1,?_,?_,fun _ _=>trivial,?_,(fun hh=>by cases hh),callsIn_wide.2 (hcalls.mono ?_)⟩
        ·rw[← hW1];exact run_enterLoop_outer _ _ _ _ _
        ·simp only[resolve,heval,qkR];simp[go_sem]
        ·simp only[invoke];exact hent
        rintro e w2 ⟨v,rfl,S2,F',ht,⟨_,G',hLI⟩,hF'⟩;obtain⟨c,ys⟩:=x';simp only at he hLI;have hbus:(rc fn (if c=true then .done else .ready) (if c=true then some .ret else none)).state≠.busy:=by
         cases c <;> simp[rc]
        refine⟨_,_,run_endLoop hLI.rcd hbus,?_⟩;have hun2:∀ i,¬ S2 (w.heap.size+1) i:=fun i=>(hLI.uns i).1;generalize hw4:w2.putObj (w.heap.size+1) (.loop { rc fn (if c=true then .done else .ready) (if c=true then some .ret else none) with state:=.exhausted })=w4;have hoth:∀ k,k≠w.heap.size+1→w4.heap[k]? = w2.heap[k]? := fun k hk=>by rw[← hw4];exact World.putObj_heap_other hk
        have hsz4:w4.heap.size=w2.heap.size:=by rw[← hw4];exact World.putObj_size
        have hk24:Keeps w2 S2 w4 S2:=by rw[← hw4];exact qaC hun2
        have hsl4:∀ b i,S2 b i→b < w4.heap.size:=fun b i hs=>by rw[hsz4];exact ht.lt b i hs
        have hnl:∀ t b,G' t b→b≠w.heap.size+1:=fun t b hG e=>(hLI.nl t).1 (e ▸ hG)
        let T:Nat→Bool:=fun t=>decide (t=y)||(L.contains t&&qA (fr t))
        have hTt:∀ t,T t=true↔t=y∨(t∈L∧qA (fr t)=true):=fun t=>by simp[T]
        have hFX:∀ b,(Fu b∨F y b)→(∃ t,T t=true∧F t b)∨w.heap.size≤b:=fun b hb=>by
         rcases hb with (⟨t,h1,h2,h3⟩ | rfl | rfl) | hb
         ·exact .inl ⟨t,(hTt t).2 (.inr ⟨h1,h2⟩),h3⟩
         ·exact .inr (by omega)
         ·exact .inr (by omega)
         ·exact .inl ⟨y,(hTt y).2 (.inl rfl),hb⟩
        have hnot:∀ b,b < w.heap.size→(¬ ∃ t,T t=true∧F t b)→b < W1.heap.size∧¬ (Fu b∨F y b):=fun b hb hno=>⟨by omega,fun hh=>(hFX b hh).elim hno (fun hh=>by omega)⟩;have hturn:TurnedBut (fun b=>∃ t,T t=true∧F t b) w S w4 S2:={
         kept:=⟨by rw[← hw4];exact ht.kept.os.trans hB1.os,by rw[← hw4];exact ht.kept.tape.trans hB1.tape,by rw[← hw4];exact ht.kept.output.trans hB1.output,by rw[hsz4];exact yL hB1.size ht.kept.size,
          fun k hk=>(hoth k (by omega)).trans ((ht.kept.block k (hnot k hk.1 hk.2)).trans (hold k hk.1))⟩
         old:=fun b o hb hno=>ht.old b o (hnot b hb hno).1 (hnot b hb hno).2
         keeps:=hLI.kp.trans hk24
         lt:=hsl4 }
        have hfr2:∀ t,t∈L→qA (fr t)=true→qA (setSt fr L (stOf fr L).1 ys t)=true∧qz (fr t) (setSt fr L (stOf fr L).1 ys t)=true:=fun t h1 h2=>by
         obtain⟨p,x0,e1⟩:=qab.1 h2;obtain⟨x2,e2⟩:=qkN L _ ys t p x0 rfl h1 e1;rw[e1,e2];exact⟨rfl,by simp[qz]⟩
        have hend:∀ t,t∈L→qA (fr t)=true→endFr fr y L (setSt fr L (stOf fr L).1 ys) t=setSt fr L (stOf fr L).1 ys t:=fun t h1 h2=>qvM ⟨by simpa using h1,h2⟩ (fun e=>hyL' (e ▸ h1));have hendy:endFr fr y L (setSt fr L (stOf fr L).1 ys) y=.bad:=by unfold endFr;rw[if_pos rfl]
        have hendo:∀ t,T t=false→endFr fr y L (setSt fr L (stOf fr L).1 ys) t=(match fr t with
         | .padr s r=>if s=y then .bad else if (L.contains s&&qA (fr s))=true then (if qaS r=true then .padr s r else .bad) else .padr s r
         | .pval s r=>if (decide (s=y)||(L.contains s&&qA (fr s)))=true then .bad else .pval s r
         | v=>v):=fun t hT=>by
         have h1:¬ t=y:=fun e=>by rw[(hTt t).2 (.inl e)] at hT;cases hT
         have h2:¬ (L.contains t&&qA (fr t))=true:=fun e=>by
          simp only[yf,List.contains_iff_mem] at e;rw[(hTt t).2 (.inr e)] at hT;cases hT
         unfold endFr;rw[if_neg h1,if_neg h2];all_goals rfl
        have hisr:∀ t,T t=true→(fr t).isRoot=true:=fun t hT=>by
         rcases (hTt t).1 hT with rfl | ⟨_,h2⟩
         ·rw[hy];rfl
         ·exact(qca h2).2
        have hnf:∀ s,T s=false→¬ s=y∧¬ (L.contains s&&qA (fr s))=true:=fun s hT=>⟨fun e=>(by rw[(hTt s).2 (.inl e)] at hT;cases hT),fun e=>by
         simp only[yf,List.contains_iff_mem] at e;rw[(hTt s).2 (.inr e)] at hT;cases hT⟩
        have hRP:=h.calledAll (T:=T) (fr':=endFr fr y L (setSt fr L (stOf fr L).1 ys)) (G:=G') hturn hisr
         (fun t hT hr=>by
          rcases (hTt t).1 hT with rfl | ⟨h1,h2⟩
          ·rw[hendy] at hr;cases hr
          ·rw[hend t h1 h2];exact⟨(hfr2 t h1 h2).2,(hLI.roots t h1 h2).step hk24 hsl4 (fun b hG=>hoth b (hnl t b hG)) (fun _ _ _=>Iff.rfl)⟩)
         (fun t hT hr=>by
          rcases (hTt t).1 hT with rfl | ⟨h1,h2⟩
          ·exact⟨hendy,fun b hG=>hyL' (hLI.box _ b hG).1⟩
          ·rw[hend t h1 h2,(qca (hfr2 t h1 h2).1).2] at hr;cases hr)
         (fun t hT=>by
          rw[hendo t hT];cases hft:fr t with
          | padr s r =>
           simp only;split
           ·exact .inr ⟨rfl,rfl⟩
           ·split
            ·split
             ·exact .inl rfl
             ·exact .inr ⟨rfl,rfl⟩
            ·exact .inl rfl
          | pval s r =>
           simp only;split
           ·exact .inr ⟨rfl,rfl⟩
           ·exact .inl rfl
          | _=>exact .inl rfl)
         (fun t s r hh=>by
          cases hT:T t with
          | true =>
           exfalso;rcases (hTt t).1 hT with rfl | ⟨h1,h2⟩
           ·rw[hendy] at hh;cases hh
           ·rw[hend t h1 h2] at hh;have:=(qca (hfr2 t h1 h2).1).2;rw[hh] at this;cases this
          | false =>
           rw[hendo t hT] at hh;cases hft:fr t with
           | padr s' r' =>
            rw[hft] at hh;simp only at hh;split at hh
            ·cases hh
            ·rename_i h1;split at hh
             ·rename_i h2;split at hh
              ·rename_i h3;cases hh;refine⟨rfl,fun _=>⟨h3,?_⟩⟩;simp only[yf,List.contains_iff_mem] at h2;rw[hend s h2.1 h2.2];exact(qca (hfr2 s h2.1 h2.2).1).2
              ·cases hh
             ·rename_i h2;cases hh;refine⟨rfl,fun hTs=>?_⟩;exfalso;rcases (hTt s).1 hTs with e | e
              ·exact h1 e
              ·exact h2 (by simp only[yf,List.contains_iff_mem];exact e)
           | pval s' r' =>
            rw[hft] at hh;simp only at hh;split at hh <;> cases hh
           | _=>rw[hft] at hh;cases hh)
         (fun t s r hh=>by
          cases hT:T t with
          | true =>
           exfalso;rcases (hTt t).1 hT with rfl | ⟨h1,h2⟩
           ·rw[hendy] at hh;cases hh
           ·rw[hend t h1 h2] at hh;have:=(qca (hfr2 t h1 h2).1).2;rw[hh] at this;cases this
          | false =>
           rw[hendo t hT] at hh;cases hft:fr t with
           | padr s' r' =>
            rw[hft] at hh;simp only at hh;split at hh
            ·cases hh
            ·split at hh
             ·split at hh <;> cases hh
             ·cases hh
           | pval s' r' =>
            rw[hft] at hh;simp only at hh;split at hh
            ·cases hh
            ·rename_i h1;cases hh;refine⟨rfl,?_⟩;cases hTs:T s with
             | false=>rfl
             | true =>
              exfalso;refine h1 ?_;rcases (hTt s).1 hTs with e | e
              ·simp[e]
              ·simp only[yR,yf,List.contains_iff_mem];exact .inr e
           | _=>rw[hft] at hh;cases hh)
         (fun t t' b _ _ hne hG hG'=>hLI.dj t t' b hne hG hG')
         (fun t b _ hG=>by
          rcases hF' b ((hLI.fp b).2 (.inl ⟨t,hG⟩)) with hb | hb
          ·exact hFX b hb
          ·exact .inr (by omega))
         (fun t b _ hG=>by
          obtain⟨h1,h2⟩:=hLI.box t b hG;rw[hsz4];exact(hLI.roots t h1 h2).lt (qca (hfr2 t h1 h2).1).1 hG)
        have hD4:w4.heap[w.heap.size]? = some (.deferred (some [])):=(hoth _ (by omega)).trans hLI.dfd;have hlab:∀ t,endFr fr y L (setSt fr L (stOf fr L).1 ys) t=fr t∨(endFr fr y L (setSt fr L (stOf fr L).1 ys) t).vague=true:=fun t=>by
         cases hT:T t with
         | true =>
          rcases (hTt t).1 hT with rfl | ⟨h1,h2⟩
          ·rw[hendy];exact .inr rfl
          ·rw[hend t h1 h2];exact .inr (qu (qca (hfr2 t h1 h2).1).2)
         | false =>
          rw[hendo t hT];cases hft:fr t with
          | padr s r=>simp only;right;split <;> (first | rfl | (split <;> (first | rfl | (split <;> rfl))))
          | pval s r=>simp only;right;split <;> rfl
          | _=>exact .inl rfl
        have hAB:=hRP.addBase (D:=w.heap.size) (Array.getElem?_eq_some_iff.1 hD4).1
         (fun t hF=>by
          rcases hF with ⟨_,hG⟩ | ⟨_,hG⟩
          ·exact(hLI.nl t).2 hG
          ·have:=h.lt hG;omega)
         (fun t l e hl hob=>by
          rcases hlab t with h1 | h1
          ·rw[h1] at hl;have:=h.r.own_lt' hl hob;omega
          ·rw[qar h1] at hl;cases hl)
         (fun t u z hb hob=>by
          rcases hlab t with h1 | h1
          ·rw[h1] at hb;have:=h.r.box_lt hb hob;omega
          ·rw[hb] at h1;cases h1)
        have hRm:RRPm P base w0 S0 E.nt gv (endFr fr y L (setSt fr L (stOf fr L).1 ys)) { a with defers:=[{ target:=.collected w.heap.size,args := #[] }]++a.defers } w4:=by
         have hDb:¬ base' w.heap.size:=fun hb=>by have:=h.base_le hb;omega
         refine⟨_,w4,S2,⟨hn,S2,_,hAB⟩,fun b hb=>.inl (m1 b hb),?_,(m3.trans h.kp).trans hturn.keeps,fun b o hb=>?_,.cons _ _ (.inr rfl) (fun hb=>hDb (m1 _ hb)) hD4 (fun i=>(hLI.uns i).2) (m5.ne hDb) (m5.mono (fun k hk=>.inl hk) (fun k hk _ _=>⟨hRP.below.block k hk,fun i hi=>(hRP.old k i hk).1 hi⟩))⟩
         ·exact⟨hRP.below.os.trans m2.os,hRP.below.tape.trans m2.tape,hRP.below.output.trans m2.output,yL m2.size hRP.below.size,fun k hk=>(hRP.below.block k (m1 k hk)).trans (m2.block k hk)⟩
         ·exact(hRP.old b o (m1 b hb)).trans (m4 b o hb)
        cases c with
        | false =>
         simp only[yd] at he;exact hK.go .normal _ _ w4 he hRm
        | true =>
         simp only[yc] at he;exact wpIn_ret (hK.go .ret _ _ w4 he (hcut _ _ _ _ _ _ _ hRm))
     ·cases he
    ·cases he
   ·cases he
  ·cases he
 ·cases he
end
end
section
open Go.RowKit Go.Lib
variable {w:World} {S:qa} {fr:Fr} {a:Act} {F:Nat→Nat→Prop} {l:List Nat} {v:AV} {s n:Nat} {r:List PStep} {f:FuncId} {fn:Func} {c:Code} {spec:List AV→Bool×AV}
def qBi (E:EnvP) (ops:Array Oper):List Oper→Fr→(Fr→Option AV)→Option AV
 | [],fr,K=>K fr
 | o :: rest,fr,K=>match stepX E ops fr o with
  | some (ok,fr')=>bif ok then qjp ops o.dst fr' (fun fr2=>qBi E ops rest fr2 K) else none
  | none=>none
def qn (id:Nat) (o:Option (List Nat)) (K:Ex→Fr→Option AV):Ex→Fr→Option AV
 | .normal,fr=>K .normal (cutFP o fr)
 | .exit i,fr=>if i=id then K .normal fr else K (.exit i) fr
 | .ret,fr=>K .ret fr
noncomputable def evCP (E:EnvP) (lp:Code→(Ex→Fr→Option AV)→Fr→Option AV):Code→(Ex→Fr→Option AV)→Fr→Option AV
 | .skip,K,fr=>K .normal fr
 | .region id ops false,K,fr=>bif qdp ops then qBi E ops ops.toList (openL (E.frz (id+500000)) fr) (K .normal) else none
 | .region id ops true,K,fr=>bif qdp ops&&Region.noSelect ops then qdh E ops (ops.size+1) (Array.replicate ops.size false) [] (openL (E.frz (id+500000)) fr) (K .normal) else none
 | .seq a b,K,fr=>evCP E lp a (kSeq (evCP E lp b) K) fr
 | .cond c a b,K,fr=>match rdo E.toEnv fr true 0 c with
  | (ok,.dat .bool t _)=>bif ok then (bif t then evCP E lp a K fr else evCP E lp b K fr) else none
  | _=>none
 | .block id c,K,fr=>evCP E lp c (qn id (E.cutb id) K) fr
 | .loop c,K,fr=>lp c K (cutFP (E.cuts (qjr c)) (openL (E.frz (qjr c)) fr))
 | .scope c,K,fr=>evCP E lp c K fr
 | .label _,K,fr=>K .normal fr
 | .exit id,K,fr=>K (.exit id) (cutFP (E.cutb id) fr)
 | .ret,K,fr=>K .ret (cutFP E.cutr fr)
 | .rangeFunc g ps assign body,K,fr=>bif qan assign&&qan body then qvL E (evCP E lp assign) (evCP E lp body) ((E.cuts (qjr body+2000000)).getD []) g ps.toList K fr else none
 | _,_,_=>none
noncomputable def evLP (E:EnvP):Nat→Code→(Ex→Fr→Option AV)→Fr→Option AV
 | 0,_,_,_=>none
 | n+1,c,K,fr=>evCP E (evLP E n) c (kSeq (fun K fr=>evLP E n c K (cutFP (E.cuts (qjr c)) fr)) K) fr
def qNh:ResultVar→Operand
 | .tmp t=>.tmp t
 | .cell t _=>.tmp t
def qhW (E:EnvP) (rs:Array ResultVar) (fr:Fr):Option AV :=
 match qdj E.nt (qbs E.nt fr (rs.toList.map qNh)) fr with
 | some fr'=>qfU E.toEnv rs fr'
 | none=>none
def kFnP (E:EnvP) (rs:Array ResultVar):Ex→Fr→Option AV
 | .normal,fr=>qhW E rs fr
 | .ret,fr=>qhW E rs fr
 | .exit _,_=>none
noncomputable def evFnP (E:EnvP) (n:Nat) (c:Code) (rs:Array ResultVar) (avs:List AV):Option AV :=
 if E.nt < avs.length then none else evCP E (evLP E n) c (kFnP E rs) (fun t=>(avs.getD t .bad).strip)
section
variable {base:Nat→Prop} {w0:World} {S0:qa} {gv:Nat→Value} {P:Program} {E:EnvP}
theorem qkD (hT:TyOk P E.toEnv) (hF:∀ w S,Keeps w0 S0 w S→EnvOk P E w S) {ops:Array Oper} {Q:Exit→Act→World→Prop} {K:Fr→Option AV} {r:AV}
 (hK:∀ fr' a' w',K fr'=some r→RRP P base w0 S0 E.nt gv fr' a' w'→Q .normal a' w'):∀ (l:List Oper) (fr:Fr) (a:Act) (w:World),qBi E ops l fr K=some r→RRP P base w0 S0 E.nt gv fr a w→qed P ops Q l a w
 | [],fr,a,w,he,hR=>hK fr a w he hR
 | o :: rest,fr,a,w,he,⟨hn,S,F,h⟩=>by
  simp only[qBi] at he;cases hs:stepX E ops fr o with
  | none=>rw[hs] at he;cases he
  | some p =>
   obtain⟨ok,fr'⟩:=p;rw[hs] at he;simp only at he;cases ok with
   | false=>cases he
   | true =>
    simp only[yc] at he;obtain⟨fr2,he,hr2⟩:=qbk he;unfold qed;rcases qvs hn h hT hF hs with ⟨hw,hd⟩ | ⟨hw,hR'⟩
    ·rw[if_pos hw];exact hd _ _ fun a' w' ⟨hn',S',F',hR',_⟩=>qkD hT hF hK rest fr2 a' w' he ⟨hn',S',F',hR'.res1 hr2⟩
    ·rw[hw];obtain⟨hn',S',F',hR',_⟩:=hR';exact qkD hT hF hK rest fr2 _ w he ⟨hn',S',F',hR'.res1 hr2⟩
theorem RP.drew (h:RP P base w0 S0 S fr gv a w F):RP P base w0 S0 S fr gv a { w with drawn:=w.drawn+1 } F:=by
 have hR:R (fun k=>base k∨∃ t,F t k) { w with drawn:=w.drawn+1 } S S fr a { w with drawn:=w.drawn+1 }:=(h.r.drew).rebase (fun k hk=>hk);exact h.upd (fun _=>False) hR ⟨rfl,rfl,rfl,yv _,fun _ _=>rfl⟩ (fun _ _ _=>Iff.rfl) (qcY w S) (fun _ _ _=>Iff.rfl) (fun _ _ _ _=>rfl) (fun _ _ _ _ _=>Iff.rfl) (fun _ _=>⟨rfl,fun _=>⟨rfl,rfl⟩⟩)
  (fun _ _ hf=>hf.elim) (fun _ _ _ hf=>hf.elim) (fun _ hf=>hf.elim) (fun _ hf=>hf.elim) (fun t s r ht=>.inl ⟨fun hf=>hf,ht,rfl⟩) (fun t s r ht=>.inl ⟨fun hf=>hf,ht,rfl⟩)
theorem qIA (l:List Nat) (v:AV):cutVP l v=cutV l v∨(v.isRef=true∧(cutVP l v=v∨cutVP l v=.bad)):=by
 cases v with
 | padr s r =>
  right;refine⟨rfl,?_⟩;simp only[cutVP];split
  ·exact .inl rfl
  ·exact .inr rfl
 | pval s r =>
  right;refine⟨rfl,?_⟩;simp only[cutVP];split
  ·exact .inl rfl
  ·exact .inr rfl
 | _=>exact .inl rfl
theorem qqM (fr:Fr) (l0:List Nat):∀ (l:List Nat) (t:Nat),frOf (l.map fun s=>(s % 1000000,cutVP l0 (fr (s % 1000000)))) t=if (l.map (· % 1000000)).contains t then cutVP l0 (fr t) else .bad
 | [],t=>rfl
 | s :: l,t=>by
  simp only[yI,frOf,List.contains_cons]
  by_cases e:t=s % 1000000
  ·subst e;simp
  ·rw[if_neg e,qqM fr l0 l t];simp[e]
theorem qvt (l:List Nat) (v:AV):(cutVP l v).isRoot=v.isRoot∧(v.isRoot=true→cutVP l v=v):=by
 cases v with
 | dat s x o =>
  refine⟨?_,fun h=>by cases h⟩;cases o with
  | none=>rfl
  | some p=>simp only[cutVP,cutV];split <;> rfl
 | badr s p=>refine⟨?_,fun h=>by cases h⟩;simp only[cutVP,cutV];split <;> rfl
 | padr s r=>refine⟨?_,fun h=>by cases h⟩;simp only[cutVP];split <;> rfl
 | pval s r=>refine⟨?_,fun h=>by cases h⟩;simp only[cutVP];split <;> rfl
 | _=>exact⟨rfl,fun _=>rfl⟩
theorem qBj (h:cutVP l v=.padr s r):v=.padr s r∧qjq l s=true:=by
 cases v with
 | dat s x o=>cases o with
  | none=>cases h
  | some p=>simp only[cutVP,cutV] at h;split at h <;> cases h
 | badr s p=>simp only[cutVP,cutV] at h;split at h <;> cases h
 | padr s' r' =>
  simp only[cutVP] at h;split at h
  ·rename_i hk;cases h;exact⟨rfl,hk⟩
  ·cases h
 | pval s r=>simp only[cutVP] at h;split at h <;> cases h
 | _=>cases h
theorem qBk (h:cutVP l v=.pval s r):v=.pval s r∧qjq l s=true:=by
 cases v with
 | dat s x o=>cases o with
  | none=>cases h
  | some p=>simp only[cutVP,cutV] at h;split at h <;> cases h
 | badr s p=>simp only[cutVP,cutV] at h;split at h <;> cases h
 | pval s' r' =>
  simp only[cutVP] at h;split at h
  ·rename_i hk;cases h;exact⟨rfl,hk⟩
  ·cases h
 | padr s r=>simp only[cutVP] at h;split at h <;> cases h
 | _=>cases h
theorem RP.cut (h:RP P base w0 S0 S fr gv a w F) (o:Option (List Nat)):∃ F',RP P base w0 S0 S (cutFP o fr) gv a w F':=by
 cases o with
 | none=>exact⟨F,h⟩
 | some l =>
  have hat:∀ t,cutFP (some l) fr t=if (l.map (· % 1000000)).contains t then cutVP l (fr t) else .bad:=qqM fr l l
  have hat0:∀ t,cutF (some l) fr t=if (l.map (· % 1000000)).contains t then cutV l (fr t) else .bad:=qoe fr l l
  let X:Nat→Prop:=fun t=>(l.map (· % 1000000)).contains t=false
  refine⟨fun t b=>¬ X t∧F t b,?_⟩;have hR:=(h.r.cut (some l)).repriv (fr':=cutFP (some l) fr) (fun t=>by
   rw[hat,hat0];split
   ·rcases qIA l (fr t) with e | ⟨e1,e2⟩
    ·exact .inl e
    ·right;have hv:(fr t).vague=true:=qfM e1;have hc:cutV l (fr t)=fr t:=by generalize fr t=av at e1;cases av <;> first | rfl | cases e1
     rw[hc];refine⟨hv,?_⟩;rcases e2 with e2 | e2
     ·rw[e2];exact hv
     ·rw[e2];rfl
   ·exact .inl rfl)
  have hX:∀ t,¬ X t→(l.map (· % 1000000)).contains t=true:=fun t ht=>by
   cases hc:(l.map (· % 1000000)).contains t with
   | true=>rfl
   | false=>exact absurd hc ht
  refine h.upd X (hR.rebase (fun k hk=>hk.imp id (fun ⟨t,ht⟩=>⟨t,ht.2⟩))) (Kept.refl _ _) (fun _ _ _=>Iff.rfl) (Keeps.refl _ _) (fun t ht b=>⟨(·.2),fun hh=>⟨ht,hh⟩⟩) (fun _ _ _ _=>rfl) (fun _ _ _ _ _=>Iff.rfl)
   (fun t ht=>?_) (fun t b ht hh=>absurd ht hh.1) (fun t t' b ht _ hh=>absurd ht hh.1) (fun t ht _ b hh=>absurd ht hh.1) (fun t ht hh=>?_) (fun t s r ht=>?_) (fun t s r ht=>?_)
  ·rw[hat,hX t ht];obtain⟨e1,e2⟩:=qvt l (fr t);exact⟨e1,fun hh=>⟨e2 hh,rfl⟩⟩
  ·have hc:(l.map (· % 1000000)).contains t=false:=ht;rw[hat,hc] at hh;cases hh
  ·rw[hat] at ht;split at ht
   ·obtain⟨e1,e2⟩:=qBj ht;exact .inl ⟨(fun hx=>by have hc:(l.map (· % 1000000)).contains s=false:=hx;rw[qhi e2] at hc;cases hc),e1,rfl⟩
   ·cases ht
  ·rw[hat] at ht;split at ht
   ·obtain⟨e1,e2⟩:=qBk ht;exact .inl ⟨(fun hx=>by have hc:(l.map (· % 1000000)).contains s=false:=hx;rw[qhi e2] at hc;cases hc),e1,rfl⟩
   ·cases ht
theorem RRP.cut (h:RRP P base w0 S0 n gv fr a w) (o:Option (List Nat)):RRP P base w0 S0 n gv (cutFP o fr) a w:=by
 obtain⟨hn,S,F,h⟩:=h;obtain⟨F',h'⟩:=h.cut o;exact⟨hn,S,F',h'⟩
theorem RRP.opens (h:RRP P base w0 S0 n gv fr a w) (l:List Nat):RRP P base w0 S0 n gv (openL l fr) a w:=by
 obtain⟨hn,S,F,h⟩:=h;obtain⟨S',h',_⟩:=RP.openL l fr S h;exact⟨hn,S',F,h'⟩
theorem RRPm.map {fr':Fr} (h:RRPm P base w0 S0 n gv fr a w) (hf:∀ base' w1 S1 a w,RRP P base' w1 S1 n gv fr a w→RRP P base' w1 S1 n gv fr' a w):RRPm P base w0 S0 n gv fr' a w:=by
 obtain⟨base',w1,S1,h1,h2⟩:=h;exact⟨base',w1,S1,hf _ _ _ _ _ h1,h2⟩
theorem RRPm.cut (h:RRPm P base w0 S0 n gv fr a w) (o:Option (List Nat)):RRPm P base w0 S0 n gv (cutFP o fr) a w:=h.map fun _ _ _ _ _ h=>h.cut o
theorem RRPm.opens (h:RRPm P base w0 S0 n gv fr a w) (l:List Nat):RRPm P base w0 S0 n gv (openL l fr) a w:=h.map fun _ _ _ _ _ h=>h.opens l
theorem qea (hT:TyOk P E.toEnv) (hm:P.follows .mixedOrders=true) {N:Nat} {lp:Code→(Ex→Fr→Option AV)→Fr→Option AV}
 (hlp:∀ (ro:Option Nat) (c:Code),(ro=none∨qan c=true)→∀ (base:Nat→Prop) (w0:World) (S0:qa) (gv:Nat→Value) (r:AV) (K:Ex→Fr→Option AV) (Q:Exit→Act→World→Prop) (fr:Fr) (a:Act) (w:World),(∀ w S,Keeps w0 S0 w S→EnvOk P E w S) →
  lp c K fr=some r→GoesP P E base w0 S0 gv K r Q→RRPm P base w0 S0 E.nt gv fr a w→Code.roundsIn (FW ro) 0 P c Q N a w) :
 ∀ (c:Code) (ro:Option Nat),(ro=none∨qan c=true)→qtK P E ro c (evCP E lp c)
 | .skip,ro,_,base,w0,S0,gv,r,K,Q,fr,a,w,hF,he,hK,hR=>wpIn_skip (hK.go .normal fr a w he hR)
 | .region id ops false,ro,_,base,w0,S0,gv,r,K,Q,fr,a,w,hF,he,hK,hR=>by
  simp only[evCP] at he;cases hd:qdp ops with
  | false=>rw[hd] at he;cases he
  | true =>
   rw[hd] at he;simp only[yc] at he;obtain⟨base',w1,S1,h1,m1,m2,m3,m4,m5⟩:=hR.opens (E.frz (id+500000));have hx:=qkD (Q:=fun ex a' w'=>∃ fr',K .normal fr'=some r∧ex=.normal∧RRP P base' w1 S1 E.nt gv fr' a' w') hT (fun w S hk=>hF w S (m3.trans hk)) (fun fr' a' w' h1 h2=>⟨fr',h1,rfl,h2⟩) ops.toList _ (up [] a) w he h1;have hy:=qjt (id:=id) ro hd (qiv a.defers _ _ _ hx);have ha:up a.defers (up [] a)=a:=rfl;rw[ha] at hy;refine wpIn_mono hy fun ex a' w' ⟨a0,e0,fr',k1,k2,k3⟩=>?_;subst k2;subst e0;have hd0:a0.defers=[]:=k3.2.choose_spec.choose_spec.r.dfr;have e2:up [] (up a.defers a0)=a0:=by cases a0;simp only[up] at *;simp_all
   exact hK.go .normal fr' _ w' k1 ⟨base',w1,S1,by rw[e2];exact k3,m1,m2,m3,m4,m5⟩
 | .region id ops true,ro,_,base,w0,S0,gv,r,K,Q,fr,a,w,hF,he,hK,hR=>by
  simp only[evCP] at he;cases hd:qdp ops with
  | false=>rw[hd] at he;cases he
  | true =>
   rw[hd] at he;simp only[y6] at he;cases hsel:Region.noSelect ops with
   | false=>rw[hsel] at he;cases he
   | true =>
    rw[hsel] at he;simp only[yc] at he;obtain⟨base',w1,S1,⟨hn,S,F,h⟩,m1,m2,m3,m4,m5⟩:=hR.opens (E.frz (id+500000));have hx:=qeM (Q:=fun ex a' w'=>∃ fr',K .normal fr'=some r∧ex=.normal∧RRP P base' w1 S1 E.nt gv fr' a' w') hT (fun w S hk=>hF w S (m3.trans hk)) hsel (fun c a w ⟨_,_,e,_⟩=>by cases e) (fun fr' a' w' h1 h2=>⟨fr',h1,rfl,h2⟩)
     _ ops.size _ [] _ (up [] a) _ S F (fun _ w'=>Keeps { w with drawn:=w.drawn+1 } S w' S) he hn h.drew (fun _ hπ=>by cases hπ)
     (fun _ w' _ hk _=>hk) (fun _ _ _ _ _ _ hh=>hh) (fun j oj hj hl=>by simp[Array.getElem?_replicate] at hl;split at hl <;> simp at hl) (yv _)
    have hy:=qtB (id:=id) ro hd hm a.defers hx;have ha:up a.defers (up [] a)=a:=rfl;rw[ha] at hy;refine wpIn_mono hy fun ex a' w' ⟨a0,e0,fr',k1,k2,k3⟩=>?_;subst k2;subst e0;have hd0:a0.defers=[]:=k3.2.choose_spec.choose_spec.r.dfr;have e2:up [] (up a.defers a0)=a0:=by cases a0;simp only[up] at *;simp_all
    exact hK.go .normal fr' _ w' k1 ⟨base',w1,S1,by rw[e2];exact k3,m1,m2,m3,m4,m5⟩
 | .seq x y,ro,hr,base,w0,S0,gv,r,K,Q,fr,a,w,hF,he,hK,hR=>by
  have hr1:ro=none∨qan x=true:=hr.imp id (fun h=>by simp only[qan,yf] at h;exact h.1);have hr2:ro=none∨qan y=true:=hr.imp id (fun h=>by simp only[qan,yf] at h;exact h.2);refine wpIn_seq (qea hT hm hlp x ro hr1 base w0 S0 gv r _ _ fr a w hF he ⟨fun c a w=>hK.panics c a w,fun ex fr' a' w' h1 h2=>?_⟩ hR);cases ex with
  | normal=>exact qea hT hm hlp y ro hr2 base w0 S0 gv r K Q fr' a' w' hF h1 hK h2
  | exit id=>exact hK.go (.exit id) fr' a' w' h1 h2
  | ret=>exact hK.go .ret fr' a' w' h1 h2
 | .cond c x y,ro,hr,base,w0,S0,gv,r,K,Q,fr,a,w,hF,he,hK,hR=>by
  have hr1:ro=none∨qan x=true:=hr.imp id (fun h=>by simp only[qan,yf] at h;exact h.1);have hr2:ro=none∨qan y=true:=hr.imp id (fun h=>by simp only[qan,yf] at h;exact h.2);simp only[evCP] at he;split at he
  ·rename_i ok t o hc;cases ok with
   | false=>cases he
   | true =>
    simp only[yc] at he;have hR':=hR;obtain⟨base',w1,S1,⟨hn,S,F,h⟩,_⟩:=hR';have hb:=qbD (qt h.r hc).1;have hb':a.eval c=.bool t:=by rw[← hb];cases c <;> rfl
    cases t with
    | true=>exact wpIn_cond hb' (qea hT hm hlp x ro hr1 base w0 S0 gv r K Q fr a w hF he hK hR)
    | false=>exact wpIn_cond hb' (qea hT hm hlp y ro hr2 base w0 S0 gv r K Q fr a w hF he hK hR)
  ·cases he
 | .block id c,ro,hr,base,w0,S0,gv,r,K,Q,fr,a,w,hF,he,hK,hR=>by
  refine wpIn_block (qea hT hm hlp c ro hr base w0 S0 gv r _ _ fr a w hF he ⟨fun c a w=>hK.panics c a w,fun ex fr' a' w' h1 h2=>?_⟩ hR);cases ex with
  | normal=>exact hK.go .normal _ a' w' h1 (h2.cut _)
  | exit i =>
   simp only[exOf,Exit.inBlock];simp only[qn] at h1;split at h1
   ·rename_i hi;rw[if_pos hi];exact hK.go .normal fr' a' w' h1 h2
   ·rename_i hi;rw[if_neg hi];exact hK.go (.exit i) fr' a' w' h1 h2
  | ret=>exact hK.go .ret fr' a' w' h1 h2
 | .loop c,ro,hr,base,w0,S0,gv,r,K,Q,fr,a,w,hF,he,hK,hR=>wpIn_loop_rounds N (hlp ro c hr base w0 S0 gv r K Q _ a w hF he hK ((hR.opens _).cut _))
 | .exit id,ro,_,base,w0,S0,gv,r,K,Q,fr,a,w,hF,he,hK,hR=>wpIn_exit (hK.go (.exit id) _ a w he (hR.cut _))
 | .ret,ro,_,base,w0,S0,gv,r,K,Q,fr,a,w,hF,he,hK,hR=>wpIn_ret (hK.go .ret _ a w he (hR.cut _))
 | .rangeFunc g ps assign body,ro,hr,base,w0,S0,gv,r,K,Q,fr,a,w,hF,he,hK,hR=>by
  have hro:ro=none:=hr.resolve_right (by simp[qan]);subst hro;simp only[evCP] at he;cases hn1:qan assign&&qan body with
  | false=>rw[hn1] at he;cases he
  | true =>
   rw[hn1] at he;simp only[yc] at he;simp only[yf] at hn1;exact qvN (fun l=>qea hT hm hlp assign (some l) (.inr hn1.1)) (fun l=>qea hT hm hlp body (some l) (.inr hn1.2)) (fun _ _ _ _ _ _ _ h=>h.cut _) base w0 S0 gv r K Q fr a w hF he hK hR
 | .scope c,ro,hr,base,w0,S0,gv,r,K,Q,fr,a,w,hF,he,hK,hR=>qfc (qea hT hm hlp c ro hr base w0 S0 gv r K _ fr a w hF he ⟨fun c a w=>hK.panics c a w,fun ex fr' a' w' h1 h2=>by
  cases ex with
  | normal=>exact hK.go .normal fr' a' w' h1 h2
  | exit id=>exact hK.go (.exit id) fr' a' w' h1 h2
  | ret=>exact hK.go .ret fr' a' w' h1 h2⟩ hR)
 | .label _,ro,_,base,w0,S0,gv,r,K,Q,fr,a,w,hF,he,hK,hR=>wpIn_label (hK.go .normal fr a w he hR)
 | .goto _,ro,_,base,w0,S0,gv,r,K,Q,fr,a,w,hF,he,hK,hR=>by simp[evCP] at he
 | .refuse _,ro,_,base,w0,S0,gv,r,K,Q,fr,a,w,hF,he,hK,hR=>by simp[evCP] at he
theorem qvu (hT:TyOk P E.toEnv) (hm:P.follows .mixedOrders=true) :
 ∀ (n:Nat) (ro:Option Nat) (c:Code),(ro=none∨qan c=true)→∀ (base:Nat→Prop) (w0:World) (S0:qa) (gv:Nat→Value) (r:AV) (K:Ex→Fr→Option AV) (Q:Exit→Act→World→Prop) (fr:Fr) (a:Act) (w:World),(∀ w S,Keeps w0 S0 w S→EnvOk P E w S) →
  evLP E n c K fr=some r→GoesP P E base w0 S0 gv K r Q→RRPm P base w0 S0 E.nt gv fr a w→Code.roundsIn (FW ro) 0 P c Q n a w
 | 0,ro,c,_,base,w0,S0,gv,r,K,Q,fr,a,w,_,he,_,_=>by simp[evLP] at he
 | n+1,ro,c,hr,base,w0,S0,gv,r,K,Q,fr,a,w,hF,he,hK,hR=>by
  rw[roundsIn_succ];simp only[evLP] at he;refine qea hT hm (qvu hT hm n) c ro hr base w0 S0 gv r _ _ fr a w hF he ⟨fun c a w=>hK.panics c a w,fun ex fr' a' w' h1 h2=>?_⟩ hR;cases ex with
  | normal=>exact qvu hT hm n ro c hr base w0 S0 gv r K Q _ a' w' hF h1 hK (h2.cut _)
  | exit id=>exact hK.go (.exit id) fr' a' w' h1 h2
  | ret=>exact hK.go .ret fr' a' w' h1 h2
theorem qhX {fn:Func} {tm:Array Value} {R:Ending→World→Prop} {base base':Nat→Prop} {w0:World} {S0 S:qa} {fr:Fr} {gv:Nat→Value} {a:Act} {F:Nat→Nat→Prop} (hb:∀ k,base k→base' k) :
 ∀ (dl:List Deferred) (w1 w:World) (S1:qa),RP P base' w1 S1 S fr gv a w F→Kept base w0 w1→Keeps w0 S0 w1 S1→(∀ b o,base b→(S1 b o↔S0 b o))→Marks base base' w1 S1 dl →
  (∀ w'',RP P base w0 S0 S fr gv a w'' F→∃ v,(results fn tm).run P w''=.ok v w''∧R (.returned v) w'')→LeavesInM (FW none) 0 P fn tm R dl .returning w
 | [],w1,w,S1,h,k1,k2,k3,_,hfin=>hfin w (h.weaken hb k1 k2 k3)
 | d :: dl,w1,w,S1,h,k1,k2,k3,hm,hfin=>by
  cases hm with
  | cons D _ h1 h2 h3 h5 h4 hm =>
   have hD:w.heap[D]? = some (.deferred (some [])):=(h.below.block D h1).trans h3;have hun:∀ i,¬ S D i:=fun i hh=>h5 i ((h.old D i h1).1 hh);have hw:=h.weaken hb k1 k2 k3;have ht:=h.touch h1 hun (.deferred none);have hoth:∀ k,k≠D→(w.putObj D (.deferred none)).heap[k]? = w.heap[k]? := fun k hk=>World.putObj_heap_other hk;refine⟨by simp,.inl ⟨D,w.putObj D (.deferred none),rfl,run_takeDeferred hD,qhX hb dl (w.putObj D (.deferred none)) (w.putObj D (.deferred none)) S ht ?_ ?_ ?_ ?_ hfin⟩⟩
   ·exact⟨hw.below.os,hw.below.tape,hw.below.output,by rw[World.putObj_size];exact hw.below.size,fun k hk=>(hoth k (fun e=>h2 (e ▸ hk))).trans (hw.below.block k hk)⟩
   ·exact hw.kp.trans (qaC hun)
   ·exact fun b o hB=>hw.old b o hB
   ·exact hm.mono (fun _ hk=>hk) (fun k hk _ ⟨d',hd',e⟩=>⟨(hoth k (fun e2=>h4 d' hd' (e2 ▸ e))).trans (h.below.block k hk),fun i hi=>(h.old k i hk).1 hi⟩)
theorem qdd (hT:TyOk P E.toEnv) (hF:∀ w1 S1,Keeps w S w1 S1→EnvOk P E w1 S1) (hm:P.follows .mixedOrders=true) (hf:P.funcs[f]? = some fn) (hb:fn.body=some c)
 {K:Ex→Fr→Option AV} {r:AV} {base:Nat→Prop} {gv:Nat→Value} {args:Array Value} (he:evCP E (evLP E n) c K fr=some r) (hsz:(args++Array.replicate (fn.ntmps - args.size) undef).size=E.nt)
 (hst:RP P base w S S fr gv { tmps:=args++Array.replicate (fn.ntmps - args.size) undef,defers:=[] } w F) {R:Value→World→Prop}
 (hfin:∀ (ex:Ex) (fr':Fr) (a':Act) (S':qa) (F':Nat→Nat→Prop),K ex fr'=some r→a'.tmps.size=E.nt→(∀ id,ex≠.exit id)∧∀ w'',RP P base w S S' fr' gv a' w'' F'→∃ v,(results fn a'.tmps).run P w''=.ok v w''∧R v w'') :
 Calls P f args w fun e w'=>∃ v,e=.returned v∧R v w':=by
 refine callsIn_wide.1 (callsIn_of_wp_marks (F:=FW none) (n:=0) hf hb trivial ?_);refine wpIn_mono (Q:=fun ex a' w'=>(∀ ch,ex≠.panic ch)∧bodyPostM (FW none) 0 P fn (fun e w'=>∃ v,e=.returned v∧R v w') ex a' w') (qea hT hm (qvu hT hm n) c none (.inl rfl) base w S gv r K _ fr _ w hF he ⟨fun ch a w' hp=>hp.1 ch rfl,fun ex fr' a' w' h1 h2=>?_⟩ (RRP.m hsz hst)) (fun e a' w' hh=>hh.2)
 ·refine⟨fun ch e=>(by cases ex <;> cases e),?_⟩;obtain⟨base',w1,S1,⟨hn,S',F',h⟩,m1,m2,m3,m4,m5⟩:=h2;obtain⟨hx,hfin'⟩:=hfin ex fr' (up [] a') S' F' h1 hn;have hl:=qhX (fn:=fn) (tm:=a'.tmps) (R:=fun e w'=>∃ v,e=.returned v∧R v w') m1 a'.defers w1 w' S1 h m2 m3 m4 m5 (fun w'' hw=>by
   obtain⟨v,k1,k2⟩:=hfin' w'' hw;exact⟨v,k1,v,rfl,k2⟩)
  cases ex with
  | normal=>exact hl
  | exit id=>exact absurd rfl (hx id)
  | ret=>exact hl
theorem qty (hn:a.tmps.size=E.nt) (h:RP P base w0 S0 S fr gv a w F) (hT:TyOk P E.toEnv) {r:AV} (he:qhW E fn.results fr=some r) :
 ∃ S',(∃ fr' F',RP P base w0 S0 S' fr' gv a w F')∧∃ v,(results fn a.tmps).run P w=.ok v w∧ResRd base w S' v r:=by
 unfold qhW at he;split at he
 ·rename_i fr1 hf;obtain⟨S1,F1,h1,_,_⟩:=RP.freezes hn _ _ _ _ _ h hf;obtain⟨v,k1,k2⟩:=qeG h1.r hT he;exact⟨S1,⟨fr1,F1,h1⟩,v,k1,k2.rd,k2.nb,k2.np,fun l te hl=>by
   obtain⟨e,x,e1,xs,m1,m2,m3,m4⟩:=k2.own l te hl;exact⟨e,x,e1,xs,m1,m2,m3,fun b hb hB=>m4 b hb (.inl hB)⟩⟩
 ·cases he
theorem RP.start (h:R base w S S fr a w) (hv:∀ t,(fr t).isPriv=false) (gv:Nat→Value):RP P base w S S fr gv a w (fun _ _=>False) where
 r:=h.rebase (fun k hk=>hk.elim id (fun ⟨_,hf⟩=>hf.elim))
 below:=Kept.refl _ _
 old:=fun _ _ _=>Iff.rfl
 kp:=Keeps.refl _ _
 nb:=fun _ _ hf=>hf.elim
 dj:=fun _ _ _ _ hf=>hf.elim
 nroot:=fun _ _ _ hf=>hf
 root:=fun t ht=>by have:=hv t;unfold AV.isPriv at this;rw[ht] at this;cases this
 adr:=fun t s r ht=>by have:=hv t;rw[ht] at this;cases this
 val:=fun t s r ht=>by have:=hv t;rw[ht] at this;cases this
theorem qde (v:AV):v.strip.isPriv=false:=by cases v <;> rfl
theorem qam {G:World→qa→Prop} (hG:Stays G) (hT:TyOk P E.toEnv) (hF:∀ w S,G w S→EnvOk P E w S) (hm:P.follows .mixedOrders=true) (hf:P.funcs[f]? = some fn) (hb:fn.body=some c) (hnt:fn.ntmps=E.nt)
 (hname:(fn.name == "runtime.NumGoroutine")=false) (hspec:∀ avs r,spec avs=(true,r)→∃ n,evFnP E n c fn.results avs=some r):qcZ G P f spec:=by
 intro w S hg vals avs r hs hS ha;obtain⟨n,he⟩:=hspec avs r hs;unfold evFnP at he;split at he
 ·cases he
 rename_i hle;left;constructor
 ·unfold callFunc;rw[yh];have hname':¬ fn.name = "runtime.NumGoroutine" := by simpa using hname
  simp[program,Sem.run,hf,hname',hb]
 ·have hsz:(vals.toArray++Array.replicate (fn.ntmps - vals.toArray.size) undef).size=E.nt:=by
   have:=ha.1;simp;omega
  have hstart:=RP.start (P:=P) (R.start hS ha (fn.ntmps - vals.toArray.size)) (fun t=>qde _) (fun _=>undef);refine qdd hT (fun w1 S1 hk=>hF w1 S1 (hG _ _ _ _ hk hg)) hm hf hb he hsz hstart fun ex fr' a' S' F' h1 hn=>?_;have fin:qhW E fn.results fr'=some r→∀ w'',RP P (· < w.heap.size) w S S' fr' (fun _=>undef) a' w'' F'→∃ v,(results fn a'.tmps).run P w''=.ok v w''∧∃ S',Grew w S w'' S'∧ResRd (· < w.heap.size) w'' S' v r:=fun h1 w'' h=>by
   obtain⟨S1,⟨fr1,F1,h3⟩,v,k1,k2⟩:=qty hn h hT h1;exact⟨v,k1,S1,⟨⟨h3.below.os,h3.below.tape,h3.below.output,h3.below.size,h3.below.block⟩,h3.old,h3.r.slt⟩,k2⟩
  cases ex with
  | normal=>exact⟨(fun _ e=>by cases e),fin h1⟩
  | exit id=>cases h1
  | ret=>exact⟨(fun _ e=>by cases e),fin h1⟩
theorem qdf {G:World→qa→Prop} (hG:Stays G) (hT:TyOk P E.toEnv) (hF:∀ w S,G w S→EnvOk P E w S) (hm:P.follows .mixedOrders=true) (hf:P.funcs[f]? = some fn) (hb:fn.body=some c) (hnt:fn.ntmps=E.nt)
 (hname:(fn.name == "runtime.NumGoroutine")=false) (hspec:∀ avs r,spec avs=(true,r)→∃ n r',evFnP E n c fn.results avs=some r'∧(r'=r∨r'.strip=r)):qcZ G P f spec:=by
 classical
 let spec0:List AV→Bool×AV:=fun avs=>if h:∃ n r',evFnP E n c fn.results avs=some r'∧(r'=(spec avs).2∨r'.strip=(spec avs).2) then (true,h.choose_spec.choose) else (false,.bad)
 have h0:qcZ G P f spec0:=qam hG hT hF hm hf hb hnt hname fun avs r hs=>by
  simp only[spec0] at hs;split at hs
  ·rename_i h;simp only[yb,true_and] at hs;subst hs;exact⟨_,h.choose_spec.choose_spec.1⟩
  ·cases hs
 refine fun w S hg=>(h0 w S hg).strip fun avs r hs=>?_;obtain⟨n,r',k1,k2⟩:=hspec avs r hs;have h:∃ n r',evFnP E n c fn.results avs=some r'∧(r'=(spec avs).2∨r'.strip=(spec avs).2):=⟨n,r',k1,by rw[hs];exact k2⟩;refine⟨h.choose_spec.choose,by simp only[spec0];rw[dif_pos h],?_⟩;have e2:(spec avs).2=r:=by rw[hs]
 rcases h.choose_spec.choose_spec.2 with h1 | h1
 ·exact .inl (h1.trans e2)
 ·exact .inr (h1.trans e2)
end
end
section
open Go.RowKit
variable {av ρ:AV} {r:List PStep}
def seedM (n:Nat) (avs:List AV):Fr:=fun t =>
 if t < n then (match qZ (avs.getD t .bad) with
  | some (r,_)=>.padr (n+t) r
  | none=>(avs.getD t .bad).strip)
 else match qZ (avs.getD (t - n) .bad) with
  | some (_,ρ)=>ρ
  | none=>.bad
def qch (n:Nat) (fr:Fr):Nat→List AV→Bool×List AV
 | _,[]=>(true,[])
 | i,av :: avs=>match qZ av with
  | some (_,ρ)=>(qz ρ (fr (n+i))&&(qch n fr (i+1) avs).1,fr (n+i) :: (qch n fr (i+1) avs).2)
  | none=>((qch n fr (i+1) avs).1,.bad :: (qch n fr (i+1) avs).2)
def qkE (E:EnvP) (rs:Array ResultVar) (avs:List AV) (fr:Fr):Option AV :=
 match qdj E.nt (qbs E.nt fr (rs.toList.map qNh)) fr with
 | some fr'=>match qfU E.toEnv rs fr' with
  | some r=>bif (qch E.nt fr' 0 avs).1 then some (.tup (r.strip :: (qch E.nt fr' 0 avs).2)) else none
  | none=>none
 | none=>none
def kFnM (E:EnvP) (rs:Array ResultVar) (avs:List AV):Ex→Fr→Option AV
 | .normal,fr=>qkE E rs avs fr
 | .ret,fr=>qkE E rs avs fr
 | .exit _,_=>none
noncomputable def evFnM (E:EnvP) (n:Nat) (c:Code) (rs:Array ResultVar) (avs:List AV):Option AV :=
 if E.nt < avs.length then none else evCP E (evLP E n) c (kFnM E rs avs) (seedM E.nt avs)
theorem qlY {n:Nat} {fr:Fr}:∀ (avs:List AV) (i:Nat),(qch n fr i avs).1=true→∀ k av r ρ,avs[k]? = some av→qZ av=some (r,ρ)→qz ρ (fr (n+(i+k)))=true∧(qch n fr i avs).2.getD k .bad=fr (n+(i+k))
 | [],i,_,k,av,r,ρ,hk,_=>by simp at hk
 | a :: avs,i,h,k,av,r,ρ,hk,hr=>by
  cases k with
  | zero =>
   simp only[y3,ya] at hk;subst hk;simp only[qch,hr,yf] at h ⊢;exact⟨h.1,rfl⟩
  | succ k =>
   simp only[yZ] at hk;have h':(qch n fr (i+1) avs).1=true:=by
    simp only[qch] at h;split at h
    ·simp only[yf] at h;exact h.2
    ·exact h
   obtain⟨k1,k2⟩:=qlY avs (i+1) h' k av r ρ hk hr;rw[show i+(k+1)=i+1+k by omega];refine⟨k1,?_⟩;rw[← k2];simp only[qch];split <;> rfl
theorem qbw (h:qZ av=some (r,ρ)):ρ.isRoot=true∧qz ρ ρ=true∧qaS r=true:=by
 unfold qZ at h;split at h
 ·cases h;exact⟨rfl,by simp[qz],rfl⟩
 ·cases h;exact⟨rfl,rfl,rfl⟩
 ·cases h;exact⟨rfl,by simp[qz],rfl⟩
 ·cases h;exact⟨rfl,rfl,rfl⟩
 ·split at h
  ·cases h;exact⟨rfl,by simp[qz],rfl⟩
  ·cases h
 ·split at h
  ·cases h;exact⟨rfl,by simp[qz],rfl⟩
  ·cases h
 ·cases h
section
variable {P:Program} {E:EnvP}
theorem RootAny.ref {w:World} {S:qa} {X:Nat→Prop} {y v:Value} (h:RootAny P w S X ρ y) (hr:qZ av=some (r,ρ)) (hc:cloV w S r y v):RefAt w S ρ y r v X:=by
 obtain⟨h1,h2,h3⟩:=qbw hr;cases h with
 | tree _ _ p x hh c k1 k2 =>
  cases k1 with
  | pv _ _ _ _ hv=>cases h2
  | pbox _ _ _ b =>
   have hb:=(k2.blk b rfl).1;refine .inl ⟨p,x,hh,.blk b 0,.pbox _ _ _ _,?_⟩;cases r with
   | nil =>
    have hl:locP w p (.blk b 0) []=some (p,.blk b 0):=by cases p <;> rfl
    have hs:qC w p (.blk b 0) []=[]:=by cases p <;> rfl
    have hi:inPP p x []:=by cases p <;> trivial
    exact .inl ⟨p,b,0,hi,hl,hc,(fun k hk=>by rw[hs] at hk;cases hk),hb⟩
   | cons a r=>exact .inr ⟨h3,by simp,b,rfl,hc,hb⟩
 | itr s pos b bs _ _ _ _=>cases h2
 | abs s V x _ hV hI=>exact .inr ⟨s,V,x,rfl,h3,hc⟩
open Classical in
theorem qen {G:World→qa→Prop} (hG:Stays G) (hT:TyOk P E.toEnv) (hF:∀ w S,G w S→EnvOk P E w S) (hm:P.follows .mixedOrders=true) {f:FuncId} {fn:Func} {c:Code} (hf:P.funcs[f]? = some fn) (hb:fn.body=some c) (hnt:fn.ntmps=E.nt)
 (hname:(fn.name == "runtime.NumGoroutine")=false) {spec:List AV→Bool×AV} (hspec:∀ avs r,spec avs=(true,r)→∃ n,evFnM E n c fn.results avs=some r):qjl G P f spec:=by
 intro w S hg vals avs r gs F hs hS hl hargs hFl hFd;obtain⟨n,he⟩:=hspec avs _ hs;unfold evFnM at he;split at he
 ·cases he
 rename_i hle;left;constructor
 ·unfold callFunc;rw[yh];have hname':¬ fn.name = "runtime.NumGoroutine" := by simpa using hname
  simp[program,Sem.run,hf,hname',hb]
 have hsz:(vals.toArray++Array.replicate (fn.ntmps - vals.toArray.size) undef).size=E.nt:=by
  simp;omega
 have hroot:∀ i v av r ρ,vals[i]? = some v→avs[i]? = some av→qZ av=some (r,ρ)→∃ y,cloV w S r y v∧RootAny P w S (F i) ρ y:=fun i v av r ρ hv hav hr=>by
  have:=hargs i v av hv hav;unfold ArgM at this;rw[hr] at this;exact this
 let ghost:Nat→Value:=fun i=>if h:∃ y,∃ r ρ,qZ (avs.getD i .bad)=some (r,ρ)∧cloV w S r y (vals.getD i undef) then h.choose else undef
 let gv:Nat→Value:=fun t=>ghost (t - E.nt)
 have hgv:∀ i r ρ y,qZ (avs.getD i .bad)=some (r,ρ)→cloV w S r y (vals.getD i undef)→gv (E.nt+i)=y:=fun i r ρ y hr hy=>by
  have hx:∃ y,∃ r ρ,qZ (avs.getD i .bad)=some (r,ρ)∧cloV w S r y (vals.getD i undef):=⟨y,r,ρ,hr,hy⟩;show ghost (E.nt+i - E.nt)=y;rw[Nat.add_sub_cancel_left];simp only[ghost];rw[dif_pos hx];obtain⟨r',ρ',h1,h2⟩:=hx.choose_spec;rw[hr] at h1;simp only[ya,yb] at h1;obtain⟨rfl,rfl⟩:=h1;exact qid _ _ _ _ h2 hy
 have some_of:∀ i r ρ,qZ (avs.getD i .bad)=some (r,ρ)→∃ v,vals[i]? = some v∧vals.getD i undef=v∧avs[i]? = some (avs.getD i .bad):=fun i r ρ hr=>by
  rcases Nat.lt_or_ge i avs.length with hlt | hge
  ·refine⟨vals[i]'(by omega),yO _,?_,?_⟩
   ·simp only[List.getD,yO (show i < vals.length by omega),Option.getD_some]
   ·simp only[List.getD,yO hlt,Option.getD_some]
  ·have:avs.getD i .bad=.bad:=by simp[List.getD,yW hge]
   rw[this] at hr;cases hr
 have hFlt:∀ i b,F i b→b < w.heap.size:=fun i b hb=>by
  rcases Nat.lt_or_ge i avs.length with hlt | hge
  ·have hv:vals[i]? = some (vals[i]'(by omega)):=yO _;have hav:avs[i]? = some avs[i]:=yO _;cases hr:qZ avs[i] with
   | none =>
    have:=hargs i _ _ hv hav;unfold ArgM at this;rw[hr] at this;exact absurd hb (this.2 b)
   | some p =>
    obtain⟨y,_,k⟩:=hroot i _ _ p.1 p.2 hv hav hr;exact k.lt (qbw hr).2.1 hb
  ·exact absurd hb (hFl i b hge)
 let base:Nat→Prop:=fun k=>k < w.heap.size∧¬ ∃ i,F i k
 let F0:Nat→Nat→Prop:=fun t b=>E.nt≤t∧F (t - E.nt) b
 let a0:Act:={ tmps:=vals.toArray++Array.replicate (fn.ntmps - vals.toArray.size) undef,defers:=[] }
 have htv:∀ i,tv gv a0 (E.nt+i)=gv (E.nt+i):=fun i=>by
  unfold tv;have hnl:¬ E.nt+i < a0.tmps.size:=by
   show ¬ E.nt+i < (vals.toArray++Array.replicate (fn.ntmps - vals.toArray.size) undef).size;rw[hsz];omega
  unfold Array.getD;rw[dif_neg hnl]
 have htlt:∀ i,i < vals.length→tv gv a0 i=vals.getD i undef:=fun i hi=>by
  have hil:i < a0.tmps.size:=by
   show i < (vals.toArray++Array.replicate (fn.ntmps - vals.toArray.size) undef).size;rw[hsz];omega
  unfold tv Array.getD;rw[dif_pos hil];show (vals.toArray++Array.replicate (fn.ntmps - vals.toArray.size) undef)[i]=_;rw[Array.getElem_append_left (by simpa using hi)];simp[List.getD,yO hi]
 have hstart:RP P base w S S (seedM E.nt avs) gv a0 w F0:=by
  let avs0:=avs.map fun av=>if (qZ av).isSome then AV.bad else av
  have ha0:qav w S vals avs0:=by
   refine⟨by simp[avs0,hl],fun i v av hv hav=>?_⟩;simp only[avs0,List.getElem?_map,Option.map_eq_some_iff] at hav;obtain⟨av',hav,rfl⟩:=hav;split
   ·exact .bad _
   ·rename_i hno;have:=hargs i v av' hv hav;unfold ArgM at this;have hno':qZ av'=none:=by simpa using hno
    rw[hno'] at this;exact this.1
  have hR:=R.start hS ha0 (fn.ntmps - vals.toArray.size);have get0:∀ t,avs0.getD t .bad=if (qZ (avs.getD t .bad)).isSome then .bad else avs.getD t .bad:=fun t=>by
   rcases Nat.lt_or_ge t avs.length with hlt | hge
   ·simp[avs0,List.getD,yO hlt]
   ·simp[avs0,List.getD,yW hge,qZ]
  have hR1:=hR.repriv (fr':=seedM E.nt avs) (fun t=>by
   simp only[get0];unfold seedM
   by_cases ht:t < E.nt
   ·rw[if_pos ht];cases hr:qZ (avs.getD t .bad) with
    | none=>exact .inl (by simp)
    | some p=>exact .inr ⟨by simp[AV.strip,AV.vague],rfl⟩
   ·rw[if_neg ht];have hb:avs.getD t .bad=.bad:=by simp[List.getD,yW (show avs.length≤t by omega)]
    rw[hb];cases hr:qZ (avs.getD (t - E.nt) .bad) with
    | none=>exact .inl (by simp[qZ,AV.strip])
    | some p=>exact .inr ⟨by simp[qZ,AV.strip,AV.vague],qu (qbw (ρ:=p.2) (r:=p.1) hr).1⟩)
  exact {
   r:=hR1.rebase (fun k hk=>hk.elim (·.1) (fun ⟨t,ht⟩=>hFlt _ _ ht.2))
   below:=Kept.refl _ _
   old:=fun _ _ _=>Iff.rfl
   kp:=Keeps.refl _ _
   nb:=fun t b hb hB=>hB.2 ⟨_,hb.2⟩
   dj:=fun t t' b hne h1 h2=>hFd (t - E.nt) (t' - E.nt) b (fun e=>hne (by have:=h1.1;have:=h2.1;omega)) h1.2 h2.2
   nroot:=fun t ht b hb=>by
    obtain⟨hnt',hb⟩:=hb;have hns:¬ t < E.nt:=by omega
    simp only[seedM,if_neg hns] at ht;cases hr:qZ (avs.getD (t - E.nt) .bad) with
    | none =>
     rcases Nat.lt_or_ge (t - E.nt) avs.length with hlt | hge
     ·have hav:avs[t - E.nt]? = some (avs.getD (t - E.nt) .bad):=by simp[List.getD,yO hlt]
      have:=hargs (t - E.nt) (vals[t - E.nt]'(by omega)) _ (yO _) hav;unfold ArgM at this;rw[hr] at this;exact this.2 b hb
     ·exact hFl _ b hge hb
    | some p =>
     rw[hr] at ht;rw[(qbw (ρ:=p.2) (r:=p.1) hr).1] at ht;cases ht
   root:=fun t ht=>by
    by_cases hlt:t < E.nt
    ·exfalso;simp only[seedM,if_pos hlt] at ht;cases hr:qZ (avs.getD t .bad) with
     | none =>
      rw[hr] at ht;have:=qde (avs.getD t .bad);unfold AV.isPriv at this;simp only at ht;rw[ht] at this;cases this
     | some p=>rw[hr] at ht;cases ht
    ·obtain⟨i,rfl⟩:∃ i,t=E.nt+i:=⟨t - E.nt,by omega⟩;simp only[seedM,if_neg hlt,Nat.add_sub_cancel_left] at ht ⊢;cases hr:qZ (avs.getD i .bad) with
     | none=>rw[hr] at ht;cases ht
     | some p =>
      obtain⟨v,hv,hvd,hav⟩:=some_of i p.1 p.2 hr;obtain⟨y,hy,k⟩:=hroot i v _ p.1 p.2 hv hav hr;rw[htv,hgv i p.1 p.2 y hr (by rw[hvd];exact hy)];have e:(F0 (E.nt+i))=F i:=funext fun b=>propext ⟨fun hh=>by have:=hh.2;rwa[Nat.add_sub_cancel_left] at this,fun hh=>⟨by omega,by rwa[Nat.add_sub_cancel_left]⟩⟩;rw[e];exact k
   adr:=fun t s r ht=>by
    by_cases hlt:t < E.nt
    ·simp only[seedM,if_pos hlt] at ht;cases hr:qZ (avs.getD t .bad) with
     | none =>
      rw[hr] at ht;simp only at ht;have:=qde (avs.getD t .bad);rw[ht] at this;cases this
     | some p =>
      rw[hr] at ht;simp only[AV.padr.injEq] at ht;obtain⟨rfl,rfl⟩:=ht;obtain⟨v,hv,hvd,hav⟩:=some_of t p.1 p.2 hr;obtain⟨y,hy,k⟩:=hroot t v _ p.1 p.2 hv hav hr;have hng:¬ E.nt+t < E.nt:=by omega
      have e1:seedM E.nt avs (E.nt+t)=p.2:=by
       unfold seedM;rw[if_neg hng,Nat.add_sub_cancel_left,hr]
      rw[e1,htv,hgv t p.1 p.2 y hr (by rw[hvd];exact hy),htlt t (List.getElem?_eq_some_iff.1 hv).1,hvd];have e:(F0 (E.nt+t))=F t:=funext fun b=>propext ⟨fun hh=>by have:=hh.2;rwa[Nat.add_sub_cancel_left] at this,fun hh=>⟨by omega,by rwa[Nat.add_sub_cancel_left]⟩⟩;rw[e];exact k.ref hr hy
    ·exfalso;simp only[seedM,if_neg hlt] at ht;cases hr:qZ (avs.getD (t - E.nt) .bad) with
     | none=>rw[hr] at ht;cases ht
     | some p =>
      rw[hr] at ht;have:=(qbw (ρ:=p.2) (r:=p.1) hr).1;simp only at ht;rw[ht] at this;cases this
   val:=fun t s r ht=>by
    exfalso
    by_cases hlt:t < E.nt
    ·simp only[seedM,if_pos hlt] at ht;cases hr:qZ (avs.getD t .bad) with
     | none =>
      rw[hr] at ht;simp only at ht;have:=qde (avs.getD t .bad);rw[ht] at this;cases this
     | some p=>rw[hr] at ht;cases ht
    ·simp only[seedM,if_neg hlt] at ht;cases hr:qZ (avs.getD (t - E.nt) .bad) with
     | none=>rw[hr] at ht;cases ht
     | some p =>
      rw[hr] at ht;have:=(qbw (ρ:=p.2) (r:=p.1) hr).1;simp only at ht;rw[ht] at this;cases this }
 have fin:∀ fr a (S':qa) (F1:Nat→Nat→Prop) w',qkE E fn.results avs fr=some (.tup (r :: gs))→a.tmps.size=E.nt→RP P base w S S' fr gv a w' F1→∃ v,(results fn a.tmps).run P w'=.ok v w' ∧
  ∃ (S':qa) (F':Nat→Nat→Prop),TurnedBut (fun b=>∃ i,F i b) w S w' S'∧Rd w' S' v r ∧
  (∀ i v av,vals[i]? = some v→avs[i]? = some av→OutM P w' S' v av (gs.getD i .bad) (F' i))∧(∀ i b,F' i b→(∃ j,F j b)∨w.heap.size≤b)∧∀ i j b,i≠j→F' i b→¬ F' j b:=fun fr a S' F1 w' hres hn h=>by
  unfold qkE at hres;split at hres
  ·rename_i fr1 hf;obtain⟨S1,F2,h1,_,_⟩:=RP.freezes hn _ _ _ _ _ h hf;split at hres
   ·rename_i r' hr';cases hgo:(qch E.nt fr1 0 avs).1 with
    | false=>rw[hgo] at hres;cases hres
    | true =>
     rw[hgo] at hres;simp only[yc,ya,AV.tup.injEq,List.cons.injEq] at hres;obtain⟨rfl,rfl⟩:=hres;obtain⟨v,k1,k2⟩:=qeG h1.r hT hr';refine⟨v,k1,S1,fun i b=>(∃ p,qZ (avs.getD i .bad)=some p)∧F2 (E.nt+i) b,⟨h1.below,fun b o hb hf=>h1.old b o ⟨hb,hf⟩,h1.kp,h1.r.slt⟩,k2.rd.strip,fun i v av hv hav=>?_,fun i b hb=>?_,fun i j b hne h3 h4=>h1.dj (E.nt+i) (E.nt+j) b (by omega) h3.2 h4.2⟩
     ·have hd:avs.getD i .bad=av:=by simp[List.getD,hav]
      unfold OutM;cases hr:qZ av with
      | none =>
       intro b hb;obtain⟨⟨p,hp⟩,_⟩:=hb;rw[hd,hr] at hp;cases hp
      | some p =>
       obtain⟨y,hy,_⟩:=hroot i v av p.1 p.2 hv hav hr;refine⟨y,cloV.keeps h1.kp _ _ _ hy,?_⟩;obtain⟨g1,g2⟩:=qlY avs 0 hgo i av p.1 p.2 hav hr;rw[yE] at g1 g2;rw[g2];have hro:=h1.root (E.nt+i) (qS g1).2.1;have e1:tv gv a (E.nt+i)=gv (E.nt+i):=by
        unfold tv;unfold Array.getD;rw[dif_neg (by omega)]
       have hvd:vals.getD i undef=v:=by simp[List.getD,hv]
       rw[e1,hgv i p.1 p.2 y (by rw[hd];exact hr) (by rw[hvd];exact hy)] at hro;have e2:(fun b=>(∃ p,qZ (avs.getD i .bad)=some p)∧F2 (E.nt+i) b)=F2 (E.nt+i):=funext fun b=>propext ⟨(·.2),fun hh=>⟨⟨p,by rw[hd];exact hr⟩,hh⟩⟩;show RootAny P w' S1 (fun b=>(∃ p,qZ (avs.getD i .bad)=some p)∧F2 (E.nt+i) b) _ _;rw[e2];exact hro
     ·have hnb:=h1.nb (E.nt+i) b hb.2
      by_cases hx:∃ j,F j b
      ·exact .inl hx
      ·refine .inr (Nat.le_of_not_lt fun hlt=>hnb ⟨hlt,hx⟩)
   ·cases hres
  ·cases hres
 refine qdd hT (fun w1 S1 hk=>hF w1 S1 (hG _ _ _ _ hk hg)) hm hf hb he hsz hstart fun ex fr' a' S' F' h1 hn=>?_;cases ex with
 | normal=>exact⟨(fun _ e=>by cases e),fun w'' h=>fin fr' a' S' F' w'' h1 hn h⟩
 | exit id=>cases h1
 | ret=>exact⟨(fun _ e=>by cases e),fun w'' h=>fin fr' a' S' F' w'' h1 hn h⟩
end
end
section
variable {E:EnvP} {c:Code} {a:List AV} {r:AV}
noncomputable def byE (E:EnvP) (c:Code) (rs:Array ResultVar) (a:List AV):Bool×AV :=
 match evFnP E 300 c rs a with
 | some r=>(true,r)
 | none=>(false,.bad)
theorem qej {rs:Array ResultVar} (h:byE E c rs a=(true,r)):∃ n,evFnP E n c rs a=some r:=by
 unfold byE at h;split at h
 ·rename_i e;exact⟨300,e.trans (congrArg some (yj h).2)⟩
 ·cases (yj h).1
noncomputable def byM (E:EnvP) (c:Code) (rs:Array ResultVar) (a:List AV):Bool×AV :=
 match evFnM E 300 c rs a with
 | some r=>(true,r)
 | none=>(false,.bad)
theorem qvc {rs:Array ResultVar} (h:byM E c rs a=(true,r)):∃ n,evFnM E n c rs a=some r:=by
 unfold byM at h;split at h
 ·rename_i e;exact⟨300,e.trans (congrArg some (yj h).2)⟩
 ·cases (yj h).1
end
section
open Go.RowKit Go.Lib
def clInv (f:FuncId) (ps:List PSh):Inv (qjn ps) where
 I:=fun y u w S F=>∃ bs,u=qkR f bs∧clI w S ps y bs F
 spec:=fun y _=>(false,false,y)
 tag:=some (f,ps)
 mp:=none
section
variable {P:Program} {w:World} {S:qa}
theorem qMY (P:Program):∀ (ps:List PSh) (y:Den (qjn ps)) (bs:List Nat) (F:Nat→Prop),clI w S ps y bs F→∀ b,F b→b < w.heap.size
 | [],_,_,_,h,b,hF=>absurd hF (h.2 b)
 | p :: ps,y,bs,F,⟨b0,bs',F1,F2,h1,h2,h3,h4,h5⟩,b,hF=>by
  rcases (h4 b).1 hF with hF | hF
  ·have hr:RootAny P w S F1 (.pbox p y.1 none) (.pointer (some ⟨b0,0,none⟩)):=.tree _ _ p y.1 none (.blk b0 0) (.pbox _ _ _ _) h2;exact hr.lt (by simp[qz]) hF
  ·exact qMY P ps y.2 bs' F2 h3 b hF
theorem qIr (P:Program) (f:FuncId) (ps:List PSh):AbsOk P (clInv f ps) where
 step:=fun x u w S F w' S' ⟨bs,hu,h⟩ hk _ hb hS=>⟨bs,hu,qos hk ps x bs F h hb hS⟩
 lt:=fun x u w S F b ⟨bs,_,h⟩ hF=>qMY P ps x bs F h b hF
 call:=fun x u w S F vals qs y x' _ _ hsp _=>by
  have hsp:(false,false,x)=(true,y,x'):=hsp;simp at hsp
 tag:=fun f' ps' h=>by
  have h:some (f,ps)=some (f',ps'):=h;simp only[ya,yb] at h;obtain⟨rfl,rfl⟩:=h;exact⟨rfl,fun x u w S F hI=>hI⟩
 mp:=fun _ _ h=>by cases h
end
def kFnR (rs:Array ResultVar):Ex→Fr→Option AV
 | .exit _,_=>none
 | _,fr=>match rs.toList with
  | [.tmp t]=>match fr t with
   | .padr s [.clo f false]=>match fr s with
    | .pbox p x none=>some (.abs (qjn [p]) (clInv f [p]) (x,()))
    | _=>none
   | .abs s V x=>some (.abs s V x)
   | .padr s []=>match fr s with
    | .abs s V x=>some (.abs s V x)
    | _=>none
   | _=>none
  | _=>none
noncomputable def evFnR (E:EnvP) (n:Nat) (c:Code) (rs:Array ResultVar) (avs:List AV):Option AV :=
 if E.nt < avs.length then none else evCP E (evLP E n) c (kFnR rs) (fun t=>(avs.getD t .bad).strip)
theorem qoi {P:Program} {E:EnvP} {G:World→qa→Prop} (hG:Stays G) (hT:TyOk P E.toEnv) (hF:∀ w S,G w S→EnvOk P E w S) (hm:P.follows .mixedOrders=true) {f:FuncId} {fn:Func} {c:Code} (hf:P.funcs[f]? = some fn) (hb:fn.body=some c) (hnt:fn.ntmps=E.nt)
 (hname:(fn.name == "runtime.NumGoroutine")=false) {spec:List AV→Bool×AV} (hspec:∀ avs r,spec avs=(true,r)→∃ n,evFnR E n c fn.results avs=some r):qNv G P f spec:=by
 intro w S hg vals avs s V x hs hS ha;obtain⟨n,he⟩:=hspec avs _ hs;unfold evFnR at he;split at he
 ·cases he
 rename_i hle;left;constructor
 ·unfold callFunc;rw[yh];have hname':¬ fn.name = "runtime.NumGoroutine" := by simpa using hname
  simp[program,Sem.run,hf,hname',hb]
 ·have hsz:(vals.toArray++Array.replicate (fn.ntmps - vals.toArray.size) undef).size=E.nt:=by
   have:=ha.1;simp;omega
  have hstart:=RP.start (P:=P) (R.start hS ha (fn.ntmps - vals.toArray.size)) (fun t=>qde _) (fun _=>undef);refine qdd hT (fun w1 S1 hk=>hF w1 S1 (hG _ _ _ _ hk hg)) hm hf hb he hsz hstart fun ex fr' a' S' F' h1 hn=>?_;have fin:kFnR fn.results .normal fr'=some (.abs s V x)→∀ w'',RP P (· < w.heap.size) w S S' fr' (fun _=>undef) a' w'' F'→∃ v,(results fn a'.tmps).run P w''=.ok v w'' ∧
   ∃ (S':qa) (F:Nat→Prop),TurnedBut (fun _=>False) w S w'' S'∧AbsOk P V∧V.I x v w'' S' F∧∀ b,F b→w.heap.size≤b:=fun hk w'' h=>by
   clear h1;have h1:=hk;clear hk;have fin2:∀ {t:Nat},fn.results = #[.tmp t]→∀ (s0:Nat),tv (fun _=>undef) a' t=tv (fun _=>undef) a' s0→RootAny P w'' S' (F' s0) (.abs s V x) (tv (fun _=>undef) a' s0)→∃ v,(results fn a'.tmps).run P w''=.ok v w'' ∧
    ∃ (S':qa) (F:Nat→Prop),TurnedBut (fun _=>False) w S w'' S'∧AbsOk P V∧V.I x v w'' S' F∧∀ b,F b→w.heap.size≤b:=fun hres s0 e hroot=>by
    rename_i t;refine⟨a'.tmps.getD t undef,?_,S',F' s0,⟨⟨h.below.os,h.below.tape,h.below.output,h.below.size,fun k hk=>h.below.block k hk.1⟩,fun b o hb _=>h.old b o hb,h.kp,h.r.slt⟩,?_⟩
    ·unfold results;rw[hres];simp[yh,yu,Result.andThen]
    ·have e3:tv (fun _=>undef) a' t=a'.tmps.getD t undef:=rfl;rw[← e3,e];generalize tv (fun _=>undef) a' s0=v at hroot;cases hroot with
     | tree _ _ _ _ _ _ k1 _=>cases k1
     | abs _ _ _ _ hV hI=>exact⟨hV,hI,fun b hF=>Nat.le_of_not_lt (h.nb s0 b hF)⟩
   simp only[kFnR] at h1;split at h1
   ·rename_i t ht;split at h1
    ·rename_i s0 f0 hft;split at h1
     ·rename_i p z hfs;simp only[ya] at h1;cases h1;have hres:fn.results = #[.tmp t]:=Array.ext' ht;have hroot:=h.root s0 (by rw[hfs];rfl);rw[hfs] at hroot;have hc:=(h.adr t s0 _ hft).clo rfl;obtain⟨v,e1,e2⟩:=hc;have e1:v=tv (fun _=>undef) a' s0:=e1;subst e1;simp only[yq,if_false] at e2;refine⟨a'.tmps.getD t undef,?_,S',F' s0,⟨⟨h.below.os,h.below.tape,h.below.output,h.below.size,fun k hk=>h.below.block k hk.1⟩,fun b o hb _=>h.old b o hb,h.kp,h.r.slt⟩,qIr P f0 [p],?_,fun b hF=>Nat.le_of_not_lt (h.nb s0 b hF)⟩
      ·unfold results;rw[hres];simp[yh,yu,Result.andThen]
      ·generalize hv:tv (fun _=>undef) a' s0=v at hroot e2;cases hroot with
       | tree _ _ p x hh c k1 k2 =>
        cases k1 with
        | pbox _ _ _ b =>
         refine⟨[b],?_,b,[],F' s0,fun _=>False,rfl,k2,⟨rfl,fun _ hf=>hf⟩,fun k=>⟨.inl,fun hh=>hh.elim id (fun hf=>hf.elim)⟩,fun _ _ hf=>hf⟩;have e3:tv (fun _=>undef) a' t=a'.tmps.getD t undef:=rfl;rw[← e3,e2];rfl
     ·cases h1
    ·rename_i s0 V0 x0 hft;simp only[ya] at h1;cases h1;have hroot:=h.root t (by rw[hft];rfl);rw[hft] at hroot;exact fin2 (Array.ext' ht) t rfl hroot
    ·rename_i s0 hft;split at h1
     ·rename_i s1 V1 x1 hfs;simp only[ya] at h1;cases h1;have hroot:=h.root s0 (by rw[hfs];rfl);rw[hfs] at hroot;rcases h.adr t s0 [] hft with ⟨_,_,_,_,k1,_⟩ | ⟨_,_,_,_,_,k2⟩
      ·rw[hfs] at k1;cases k1
      ·exact fin2 (Array.ext' ht) s0 k2 hroot
     ·cases h1
    ·cases h1
   ·cases h1
  cases ex with
  | normal=>exact⟨(fun _ e=>by cases e),fin h1⟩
  | exit id=>cases h1
  | ret=>exact⟨(fun _ e=>by cases e),fin h1⟩
theorem qaj {P:Program} {w:World} {S:qa}:∀ (f:FuncId) (sp:List AV→Bool×AV),(none:Option (List AV→Bool×AV))=some sp→qfQ P f sp w S:=fun _ _ h=>by cases h
theorem qIs {P:Program} {w:World} {S:qa} {k:FuncId} {s:List AV→Bool×AV} {g:FuncId→Option (List AV→Bool×AV)} (h:qfQ P k s w S) (hr:∀ f sp,g f=some sp→qfQ P f sp w S) :
 ∀ f sp,(if f=k then some s else g f)=some sp→qfQ P f sp w S:=fun f sp he=>by
 split at he
 ·rename_i e;subst e;cases he;exact h
 ·exact hr f sp he
theorem qR {P:Program}:∀ (t kt vt:TypeId),(none:Option (TypeId×TypeId))=some (kt,vt)→MtOk P t kt vt:=fun _ _ _ h=>by cases h
theorem qoj {P:Program} {k k1 k2:TypeId} {g:TypeId→Option (TypeId×TypeId)} (h:P.underlying k=some (.map k1 k2)) (hr:∀ t kt vt,g t=some (kt,vt)→MtOk P t kt vt) (hne:k1≠k:=by decide) :
 ∀ (t kt vt:TypeId),(if t=k then some (k1,k2) else g t)=some (kt,vt)→MtOk P t kt vt:=fun t kt vt he=>by
 split at he
 ·rename_i e;subst e;cases he;exact .inl ⟨hne,h⟩
 ·exact hr t kt vt he
theorem qak {P:Program} {w:World} {S:qa}:∀ (f:FuncId) (it:Iter),(none:Option Iter)=some it→qvW P f it w S:=fun _ _ h=>by cases h
end
section
variable {i:Nat}
theorem qx {α:Type} {l:List α} {d:α} (h:i < l.length):l.drop i=l.getD i d :: l.drop (i+1):=by
 rw[List.drop_eq_getElem_cons h];simp[List.getD,h]
theorem ql (h:i < 4611686018427387904):IntKind.wrap .i64 ((i:Int)+1)=((i+1:Nat):Int):=by
 rw[IntWalk.i64_in _ (by omega)];omega
theorem qlT {n:Nat}:decide ((i:Int) < (n:Int))=decide (i < n):=by rw[Bool.eq_iff_iff];simp
theorem qaK (i:Nat):decide ((0:Int)≤(i:Int))=true:=by simp
theorem qbR (i:Nat):Int.toNat (i:Int)=i:=by simp
def lenOk {α:Type} (l:List α):Bool:=decide (l.length≤1048576)
theorem qf {α:Type} {l:List α} (h:lenOk l=true):l.length≤1048576:=by simpa [lenOk] using h
end
section
open Go.RowKit
variable {t:TypeId} {s:Sh} {base:Nat} {a:Addr} {v:Value}
def Sh.spine:Sh→Bool
 | .pair _ b=>b.spine
 | .unit=>true
 | _=>false
def Sh.good:Sh→Bool
 | .pair a b=>a.good&&b.good&&b.spine
 | .sl e=>e.good
 | .arr _ e=>e.good
 | _=>true
def InR:(s:Sh)→Den s→Prop
 | .int k,n=>(Lit.int k n).wf=true
 | .sl e,l=>∀ x∈(show List (Den e) from l),InR e x
 | .pair a b,x=>InR a x.1∧InR b x.2
 | .arr _ e,l=>∀ x∈(show List (Den e) from l),InR e x
 | _,_=>True
theorem qeJ {P:Program} {E:Env} (h:TyOk1 P E t s):P.cellsOf t=s.size:=by
 obtain⟨i,z,hi,hs,_⟩:=h.info;simp[Program.cellsOf,hi,hs]
theorem qem {α:Type} {R:α→List Value→Prop} {I:α→Prop} {k:Nat}:∀ (n:Nat) (vs:List Value),vs.length=n*k→(∀ i,i < n→∃ x,R x ((vs.drop (i*k)).take k)∧I x)→∃ l:List α,l.length=n∧qd R l vs∧∀ x∈l,I x
 | 0,vs,hl,_=>⟨[],rfl,by rw[Nat.zero_mul] at hl;exact yF hl,fun x hx=>by cases hx⟩
 | n+1,vs,hl,h=>by
  obtain⟨x,hx,ix⟩:=h 0 (by omega);rw[Nat.zero_mul,yw] at hx;obtain⟨l,h1,h2,h3⟩:=qem (R:=R) (I:=I) (k:=k) n (vs.drop k) (by rw[yK,hl,Nat.add_mul];omega) (fun i hi=>by
   obtain⟨y,hy,iy⟩:=h (i+1) (by omega);refine⟨y,?_,iy⟩;rw[List.drop_drop];rw[Nat.add_mul,Nat.one_mul,Nat.add_comm] at hy;exact hy)
  exact⟨x :: l,by simp[h1],⟨vs.take k,vs.drop k,(List.take_append_drop k vs).symm,hx,h2⟩,fun y hy=>by
   rcases List.mem_cons.1 hy with rfl | hy
   ·exact ix
   ·exact h3 y hy⟩
theorem qhV {w:World} {S:qa}:∀ (s:Sh) (cs:List Value),Sh.spine s=true→cs.length=s.size→(∀ i u,s.fld i=some u→∃ y:Den u,RdC w S u y ((cs.drop (qP s i)).take u.size)∧InR u y)→∃ y:Den s,RdC w S s y cs∧InR s y
 | .unit,cs,_,hl,_=>⟨(),by simp only[RdC];exact yF hl,trivial⟩
 | .pair a b,cs,hs,hl,h=>by
  simp only[Sh.spine] at hs;obtain⟨y1,h1,i1⟩:=h 0 a rfl;simp only[qP,yw] at h1;simp only[Sh.size] at hl;obtain⟨y2,h2,i2⟩:=qhV b (cs.drop a.size) hs (by rw[yK];omega) (fun i u hu=>by
   obtain⟨y,hy,iy⟩:=h (i+1) u hu;refine⟨y,?_,iy⟩;simp only[qP] at hy;rw[List.drop_drop];exact hy)
  exact⟨(y1,y2),by simp only[RdC];exact⟨cs.take a.size,cs.drop a.size,(List.take_append_drop _ _).symm,h1,h2⟩,i1,i2⟩
 | .bool,_,hs,_,_=>by cases hs
 | .byte,_,hs,_,_=>by cases hs
 | .int _,_,hs,_,_=>by cases hs
 | .str,_,hs,_,_=>by cases hs
 | .sl _,_,hs,_,_=>by cases hs
 | .arr _ _,_,hs,_,_=>by cases hs
theorem qvp:∀ (s:Sh) (i:Nat) (u:Sh),s.good=true→s.fld i=some u→u.good=true
 | .pair a b,0,u,h,hu=>by
  simp only[Sh.fld,ya] at hu;subst hu;simp only[Sh.good,yf] at h;exact h.1.1
 | .pair a b,i+1,u,h,hu=>by
  simp only[Sh.good,yf] at h;exact qvp b i u h.1.2 hu
 | .bool,_,_,_,hu=>by simp[Sh.fld] at hu
 | .byte,_,_,_,hu=>by simp[Sh.fld] at hu
 | .int _,_,_,_,hu=>by simp[Sh.fld] at hu
 | .str,_,_,_,hu=>by simp[Sh.fld] at hu
 | .sl _,_,_,_,hu=>by simp[Sh.fld] at hu
 | .unit,_,_,_,hu=>by simp[Sh.fld] at hu
 | .arr _ _,_,_,_,hu=>by simp[Sh.fld] at hu
section
variable {H:Type} {enc:TypeId×Value→H} {P:Program} {W:World} {E:Env}
theorem qvq {k:Nat} {cs:List Value} (h:W.cells? base a k=some cs):cs.length=k∧∀ (i:Nat) (v:Value),cs[i]? = some v→W.cell? (a.add i)=some v:=by
 unfold World.cells? at h;split at h
 ·have hl:=mapM_some_length h;rw[List.length_range] at hl;refine⟨hl,fun i v hv=>?_⟩;have hlt:=(List.getElem?_eq_some_iff.1 hv).1;have:=mapM_some_get h i i (by rw[List.getElem?_range (by omega)]);rw[this,hv]
 ·cases h
theorem qkB {i:Nat} (h:W.cell? (a.add i)=some v):W.cell? ⟨a.block,a.off+i,none⟩=some v∧a.block < W.heap.size∧(i=0→a.spot=none):=by
 have hb:∀ b:Addr,W.cell? b=some v→b.spot=none∧b.block < W.heap.size:=fun b hb=>by
  unfold World.cell? at hb;split at hb
  ·rename_i hc;split at hb
   ·cases hb
   ·rename_i hs;refine⟨by cases hh:b.spot with
     | none=>rfl
     | some x=>rw[hh] at hs;simp at hs,(Array.getElem?_eq_some_iff.1 hc).1⟩
  ·cases hb
 obtain⟨h1,h2⟩:=hb _ h;rw[qeY] at h2;have he:a.add i=⟨a.block,a.off+i,none⟩:=by
  have e1:=qeY a i;have e2:=qwf a i;generalize a.add i=b at h1 e1 e2;obtain⟨b1,b2,b3⟩:=b;simp only at h1 e1 e2;subst h1 e1 e2;rfl
 refine⟨by rw[← he];exact h,h2,fun hi=>?_⟩;subst hi;have:a.add 0=a:=by unfold Addr.add;simp
 rw[this] at h1;exact h1
theorem qeK (hT:TyOk P E) {sp:Nat→Bool}:∀ (fuel:Nat) (t:TypeId) (s:Sh) (cs:List Value) (x:DataW H×List MemPlace),(E.ti t).sh=some s→s.good=true→DataW.trod enc P W 0 sp true fuel t cs=some x→∃ y:Den s,RdC W (Was W) s y cs∧InR s y
 | 0,t,s,cs,x,_,_,h=>by simp[DataW.trod] at h
 | fuel+1,t,s,cs,x,hs,hg,h=>by
  have hty:=hT t s hs;have hd:=hty.desc;have hcs:=qeJ hty;cases s with
  | bool =>
   have hd:P.underlying t=some .bool:=hd;have:∃ b,cs=[.bool b]:=by
    unfold DataW.trod at h;rw[hd] at h;split at h <;> simp_all
   obtain⟨b,rfl⟩:=this;exact⟨b,by simp only[RdC],trivial⟩
  | byte =>
   have hd:P.underlying t=some (.int .u8):=hd;have:∃ n,cs=[.int .u8 n]∧(Lit.int .u8 n).wf=true:=by
    unfold DataW.trod at h;rw[hd] at h;split at h <;> simp_all
   obtain⟨n,rfl,hw⟩:=this;have hb:=wf_u8 hw;refine⟨UInt8.ofNat n.toNat,?_,trivial⟩;have:=qeX n (by omega);simp only[RdC];rw[this]
  | int k =>
   obtain⟨hd,_⟩:=hd;have:∃ n,cs=[.int k n]∧(Lit.int k n).wf=true:=by
    unfold DataW.trod at h;rw[hd] at h;split at h <;> simp_all
   obtain⟨n,rfl,hw⟩:=this;exact⟨n,by simp only[RdC],hw⟩
  | str =>
   have hd:P.underlying t=some .string:=hd;have:∃ b,cs=[.string b]:=by
    unfold DataW.trod at h;rw[hd] at h;split at h <;> simp_all
   obtain⟨b,rfl⟩:=this;exact⟨b.data.toList,by simp only[RdC];exact⟨b,rfl,rfl⟩,trivial⟩
  | unit =>
   obtain⟨fs,hd,_⟩:=hd;obtain⟨xs,n,_,_,hl,_⟩:=DataW.trod_struct hd h;rw[hcs] at hl;exact⟨(),by simp only[RdC];exact yF hl,trivial⟩
  | pair a b =>
   obtain⟨fs,hd,hf,hf2⟩:=hd;obtain⟨xs,n,e1,_,hl,hxl,hx⟩:=DataW.trod_struct hd h;obtain rfl:fuel=n:=by omega
   rw[hcs] at hl;simp only[Sh.good,yf] at hg;refine qhV (.pair a b) cs (by simpa only[Sh.spine] using hg.2) hl (fun i u hu=>?_);obtain⟨f,hfi⟩:=hf2 i u hu;obtain⟨ho,hsh,_⟩:=hf i f hfi;rw[hu] at hsh;have hxi:=hx i f hfi;have hlt:i < xs.length:=by rw[hxl];exact(Array.getElem?_eq_some_iff.1 hfi).1
   rw[yO hlt,qeJ (hT _ _ hsh),ho] at hxi;exact qeK hT fuel f.type u _ _ hsh (qvp (.pair a b) i u (by simp only[Sh.good,yf];exact hg) hu) hxi
  | arr m e =>
   obtain⟨te,hd,hte⟩:=hd;obtain⟨xs,n,e1,_,hl,hxl,hx⟩:=DataW.trod_array hd h;obtain rfl:fuel=n:=by omega
   rw[hcs] at hl;simp only[Sh.good] at hg;obtain⟨l,h1,h2,h3⟩:=qem (R:=RdC W (Was W) e) (I:=InR e) (k:=e.size) m cs hl (fun i hi=>by
    have hxi:=hx i hi;rw[yO (by omega),qeJ (hT _ _ hte)] at hxi;obtain⟨y,k1,k2⟩:=qeK hT fuel te e _ _ hte hg hxi;exact⟨y,k1,k2⟩)
   exact⟨l,by simp only[RdC];exact⟨h1,h2⟩,h3⟩
  | sl e =>
   obtain⟨te,hd,hte,hpos,_⟩:=hd;simp only[Sh.good] at hg;rcases DataW.trod_slice hd h with ⟨rfl,_⟩ | ⟨a,len,cap,elems,rest,n,e1,rfl,_,_,hlc,_,hel,hx,_⟩
   ·exact⟨[],by simp only[RdC];exact⟨none,0,[],rfl,yv _,rfl,fun hh=>absurd rfl hh⟩,fun x hx=>by cases hx⟩
   ·obtain rfl:fuel=n:=by omega
    have hce:=qeJ (hT _ _ hte);rw[hce] at hx;have hone:∀ i,i < len→∃ c,W.cells? 0 (a.add (i*e.size)) e.size=some c∧∃ y:Den e,RdC W (Was W) e y c∧InR e y:=fun i hi=>by
     have hxi:=hx i hi;rw[yO (by omega)] at hxi;rw[Option.bind_eq_some_iff] at hxi;obtain⟨c,hc1,hc2⟩:=hxi;obtain⟨y,k1,k2⟩:=qeK hT fuel te e c _ hte hg hc2;exact⟨c,hc1,y,k1,k2⟩
    have hcell:∀ i,i < len→∀ j,j < e.size→∃ v,W.cell? ⟨a.block,a.off+(i*e.size+j),none⟩=some v∧(i=0→j=0→a.spot=none)∧a.block < W.heap.size∧∀ c,W.cells? 0 (a.add (i*e.size)) e.size=some c→c[j]? = some v:=fun i hi j hj=>by
     obtain⟨c,hc1,_⟩:=hone i hi;obtain⟨hl,hat⟩:=qvq hc1;have hv:=hat j c[j] (yO (by omega));obtain⟨p2,p3,p1⟩:=qkB hv;rw[qeY,qwf] at p2;rw[qeY] at p3;refine⟨c[j],by rw[← yS];exact p2,fun hi0 hj0=>?_,p3,fun c' hc'=>?_⟩
     ·subst hi0;have:=p1 hj0;rw[Nat.zero_mul] at this;have e0:a.add 0=a:=by unfold Addr.add;simp
      rw[e0] at this;exact this
     ·rw[hc1] at hc';obtain rfl:=yp hc';exact yO (by omega)
    let vs:List Value:=(List.range (len*e.size)).map fun q=>(W.cell? ⟨a.block,a.off+q,none⟩).getD undef
    have hvl:vs.length=len*e.size:=by simp[vs]
    obtain⟨l,h1,h2,h3⟩:=qem (R:=RdC W (Was W) e) (I:=InR e) (k:=e.size) len vs hvl (fun i hi=>by
     obtain⟨c,hc1,y,k1,k2⟩:=hone i hi;obtain⟨hl,_⟩:=qvq hc1;refine⟨y,?_,k2⟩;have:(vs.drop (i*e.size)).take e.size=c:=by
      apply List.ext_getElem?
      intro j;have hle:(i+1)*e.size≤len*e.size:=yC _ hi;rw[Nat.add_mul,Nat.one_mul] at hle;rcases Nat.lt_or_ge j e.size with hj | hj
      ·obtain⟨v,q1,_,_,q2⟩:=hcell i hi j hj;rw[List.getElem?_take_of_lt hj,List.getElem?_drop,q2 c hc1];simp only[vs,List.getElem?_map];rw[List.getElem?_range (by omega)];simp only[yU,q1,Option.getD_some]
      ·rw[yW (by simp;omega),yW (by omega)]
     rw[this];exact k1)
    refine⟨l,?_,h3⟩;simp only[RdC];refine⟨some a,cap,vs,by rw[h1],by omega,h2,fun hne=>⟨a,rfl,?_⟩⟩;have hlen:0 < len*e.size:=by
     rw[← hvl];exact List.length_pos_iff.2 hne
    have hpl:0 < len:=Nat.pos_of_mul_pos_right hlen;obtain⟨_,_,hsp,hblk,_⟩:=hcell 0 hpl 0 hpos;refine⟨hsp rfl rfl,fun q v hv=>⟨hblk,?_⟩⟩;have hq:=(List.getElem?_eq_some_iff.1 hv).1;rw[hvl] at hq;obtain⟨u,q1,_⟩:=hcell (q / e.size) (Nat.div_lt_of_lt_mul (by rw[Nat.mul_comm];exact hq)) (q % e.size) (Nat.mod_lt _ hpos);rw[Nat.mul_comm,Nat.div_add_mod] at q1;simp only[vs,List.getElem?_map] at hv;rw[List.getElem?_range hq] at hv;simp only[yU,ya,q1,Option.getD_some] at hv;rw[q1,hv]
theorem qIv (hT:TyOk P E) (hs:(E.ti t).sh=some s) (hg:s.good=true) {d:DataW H} {p:List MemPlace} (hv:Value.okWide P W .any base t v) (h:DataW.Trod enc P W 0 (fun _=>true) true t v d p) :
 ∃ y:Den s,Rd W (Was W) v (.dat s y none)∧InR s y:=by
 obtain⟨n,hn⟩:=h;obtain⟨y,h1,h2⟩:=qeK hT n t s v.cells.toList _ hs hg hn;refine⟨y,.dat _ _ _ _ ?_,h2⟩;have hd:=(hT t s hs).desc;unfold RdV;split
 ·rename_i ha;have:∃ cs,v=.agg cs:=by
   unfold Value.okWide at hv;cases s with
   | unit=>obtain⟨fs,hd,_⟩:=hd;rw[hd] at hv;obtain⟨cs,e,_⟩:=hv;exact⟨cs,e⟩
   | pair a b=>obtain⟨fs,hd,_⟩:=hd;rw[hd] at hv;obtain⟨cs,e,_⟩:=hv;exact⟨cs,e⟩
   | arr m e=>obtain⟨te,hd,_⟩:=hd;rw[hd] at hv;obtain⟨cs,e,_⟩:=hv;exact⟨cs,e⟩
   | _=>cases ha
  obtain⟨cs,rfl⟩:=this;exact⟨cs,rfl,h1⟩
 ·rename_i ha;have hone:v.cells.toList.length=1:=by rw[RdC.length _ _ _ h1];exact qkV (by simpa using ha)
  have hoc:=RdC.oneCell _ _ _ h1;have hna:∀ cs,v≠.agg cs:=by
   intro cs e;subst e;unfold Value.okWide at hv;cases s with
   | bool=>simp only at hd;rw[hd] at hv;simp[Cell.okWide,Cell.ok,hd] at hv
   | byte=>simp only at hd;rw[hd] at hv;simp[Cell.okWide,Cell.ok,hd] at hv
   | int k=>rw[hd.1] at hv;simp[Cell.okWide,Cell.ok,hd.1] at hv
   | str=>simp only at hd;rw[hd] at hv;simp[Cell.okWide,Cell.ok,hd] at hv
   | sl e=>obtain⟨te,hd,_⟩:=hd;rw[hd] at hv;simp[Cell.okWide,Cell.ok,hd] at hv
   | _=>exact ha rfl
  have hc:v.cells.toList=[v]:=by
   cases v with
   | agg cs=>exact absurd rfl (hna cs)
   | _=>rfl
  rw[hc] at h1;exact h1
end
end
section
open Go.RowKit Go.WideShapes Go.ChangeShapes
section
variable {H:Type} {enc:TypeId×Value→H} {P:Program} {W W':World}
theorem qgJ {base:Nat} {sp:Nat→Bool} {held:Bool}:∀ {ts:List TypeId} {vs:List Value} {ds:List (DataW H)} {ps:List MemPlace},DataW.TrodAll enc P W base sp held ts vs ds ps→(∀ p∈ps,W.sameAt W' p)→DataW.TrodAll enc P W' base sp held ts vs ds ps
 | [],[],[],_,h,_=>h
 | _ :: _,_ :: _,_ :: _,_,⟨p,q,⟨n,h1⟩,h2,e⟩,hs=>⟨p,q,⟨n,DataW.trod_carry n _ _ _ h1 (fun x hx=>hs x (by rw[e];exact List.mem_append_left _ hx))⟩,qgJ h2 (fun x hx=>hs x (by rw[e];exact List.mem_append_right _ hx)),e⟩
theorem qvi (hl:laidOutB P=true) (hm:mapsRowed P=true) (hz:((List.range P.types.size).all fun t=>match P.underlying t with | some (.slice e)=>decide (0 < P.cellsOf e) | _=>true)=true)
 {ts:List TypeId} {vs:List Value} {ds:List (DataW H)} {ps:List MemPlace} (hts:∀ t∈ts,t < P.types.size) (h:DataW.TrodAll enc P W 0 (fun _=>true) true ts vs ds ps) (hb:Below W.heap.size W W') {sp:Nat→Bool} (hsp:∀ p∈ps,sp p.block=true) :
 DataW.TrodAll enc P W' 0 sp true ts vs ds ps :=
 (qgJ h (fun p hp=>hb.same (h.lt p hp))).respare (kids_rows hl hm) (fun t e ht=>slices_full_of P hz t e ht) hts hsp
end
end
section
variable {P:Program} {w:World} {S:qa}
theorem qgI:∀ (f:FuncId) (sp:List AV→Bool×AV),(none:Option (List AV→Bool×AV))=some sp→qdk P f sp w S:=fun _ _ h=>by cases h
theorem qda {k:FuncId} {s:List AV→Bool×AV} {g:FuncId→Option (List AV→Bool×AV)} (h:qdk P k s w S) (hr:∀ f sp,g f=some sp→qdk P f sp w S) :
 ∀ f sp,(if f=k then some s else g f)=some sp→qdk P f sp w S:=fun f sp he=>by
 split at he
 ·rename_i e;subst e;cases he;exact h
 ·exact hr f sp he
end
end Go.Av
