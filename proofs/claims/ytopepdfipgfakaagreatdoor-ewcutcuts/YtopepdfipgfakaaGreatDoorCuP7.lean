import Derived.Test.YtopepdfipgfakaaGreatDoorCuP6
namespace Go.Av
set_option linter.unusedVariables false
set_option linter.unusedSimpArgs false
theorem quv:z34 [233] 75=([61,63,105,115,111,45,56,56,53,57,45,49,63,81,63,61,69,57,63,61],0):=by decide +kernel
theorem qqU:(z32 [233] 10).2=12:=by decide +kernel
theorem qqV:z36 [233] 75=1:=by decide +kernel
theorem qCu:∃ n,qCL n  = qkF z27:=⟨0,by
 unfold qCL
 rw [quv,qqU,qqV]
 rfl⟩
theorem quw (s:List Int):z21 s s=true:=by unfold z21; exact dT rfl
theorem qoB (m:Nat) (l:List (List Int)) (hl:l.length≤1048576) (hx:∀ x∈l,x.length≤1048576):∀ (d i n:Nat),i+d=l.length→d < n →
 qmJ qeM (qgF m) n l l ((l.length:Nat):Int) (i:Int)=qeM true
 | d,i,0,hi,hn=>by omega
 | 0,i,n+1,hi,hn=>by
  obtain rfl:i=l.length:=by omega
  show qeo _ _ _ n _ _ _ _=_
  unfold qeo
  rw [dF (by omega)]
  rfl
 | d+1,i,n+1,hi,hn=>by
  have hlt:i < l.length:=by omega
  have hgm:l.getD i []∈l:=by
   rw [List.getD_eq_getElem?_getD,List.getElem?_eq_getElem hlt]
   exact List.getElem_mem hlt
  have hk:qAz (l.getD i []) (l.getD i [])=true:=qaO (hx _ hgm)
  show qeo _ _ _ n _ _ _ _=_
  unfold qeo
  simp (disch:=omega) only [dT,cond_true,Bool.and_true,tn,qr,hk,quw,Bool.not_true,cond_false]
  exact qoB m l hl hx d (i+1) n (by omega) (by omega)
theorem qIs:∀ (how0:List Int) (t1:List Int),(z7_ok how0 t1=true)→∃ n,z7_sh n how0 t1=qeM (z7 how0 t1):=fun how t h=>⟨1048577,by
 have hi:i32s t=true:=h
 unfold z7_sh
 by_cases h80:(80:Int) < ((t.length:Nat):Int)
 ·rw [dT h80]; rfl
 ·rw [dF h80]
  have hl:t.length≤1048576:=by omega
  have hk:lenOk t=true:=qaO hl
  generalize how.getD (Int.toNat 0) 0=cs
  generalize how.getD (Int.toNat 1) 0=code
  generalize how.getD (Int.toNat 2) 0=rm
  obtain ⟨k1,k2⟩:=qiV cs code t rm
  rw [← qKW cs code t rm hi hl,← qKV t hi hl,show qqP cs code t rm=true from hk,show qyq cs code t rm=true from hk,show qqQ t=true from hk,show qyr t=true from hk]
  simp only [bne_self_eq_false,cond_false,Bool.and_true,cond_true]
  exact qoB 1048577 _ (by omega) (fun x hx=>Nat.le_trans (k2 x hx) hl) _ 0 1048577 (Nat.zero_add _) (by omega)⟩
end Go.Av
