import Derived.Test.YtopepdfipgfakaaGreatDoorCuP6
namespace Go.Av
set_option linter.unusedVariables false
set_option linter.unusedSimpArgs false
theorem qvp:z34 [233] 75=([61,63,105,115,111,45,56,56,53,57,45,49,63,81,63,61,69,57,63,61],0):=by decide +kernel
theorem qrI:(z32 [233] 10).2=12:=by decide +kernel
theorem qrJ:z36 [233] 75=1:=by decide +kernel
theorem qDp:∃ n,qDG n  = qla z27:=⟨0,by
 unfold qDG
 rw [qvp,qrI,qrJ]
 rfl⟩
theorem qht (m:Nat) (l:List (List UInt8)) (hl:l.length≤1048576) (hx:∀ x∈l,x.length≤1048576):∀ (d i n:Nat),i+d=l.length→d < n →
 qne qeT (qgP m) n l l ((l.length:Nat):Int) (i:Int)=qeT true
 | d,i,0,hi,hn=>by omega
 | 0,i,n+1,hi,hn=>by
  obtain rfl:i=l.length:=by omega
  show qev _ _ _ n _ _ _ _=_
  unfold qev
  rw [dF (by omega)]
  rfl
 | d+1,i,n+1,hi,hn=>by
  have hlt:i < l.length:=by omega
  have hgm:l.getD i []∈l:=by
   rw [List.getD_eq_getElem?_getD,List.getElem?_eq_getElem hlt]
   exact List.getElem_mem hlt
  have hk:qrU (l.getD i []) (l.getD i [])=true:=qam (hx _ hgm)
  show qev _ _ _ n _ _ _ _=_
  unfold qev
  simp (disch:=omega) only [dT,cond_true,Bool.and_true,tn,qo,hk,qpN,Bool.not_true,cond_false]
  exact qht m l hl hx d (i+1) n (by omega) (by omega)
theorem qpl (sep:List UInt8) (m:Nat):∀ l:List (List UInt8),(∀ x∈l,x.length≤m)→(joinB sep l).length≤(m+sep.length)*l.length
 | [],_=>Nat.zero_le _
 | [a],h=>by
  have:=h a (by simp)
  show a.length≤(m+sep.length)*1
  omega
 | a :: b :: l,h=>by
  have h1:=h a (by simp)
  have h2:=qpl sep m (b :: l) (fun x hx=>h x (by simp [hx]))
  rw [show joinB sep (a :: b :: l)=a++sep++joinB sep (b :: l) from rfl,List.length_append,List.length_append,List.length_cons (a:=a),Nat.mul_succ]
  omega
theorem qJp:∀ (t0:List Int) (first1:Int),(z8_ok t0 first1=true)→∃ n,z8_sh n t0 first1=qeT (z8 t0 first1):=fun t rm h=>⟨1048577,by
 have hi:i32s t=true:=h
 unfold z8_sh
 by_cases h80:(80:Int) < ((t.length:Nat):Int)
 ·rw [dT h80]; rfl
 ·rw [dF h80]
  have hl:t.length≤65536:=by omega
  obtain ⟨k1,k2⟩:=qvl t rm
  rw [← qvo t rm hi (by omega),← qJo t rm hi (by omega)]
  have hf:(z34 t rm).1.length≤1048576:=by
   unfold z34
   cases (z32 t rm).2 != 0 with
   | true=>exact Nat.zero_le _
   | false =>
    have:=qpl [13,10,32] 75 (z32 t rm).1 k2
    have e:(75+([13,10,32]:List UInt8).length)*(z32 t rm).1.length≤78*80:=Nat.mul_le_mul (Nat.le_refl _) (by omega)
    show (joinB [13,10,32] (z32 t rm).1).length≤_
    omega
  have hw:∀ x:Int,decide (t.length≤65536)=true:=fun _=>dT hl
  rw [show qjj t rm=true from dT hl,show qrF t rm=true from dT hl,show qvc t rm=true from dT hl,show qzo t rm=true from dT hl,show qvd t rm=true from dT hl,
   show qrU (z34 t rm).1 (z34 t rm).1=true from qam hf,qpN,show z36 t rm=(((z32 t rm).1.length:Nat):Int) from rfl]
  simp only [bne_self_eq_false,cond_false,Bool.and_true,cond_true,Bool.not_true]
  exact qht 1048577 _ (by omega) (fun x hx=>Nat.le_trans (k2 x hx) (by decide)) _ 0 1048577 (Nat.zero_add _) (by omega)⟩
end Go.Av
