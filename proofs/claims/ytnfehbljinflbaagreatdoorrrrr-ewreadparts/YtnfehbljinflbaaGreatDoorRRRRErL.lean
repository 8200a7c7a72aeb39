import Derived.Test.YtnfehbljinflbaaGreatDoorRRRRErM
import Derived.Test.YtnfehbljinflbaaGreatDoorRRRREfL
namespace Go.Av
theorem qjI (p:qz):(qbl p).length≤p.2.1.length:=by
 unfold qbl;cases p.1==3 with
 | false=>exact qrI _ _
 | true=>exact qAk _
theorem qjJ:∀ (n:Nat) (s:LU),s.length≤n→joinP (qcl n s)=s
 | 0,s,h=>by
  obtain rfl:s=[]:=yF (by omega);rfl
 | n+1,[],_=>rfl
 | n+1,c :: r,h=>by
  show joinP ((kindB ((c :: r).take (alike (c :: r))),((c :: r).take (alike (c :: r)),())) :: qcl n ((c :: r).drop (alike (c :: r))))=c :: r;have hl:alike (c :: r)=(r.takeWhile fun x=>gapB x==gapB c).length+1:=rfl;have ih:=qjJ n ((c :: r).drop (alike (c :: r))) (by rw [yK,hl]; simp only [yg] at h ⊢; omega);have e:joinP ((kindB ((c :: r).take (alike (c :: r))),((c :: r).take (alike (c :: r)),())) :: qcl n ((c :: r).drop (alike (c :: r))))=(c :: r).take (alike (c :: r))++joinP (qcl n ((c :: r).drop (alike (c :: r)))):=rfl;rw [e,ih,yX]
theorem qCr (l:List qz):∀ (d i:Nat),i+d=l.length→((showF l d i).map fun p=>p.2.1.length).sum≤((l.drop i).map fun p=>p.2.1.length).sum
 | 0,i,h=>Nat.zero_le _
 | d+1,i,h=>by
  have hlt:i < l.length:=by omega
  have ih:=qCr l d (i+1) (by omega);rw [List.drop_eq_getElem_cons hlt,yI,List.sum_cons];show ((bif qaN l i then showF l d (i+1) else l.getD i (0,([],())) :: showF l d (i+1)).map fun p=>p.2.1.length).sum≤_;cases qaN l i with
  | true=>show ((showF l d (i+1)).map fun p=>p.2.1.length).sum≤_; omega
  | false =>
   have e:l.getD i (0,([],()))=l[i]:=by rw [yY,yO hlt]; rfl
   rw [e];show ((l[i] :: showF l d (i+1)).map fun p=>p.2.1.length).sum≤_;rw [yI,List.sum_cons];omega
theorem qHO (l:List qz):(l.map fun p=>p.2.1.length).sum=(joinP l).length:=by
 unfold joinP;rw [List.length_flatMap]
theorem qvu (s:LU):((z37 s).map fun p=>p.2.1.length).sum≤s.length:=by
 have h:=qCr (qdi s) (qdi s).length 0 (yE _);rw [yw,qHO (qdi s),show joinP (qdi s)=s from qjJ _ s (yv _)] at h;exact h
theorem qil:∀ (s:LU) (k:Nat),(unfS k s).length≤s.length
 | [],k=>by cases k <;> exact yv _
 | x :: r,0=>by
  show (bif qdo (x :: r) then unfS 1 r else x :: unfS 0 r).length≤_;have h1:=qil r 1;have h0:=qil r 0;cases qdo (x :: r) with
  | true=>show (unfS 1 r).length≤_; rw [yg]; omega
  | false=>show (x :: unfS 0 r).length≤_; rw [yg,yg]; omega
 | x :: r,k+1=>by
  show (unfS k r).length≤_;have:=qil r k;rw [yg];omega
end Go.Av
