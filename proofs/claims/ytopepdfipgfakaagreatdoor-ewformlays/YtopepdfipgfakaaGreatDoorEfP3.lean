import Derived.Test.YtopepdfipgfakaaGreatDoorEfP2
namespace Go.Av
set_option linter.unusedVariables false
set_option linter.unusedSimpArgs false
theorem quJ:∀ (c0:UInt8),∃ n,qwE n c0=qkz (z150 c0).1 (z150 c0).2:=fun c=>⟨0,by
 show qkz (bif decide (Lib.indexByte b64D c < 0) then 0 else Lib.indexByte b64D c) (decide (0≤Lib.indexByte b64D c))=_
 unfold z150
 by_cases h:Lib.indexByte b64D c < 0
 ·rw [dT h,dF (by omega)]; rfl
 ·rw [dF h,dT (by omega)]; rfl⟩
theorem quK:∀ i:Fin 256,(decide (0≤(z150 (UInt8.ofNat i.val)).1)&&decide ((z150 (UInt8.ofNat i.val)).1 < 64))=true:=by decide +kernel
theorem qCQ (c:UInt8):∃ n:Nat,(z150 c).1=(n:Int)∧n < 64:=by
 have h:=qiX (P:=fun c=>(decide (0≤(z150 c).1)&&decide ((z150 c).1 < 64))=true) quK c
 simp only [Bool.and_eq_true,decide_eq_true_eq] at h
 exact ⟨(z150 c).1.toNat,by omega,by omega⟩
theorem u8_of (k:Nat):UInt8.ofNat (Int.toNat (IntKind.wrap .u8 (k:Int)))=UInt8.ofNat k:=by
 have:IntKind.wrap .u8 (k:Int)=((k % 256:Nat):Int):=by
  rw [IntKind.wrap_u8]; omega
 rw [this,Int.toNat_natCast]
 apply UInt8.toNat_inj.1
 show (k % 256) % 256=k % 256
 omega
def decT {R:Type} (K:List UInt8→Int→Int→R) (N:R) (out:List UInt8) (held many v:Int):R :=
 bif (decide ((8:Int)≤(IntKind.wrap .i64 (many+(6:Int))))) then
  bif (decide ((0:Int)≤(IntKind.wrap .i64 ((IntKind.wrap .i64 (many+(6:Int))) - (8:Int))))) then
   bif (decide (List.length out+List.length ([(UInt8.ofNat (Int.toNat (IntKind.wrap .u8 (Int.fdiv (bits .or .i64 (IntKind.wrap .i64 (held*2 ^ (min (Int.toNat (6:Int)) (IntKind.bits .i64)))) v) (2 ^ (min (Int.toNat (IntKind.wrap .i64 ((IntKind.wrap .i64 (many+(6:Int))) - (8:Int)))) (IntKind.bits .i64)))))))]:List UInt8)≤room)) then
    bif (decide ((0:Int)≤(IntKind.wrap .i64 ((IntKind.wrap .i64 (many+(6:Int))) - (8:Int))))) then
     K (out++([(UInt8.ofNat (Int.toNat (IntKind.wrap .u8 (Int.fdiv (bits .or .i64 (IntKind.wrap .i64 (held*2 ^ (min (Int.toNat (6:Int)) (IntKind.bits .i64)))) v) (2 ^ (min (Int.toNat (IntKind.wrap .i64 ((IntKind.wrap .i64 (many+(6:Int))) - (8:Int)))) (IntKind.bits .i64)))))))]:List UInt8)) (bits .and .i64 (bits .or .i64 (IntKind.wrap .i64 (held*2 ^ (min (Int.toNat (6:Int)) (IntKind.bits .i64)))) v) (IntKind.wrap .i64 ((IntKind.wrap .i64 ((1:Int)*2 ^ (min (Int.toNat (IntKind.wrap .i64 ((IntKind.wrap .i64 (many+(6:Int))) - (8:Int)))) (IntKind.bits .i64)))) - (1:Int)))) (IntKind.wrap .i64 ((IntKind.wrap .i64 (many+(6:Int))) - (8:Int)))
    else N
   else N
  else N
 else
  K out (bits .or .i64 (IntKind.wrap .i64 (held*2 ^ (min (Int.toNat (6:Int)) (IntKind.bits .i64)))) v) (IntKind.wrap .i64 (many+(6:Int)))
theorem held6 (h n:Nat) (hh:h < 64) (hn:n < 64):bits .or .i64 (IntKind.wrap .i64 ((h:Int)*2 ^ (min (Int.toNat (6:Int)) (IntKind.bits .i64)))) (n:Int)=((h*64+n:Nat):Int):=by
 have e:IntKind.wrap .i64 ((h:Int)*2 ^ (min (Int.toNat (6:Int)) (IntKind.bits .i64)))=((h*2 ^ 6:Nat):Int):=by
  show IntKind.wrap .i64 ((h:Int)*64)=_
  rw [IntWalk.i64_in _ (by omega)]; omega
 rw [e,qCM h n 6 (by omega) (by omega)]
theorem qCR {R:Type} (K:List UInt8→Int→Int→R) (N:R) (out:List UInt8) (h m n:Nat) (hm:m=0∨m=2∨m=4∨m=6) (hh:h < 2 ^ m) (hn:n < 64) (ho:out.length+1≤room) :
 decT K N out (h:Int) (m:Int) (n:Int)=K (out++decO m h n) (decH m h n:Nat) (decM m:Nat):=by
 have hh6:h < 64:=by rcases hm with rfl | rfl | rfl | rfl <;> omega
 unfold decT
 rw [held6 h n hh6 hn]
 rcases hm with rfl | rfl | rfl | rfl
 ·obtain rfl:h=0:=by omega
  rw [show decide ((8:Int)≤IntKind.wrap .i64 (((0:Nat):Int)+6))=false from rfl,cond_false,Nat.zero_mul,Nat.zero_add]
  show K out _ 6=K (out++[]) _ 6
  rw [List.append_nil]; rfl
 ·rw [show decide ((8:Int)≤IntKind.wrap .i64 (((2:Nat):Int)+6))=true from rfl,cond_true,show IntKind.wrap .i64 (IntKind.wrap .i64 (((2:Nat):Int)+6) - 8)=((0:Nat):Int) from rfl,dT (by omega),cond_true,cond_true]
  have e1:Int.fdiv ((h*64+n:Nat):Int) (2 ^ (min (Int.toNat ((0:Nat):Int)) (IntKind.bits .i64)))=(((h*64+n) / 2 ^ 0:Nat):Int):=fdivN _ 1
  have e2:IntKind.wrap .i64 (IntKind.wrap .i64 ((1:Int)*2 ^ (min (Int.toNat ((0:Nat):Int)) (IntKind.bits .i64))) - 1)=((2 ^ 0 - 1:Nat):Int):=rfl
  rw [e1,e2,u8_of,qgC _ 0 (by omega) (by decide),dT (show out.length+[_].length≤room from ho),cond_true]
  rfl
 ·rw [show decide ((8:Int)≤IntKind.wrap .i64 (((4:Nat):Int)+6))=true from rfl,cond_true,show IntKind.wrap .i64 (IntKind.wrap .i64 (((4:Nat):Int)+6) - 8)=((2:Nat):Int) from rfl,dT (by omega),cond_true,cond_true]
  have e1:Int.fdiv ((h*64+n:Nat):Int) (2 ^ (min (Int.toNat ((2:Nat):Int)) (IntKind.bits .i64)))=(((h*64+n) / 2 ^ 2:Nat):Int):=fdivN _ 4
  have e2:IntKind.wrap .i64 (IntKind.wrap .i64 ((1:Int)*2 ^ (min (Int.toNat ((2:Nat):Int)) (IntKind.bits .i64))) - 1)=((2 ^ 2 - 1:Nat):Int):=rfl
  rw [e1,e2,u8_of,qgC _ 2 (by omega) (by decide),dT (show out.length+[_].length≤room from ho),cond_true]
  rfl
 ·rw [show decide ((8:Int)≤IntKind.wrap .i64 (((6:Nat):Int)+6))=true from rfl,cond_true,show IntKind.wrap .i64 (IntKind.wrap .i64 (((6:Nat):Int)+6) - 8)=((4:Nat):Int) from rfl,dT (by omega),cond_true,cond_true]
  have e1:Int.fdiv ((h*64+n:Nat):Int) (2 ^ (min (Int.toNat ((4:Nat):Int)) (IntKind.bits .i64)))=(((h*64+n) / 2 ^ 4:Nat):Int):=fdivN _ 16
  have e2:IntKind.wrap .i64 (IntKind.wrap .i64 ((1:Int)*2 ^ (min (Int.toNat ((4:Nat):Int)) (IntKind.bits .i64))) - 1)=((2 ^ 4 - 1:Nat):Int):=rfl
  rw [e1,e2,u8_of,qgC _ 4 (by omega) (by decide),dT (show out.length+[_].length≤room from ho),cond_true]
  rfl
theorem qyi (m h n:Nat):(decO m h n).length≤1:=by
 unfold decO
 cases m==0
 ·exact Nat.le_refl 1
 ·exact Nat.zero_le 1
theorem qck {s:List UInt8} {i:Nat} (h:i < s.length):s.drop i=s.getD i 0 :: s.drop (i+1):=by
 rw [List.drop_eq_getElem_cons h,List.getD_eq_getElem?_getD,List.getElem?_eq_getElem h]; rfl
end Go.Av
