/- Proved: the law BodyAuto returns true for every input. -/
import Derived.Test.YtmdadpepccbpcaaGreatDoorPoLaw
namespace Go.Proofs.YtmdadpepccbpcaaGreatDoor.bodyAuto
open Go.Av Go.ChangeShapes Go.WideShapes Go.ChangeAt Go.RowKit
set_option linter.unusedVariables false

set_option maxRecDepth 100000 in
theorem contract (H:Type) (enc:TypeId×Value→H) (W:World) (base:Nat) (args:Array Value) (ds gs:List (DataW H)) (before:List MemPlace)
 (hval:∀ (j:Nat) t v,Tryz.f3.params[j]? = some t→args[j]? = some v→Value.okWide Tryz.prog W .any base t v)
 (hW:DataW.Whole enc Tryz.prog Tryz.f3.params.toList Rows.bodyAutoSpec.vars false W args.toList ds gs before) (hL:laidMetH Tryz.prog Rows.bodyAutoRow.laid W) (hsh:W.ShapedOpen Tryz.prog) :
 Calls Tryz.prog 3 args W fun e W'=>∃ v,e=.returned v∧Rows.bodyAutoSpec.post enc Tryz.prog Tryz.f3 false true false false W args v W':=by
 have hW':=hW;obtain⟨p,q,hA0,hV,rfl,hfz,hnd⟩:=hW;have hA:DataW.TrodAll enc Tryz.prog W 0 (fun _=>true) true Tryz.f3.params.toList args.toList ds p:=hA0;rw[Tryz.params3] at hA hval;obtain⟨v0,vs0,d0,ds0,p0,q0,hargs,rfl,rfl,h0,r0⟩:=trodAll_cons hA;obtain⟨rfl,rfl,rfl⟩:=trodAll_nil r0;obtain rfl:args = #[v0]:=by cases args;simp_all
 obtain⟨rfl,rfl⟩:=trodVars_none hV;obtain⟨y0,k0,i0⟩:=qMo hT (t:=22) (s:=.sl (.int .i32)) rfl rfl (hval 0 22 v0 rfl rfl) h0;have hc:=qDR (vals:=[v0]) (avs:=[.dat (.sl (.int .i32)) y0 none]) (qNo W (Was W) (g_at hL hsh)) Tryz.func3 rfl (by kernel_rfl)
  (by
   show (z3_ok y0,AV.bool true)=_;rw[show z3_ok y0=true from qUv i0])
  (fun _ _ h=>h) (qkn k0 (qnq _ _))
 refine hc.mono fun e W' ⟨he,hg⟩=>?_;subst he;simp only[yG] at hW';exact⟨_,rfl,Go.Av.post_of_below (pv:=[]) hW' (fun _ _ _=>(trodAll_cons_mk (shut_bool Tryz.underlying4 _) trodAll_mk0)) (fun sp hsp=>qxa (by kernel_rfl) (by kernel_rfl) (by kernel_rfl) (by decide +kernel) hA0 hg (fun x hx=>hsp x (by simpa using hx))) (fun _ _=>rfl) (by simp)
  hg (ok_one (by kernel_rfl) rfl (okWide_bool_mk Tryz.underlying4 _))⟩

noncomputable def inp:Input:=⟨#[],#[.slice none 0 0],[]⟩
theorem laid_met (os:Os):laidMet Tryz.prog Rows.bodyAutoRow.laid ((qme os ⟨#[],#[],[]⟩).forCall (fun _ _=>0) inp).memory :=
 laidMet_of_run' 8 (by kernel_rfl) (by kernel_rfl)
theorem reads (os:Os) {H:Type} (enc:TypeId×Value→H):∃ places,DataW.whole enc Tryz.prog ((qme os ⟨#[],#[],[]⟩).forCall (fun _ _=>0) inp).memory Tryz.f3.params.toList Rows.bodyAutoSpec.vars false inp.args.toList 8=some ([.nil],[],places) :=
 ⟨[],by kernel_rfl⟩

set_option maxRecDepth 100000 in
theorem lifted (os:Os) (started:os.Started) (H:Type) (enc:TypeId×Value→H) (F:Stop.Interp) :
 ReturnsInHanded {} Tryz.checked os 3 .any ((OpenSpec.ofChange Rows.bodyAutoSpec).preRow enc Tryz.prog Tryz.f3 Rows.bodyAutoRow.domain false Rows.bodyAutoRow.laid) (((OpenSpec.ofChange Rows.bodyAutoSpec).at F).post enc Tryz.prog Tryz.f3 false true false false):=by
 obtain⟨places,hx⟩:=reads os enc;refine returnsInHanded_of_row (C:=Tryz.checked) (s:=OpenSpec.ofChange Rows.bodyAutoSpec) own started (by kernel_rfl) Tryz.func3
  (witness_row_at (enc:=enc) (C:=Tryz.checked) false (qme os ⟨#[],#[],[]⟩) inp.args rfl (by kernel_rfl) (by kernel_rfl) (by kernel_rfl)
   (OpenSpec.preRow_of_cond 8 hx (by kernel_rfl) (fun k hk=>by cases hk) (by kernel_rfl) (laid_met os))) ?_
 intro W base args ds gs before hval hW _ _ _ hL hsh _;exact contract H enc W base args ds gs before hval hW hL hsh

theorem said:Rows.BodyAutoSaid :=
 OpenClaim.holds_of_cond 3 Tryz.f3 rfl rfl rfl rfl rfl rfl rfl ⟨rfl,rfl,rfl,rfl,rfl⟩ rfl rfl rfl rfl rfl (by kernel_rfl) Tryz.func3 (by kernel_rfl)
  (of_decide_eq_true (by kernel_rfl)) (by unfold Func.isWrapper;first | (rw[if_pos (by decide +kernel)];kernel_rfl) | (rw[if_neg (by decide +kernel)];exact⟨rfl,rfl⟩))
  (fun os started H enc _ F=>by rw[OpenClaim.pre_eq_preRow];exact lifted os started H enc F)

/-- No parameter wants a stand-in; the program's own looks are off. -/
theorem plain (f:FuncId) (fn:Func) (hf:Tryz.pinned.checked.prog.funcNamed "sheave/sheavelaw38.BodyAuto" = some f) (hfn:Tryz.pinned.checked.prog.funcs[f]? = some fn) :
 false=Tryz.pinned.checked.prog.looks []∧∀ (j:Nat) t,fn.params[j]? = some t→Tryz.pinned.checked.prog.wantsStandIn t=false:=by
 obtain rfl:f=3:=yp ((show Tryz.prog.funcNamed "sheave/sheavelaw38.BodyAuto" = some 3 by kernel_rfl).symm.trans hf) |>.symm;obtain rfl:fn=Tryz.f3:=(yp (Tryz.func3.symm.trans hfn)).symm;refine⟨by kernel_rfl,fun j t ht=>?_⟩;rw[Tryz.params3] at ht;have hm:t∈[22]:=by simpa using Array.mem_of_getElem? ht
 have hall:([22].all fun u => !Tryz.prog.wantsStandIn u)=true:=by kernel_rfl
 exact(show Tryz.prog.wantsStandIn t=false by simpa using List.all_eq_true.1 hall t hm)
end Go.Proofs.YtmdadpepccbpcaaGreatDoor.bodyAuto
namespace Go.Proofs.YtmdadpepccbpcaaGreatDoor
/-- THE CARD. -/
theorem bodyAutoProved:Rows.BodyAutoCardSaid :=
 Claim7.holds_tied_plain_at .later [] _ _ _ _ bodyAuto.said (fun _ h=>by cases h) (by kernel_rfl) (fun _ h=>by cases h) bodyAuto_row_tie rfl ⟨rfl,rfl⟩ (by kernel_rfl) rfl bodyAuto.plain (by kernel_rfl)
#print axioms bodyAutoProved
end Go.Proofs.YtmdadpepccbpcaaGreatDoor
