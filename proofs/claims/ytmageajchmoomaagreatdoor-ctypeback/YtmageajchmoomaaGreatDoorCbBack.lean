/- Proved: the law CtypeBack returns true for every input. -/
import Derived.Test.YtmageajchmoomaaGreatDoorCbLaw
namespace Go.Proofs.YtmageajchmoomaaGreatDoor.ctypeBack
open Go.Av Go.ChangeShapes Go.WideShapes Go.ChangeAt Go.RowKit
set_option linter.unusedVariables false

set_option maxRecDepth 100000 in
theorem contract (H:Type) (enc:TypeId×Value→H) (W:World) (base:Nat) (args:Array Value) (ds gs:List (DataW H)) (before:List MemPlace)
 (hval:∀ (j:Nat) t v,Tryz.f4.params[j]? = some t→args[j]? = some v→Value.okWide Tryz.prog W .any base t v)
 (hW:DataW.Whole enc Tryz.prog Tryz.f4.params.toList Rows.ctypeBackSpec.vars false W args.toList ds gs before) (hL:laidMetH Tryz.prog Rows.ctypeBackRow.laid W) (hsh:W.ShapedOpen Tryz.prog) :
 Calls Tryz.prog 4 args W fun e W'=>∃ v,e=.returned v∧Rows.ctypeBackSpec.post enc Tryz.prog Tryz.f4 false true false false W args v W':=by
 have hW':=hW;obtain⟨p,q,hA0,hV,rfl,hfz,hnd⟩:=hW;have hA:DataW.TrodAll enc Tryz.prog W 0 (fun _=>true) true Tryz.f4.params.toList args.toList ds p:=hA0;rw[Tryz.params4] at hA hval;obtain⟨v0,vs0,d0,ds0,p0,q0,hargs,rfl,rfl,h0,r0⟩:=trodAll_cons hA;obtain⟨rfl,rfl,rfl⟩:=trodAll_nil r0;obtain rfl:args = #[v0]:=by cases args;simp_all
 obtain⟨rfl,rfl⟩:=trodVars_none hV;obtain⟨y0,k0,i0⟩:=qIv hT (t:=25) (s:=.pair (.sl .byte) (.pair (.sl .byte) (.pair (.sl (.pair (.sl .byte) (.pair (.sl (.int .i32)) .unit))) .unit))) rfl rfl (hval 0 25 v0 rfl rfl) h0;have hc:=qBe (vals:=[v0]) (avs:=[.dat (.pair (.sl .byte) (.pair (.sl .byte) (.pair (.sl (.pair (.sl .byte) (.pair (.sl (.int .i32)) .unit))) .unit))) y0 none]) (qJh W (Was W) (g_at hL hsh)) Tryz.func4 rfl (by kernel_rfl)
  (by
   show (z4_ok y0,AV.bool true)=_;rw[show z4_ok y0=true from List.all_eq_true.2 fun p hp=>qPQ (i0.2.2.1 p hp).2.1])
  (fun _ _ h=>h) (qcg k0 (qhS _ _))
 refine hc.mono fun e W' ⟨he,hg⟩=>?_;subst he;simp only[yG] at hW';exact⟨_,rfl,Go.Av.post_of_below (pv:=[]) hW' (fun _ _ _=>(trodAll_cons_mk (shut_bool Tryz.underlying4 _) trodAll_mk0)) (fun sp hsp=>qvi (by kernel_rfl) (by kernel_rfl) (by kernel_rfl) (by decide +kernel) hA0 hg (fun x hx=>hsp x (by simpa using hx))) (fun _ _=>rfl) (by simp)
  hg (ok_one (by kernel_rfl) rfl (okWide_bool_mk Tryz.underlying4 _))⟩

noncomputable def inp:Input:=⟨#[],#[.agg #[.slice none 0 0,.slice none 0 0,.slice none 0 0]],[]⟩
theorem laid_met (os:Os):laidMet Tryz.prog Rows.ctypeBackRow.laid ((qlg os ⟨#[],#[],[]⟩).forCall (fun _ _=>0) inp).memory :=
 laidMet_of_run' 8 (by kernel_rfl) (by kernel_rfl)
theorem reads (os:Os) {H:Type} (enc:TypeId×Value→H):∃ places,DataW.whole enc Tryz.prog ((qlg os ⟨#[],#[],[]⟩).forCall (fun _ _=>0) inp).memory Tryz.f4.params.toList Rows.ctypeBackSpec.vars false inp.args.toList 8=some ([.agg [.nil,.nil,.nil]],[],places) :=
 ⟨[],by kernel_rfl⟩

set_option maxRecDepth 100000 in
theorem lifted (os:Os) (started:os.Started) (H:Type) (enc:TypeId×Value→H) (F:Stop.Interp) :
 ReturnsInHanded {} Tryz.checked os 4 .any ((OpenSpec.ofChange Rows.ctypeBackSpec).preRow enc Tryz.prog Tryz.f4 Rows.ctypeBackRow.domain false Rows.ctypeBackRow.laid) (((OpenSpec.ofChange Rows.ctypeBackSpec).at F).post enc Tryz.prog Tryz.f4 false true false false):=by
 obtain⟨places,hx⟩:=reads os enc;refine returnsInHanded_of_row (C:=Tryz.checked) (s:=OpenSpec.ofChange Rows.ctypeBackSpec) own started (by kernel_rfl) Tryz.func4
  (witness_row_at (enc:=enc) (C:=Tryz.checked) false (qlg os ⟨#[],#[],[]⟩) inp.args rfl (by kernel_rfl) (by kernel_rfl) (by kernel_rfl)
   (OpenSpec.preRow_of_cond 8 hx (by kernel_rfl) (fun k hk=>by cases hk) (by kernel_rfl) (laid_met os))) ?_
 intro W base args ds gs before hval hW _ _ _ hL hsh _;exact contract H enc W base args ds gs before hval hW hL hsh

theorem said:Rows.CtypeBackSaid :=
 OpenClaim.holds_of_cond 4 Tryz.f4 rfl rfl rfl rfl rfl rfl rfl ⟨rfl,rfl,rfl,rfl,rfl⟩ rfl rfl rfl rfl rfl (by kernel_rfl) Tryz.func4 (by kernel_rfl)
  (of_decide_eq_true (by kernel_rfl)) (by unfold Func.isWrapper;first | (rw[if_pos (by decide +kernel)];kernel_rfl) | (rw[if_neg (by decide +kernel)];exact⟨rfl,rfl⟩))
  (fun os started H enc _ F=>by rw[OpenClaim.pre_eq_preRow];exact lifted os started H enc F)

/-- No parameter wants a stand-in; the program's own looks are off. -/
theorem plain (f:FuncId) (fn:Func) (hf:Tryz.pinned.checked.prog.funcNamed "sheave/sheavelaw49.CtypeBack" = some f) (hfn:Tryz.pinned.checked.prog.funcs[f]? = some fn) :
 false=Tryz.pinned.checked.prog.looks []∧∀ (j:Nat) t,fn.params[j]? = some t→Tryz.pinned.checked.prog.wantsStandIn t=false:=by
 obtain rfl:f=4:=yp ((show Tryz.prog.funcNamed "sheave/sheavelaw49.CtypeBack" = some 4 by kernel_rfl).symm.trans hf) |>.symm;obtain rfl:fn=Tryz.f4:=(yp (Tryz.func4.symm.trans hfn)).symm;refine⟨by kernel_rfl,fun j t ht=>?_⟩;rw[Tryz.params4] at ht;have hm:t∈[25]:=by simpa using Array.mem_of_getElem? ht
 have hall:([25].all fun u => !Tryz.prog.wantsStandIn u)=true:=by kernel_rfl
 exact(show Tryz.prog.wantsStandIn t=false by simpa using List.all_eq_true.1 hall t hm)
end Go.Proofs.YtmageajchmoomaaGreatDoor.ctypeBack
namespace Go.Proofs.YtmageajchmoomaaGreatDoor
/-- THE CARD. -/
theorem ctypeBackProved:Rows.CtypeBackCardSaid :=
 Claim7.holds_tied_plain_at .later [] _ _ _ _ ctypeBack.said (fun _ h=>by cases h) (by kernel_rfl) (fun _ h=>by cases h) ctypeBack_row_tie rfl ⟨rfl,rfl⟩ (by kernel_rfl) rfl ctypeBack.plain (by kernel_rfl)
#print axioms ctypeBackProved
end Go.Proofs.YtmageajchmoomaaGreatDoor
