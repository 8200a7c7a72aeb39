/- Proved: the law EwformBack returns true for every input. -/
import Derived.Test.YtopepdfipgfakaaGreatDoorEfLaw
namespace Go.Proofs.YtopepdfipgfakaaGreatDoor.ewformBack
open Go.Av Go.ChangeShapes Go.WideShapes Go.ChangeAt Go.RowKit
set_option linter.unusedVariables false

set_option maxRecDepth 100000 in
theorem contract (H:Type) (enc:TypeId×Value→H) (W:World) (base:Nat) (args:Array Value) (ds gs:List (DataW H)) (before:List MemPlace)
 (hval:∀ (j:Nat) t v,Tryz.f6.params[j]?=some t→args[j]?=some v→Value.okWide Tryz.prog W .any base t v)
 (hW:DataW.Whole enc Tryz.prog Tryz.f6.params.toList Rows.ewformBackSpec.vars false W args.toList ds gs before) (hL:laidMetH Tryz.prog Rows.ewformBackRow.laid W) (hsh:W.ShapedOpen Tryz.prog) :
 Calls Tryz.prog 6 args W fun e W'=>∃ v,e=.returned v∧Rows.ewformBackSpec.post enc Tryz.prog Tryz.f6 false true false false W args v W':=by
 have hW':=hW
 obtain ⟨p,q,hA0,hV,rfl,hfz,hnd⟩:=hW
 have hA:DataW.TrodAll enc Tryz.prog W 0 (fun _=>true) true Tryz.f6.params.toList args.toList ds p:=hA0
 rw [Tryz.params6] at hA hval
 obtain ⟨v0,vs0,d0,ds0,p0,q0,hargs,rfl,rfl,h0,r0⟩:=trodAll_cons hA
 obtain ⟨v1,vs1,d1,ds1,p1,q1,rfl,rfl,rfl,h1,r1⟩:=trodAll_cons r0
 obtain ⟨v2,vs2,d2,ds2,p2,q2,rfl,rfl,rfl,h2,r2⟩:=trodAll_cons r1
 obtain ⟨rfl,rfl,rfl⟩:=trodAll_nil r2
 obtain rfl:args = #[v0,v1,v2]:=by cases args; simp_all
 obtain ⟨rfl,rfl⟩:=trodVars_none hV
 obtain ⟨y0,k0,i0⟩:=qjR hT (t:=3) (s:=.int .i64) rfl rfl (hval 0 3 v0 rfl rfl) h0
 obtain ⟨y1,k1,i1⟩:=qjR hT (t:=3) (s:=.int .i64) rfl rfl (hval 1 3 v1 rfl rfl) h1
 obtain ⟨y2,k2,i2⟩:=qjR hT (t:=22) (s:=.sl .byte) rfl rfl (hval 2 22 v2 rfl rfl) h2
 have hc:=qty (vals:=[v0,v1,v2]) (avs:=[.dat (.int .i64) y0 none,.dat (.int .i64) y1 none,.dat (.sl .byte) y2 none]) (qyD W (Was W) (g_at hL hsh)) Tryz.func6 rfl (by kernel_rfl)
  rfl
  (fun _ _ h=>h) (qcc k0 (qcc k1 (qcc k2 (qip _ _))))
 refine hc.mono fun e W' ⟨he,hg⟩=>?_
 subst he
 simp only [List.append_nil] at hW'
 exact ⟨_,rfl,Go.Av.post_of_below (pv:=[]) hW' (fun _ _ _=>(trodAll_cons_mk (shut_bool Tryz.underlying4 _) trodAll_mk0)) (fun sp hsp=>qos (by kernel_rfl) (by kernel_rfl) (by kernel_rfl) (by decide +kernel) hA0 hg (fun x hx=>hsp x (by simpa using hx))) (fun _ _=>rfl) (by simp)
  hg (ok_one (by kernel_rfl) rfl (okWide_bool_mk Tryz.underlying4 _))⟩

noncomputable def inp:Input:=⟨#[],#[.int .i64 0,.int .i64 0,.slice none 0 0],[]⟩
theorem laid_met (os:Os):laidMet Tryz.prog Rows.ewformBackRow.laid ((qhZ os ⟨#[],#[],[]⟩).forCall (fun _ _=>0) inp).memory :=
 laidMet_of_run' 8 (by kernel_rfl) (by kernel_rfl)
theorem reads (os:Os) {H:Type} (enc:TypeId×Value→H):∃ places,DataW.whole enc Tryz.prog ((qhZ os ⟨#[],#[],[]⟩).forCall (fun _ _=>0) inp).memory Tryz.f6.params.toList Rows.ewformBackSpec.vars false inp.args.toList 8=some ([.lit (.int .i64 0),.lit (.int .i64 0),.nil],[],places) :=
 ⟨[],by kernel_rfl⟩

set_option maxRecDepth 100000 in
theorem lifted (os:Os) (started:os.Started) (H:Type) (enc:TypeId×Value→H) (F:Stop.Interp) :
 ReturnsInHanded {} Tryz.checked os 6 .any ((OpenSpec.ofChange Rows.ewformBackSpec).preRow enc Tryz.prog Tryz.f6 Rows.ewformBackRow.domain false Rows.ewformBackRow.laid) (((OpenSpec.ofChange Rows.ewformBackSpec).at F).post enc Tryz.prog Tryz.f6 false true false false):=by
 obtain ⟨places,hx⟩:=reads os enc
 refine returnsInHanded_of_row (C:=Tryz.checked) (s:=OpenSpec.ofChange Rows.ewformBackSpec) own started (by kernel_rfl) Tryz.func6
  (witness_row_at (enc:=enc) (C:=Tryz.checked) false (qhZ os ⟨#[],#[],[]⟩) inp.args rfl (by kernel_rfl) (by kernel_rfl) (by kernel_rfl)
   (OpenSpec.preRow_of_cond 8 hx (by kernel_rfl) (fun k hk=>by cases hk) (by kernel_rfl) (laid_met os))) ?_
 intro W base args ds gs before hval hW _ _ _ hL hsh _
 exact contract H enc W base args ds gs before hval hW hL hsh

theorem said:Rows.EwformBackSaid :=
 OpenClaim.holds_of_cond 6 Tryz.f6 rfl rfl rfl rfl rfl rfl rfl ⟨rfl,rfl,rfl,rfl,rfl⟩ rfl rfl rfl rfl rfl (by kernel_rfl) Tryz.func6 (by kernel_rfl)
  (of_decide_eq_true (by kernel_rfl)) (by unfold Func.isWrapper; first | (rw [if_pos (by decide +kernel)]; kernel_rfl) | (rw [if_neg (by decide +kernel)]; exact ⟨rfl,rfl⟩))
  (fun os started H enc _ F=>by rw [OpenClaim.pre_eq_preRow]; exact lifted os started H enc F)

/-- No parameter wants a stand-in; the program's own looks are on. -/
theorem plain (f:FuncId) (fn:Func) (hf:Tryz.pinned.checked.prog.funcNamed "sheave/sheavelaw29.EwformBack" = some f) (hfn:Tryz.pinned.checked.prog.funcs[f]?=some fn) :
 true=Tryz.pinned.checked.prog.looks []∧∀ (j:Nat) t,fn.params[j]?=some t→Tryz.pinned.checked.prog.wantsStandIn t=false:=by
 obtain rfl:f=6:=Option.some.inj ((show Tryz.prog.funcNamed "sheave/sheavelaw29.EwformBack" = some 6 by kernel_rfl).symm.trans hf) |>.symm
 obtain rfl:fn=Tryz.f6:=(Option.some.inj (Tryz.func6.symm.trans hfn)).symm
 refine ⟨by kernel_rfl,fun j t ht=>?_⟩
 rw [Tryz.params6] at ht
 have hm:t∈[3,3,22]:=by simpa using Array.mem_of_getElem? ht
 have hall:([3,3,22].all fun u => !Tryz.prog.wantsStandIn u)=true:=by kernel_rfl
 exact (show Tryz.prog.wantsStandIn t=false by simpa using List.all_eq_true.1 hall t hm)
end Go.Proofs.YtopepdfipgfakaaGreatDoor.ewformBack
namespace Go.Proofs.YtopepdfipgfakaaGreatDoor
/-- THE CARD. -/
theorem ewformBackProved:Rows.EwformBackCardSaid :=
 Claim7.holds_tied_plain_at .later [] _ _ _ _ ewformBack.said (fun _ h=>by cases h) (by kernel_rfl) (fun _ h=>by cases h) ewformBack_row_tie rfl ⟨rfl,rfl⟩ (by kernel_rfl) rfl ewformBack.plain (by kernel_rfl)
#print axioms ewformBackProved
end Go.Proofs.YtopepdfipgfakaaGreatDoor
