import Derived.Test.YtejhjmmdachijaaDoorQrEvH
import Derived.Test.YtejhjmmdachijaaDoorQpN
import Derived.Test.YtejhjmmdachijaaDoorProg
import Derived.KernelRfl
namespace Go.Av
set_option linter.unusedSimpArgs false
open Go.Proofs
set_option maxRecDepth 100000
set_option linter.unusedVariables false
noncomputable def E_z7 : EnvP := ⟨⟨tiOf tis, fnsOf [(18, s_z18), (24, s_z24), (25, s_z25), (26, s_z26)], cnsOf [], [], 34, (fun _ => none), (fun _ => none), some [2]⟩, fun _ => none, fun _ => none, fun _ => [], fun _ => none, fun _ => none, fun _ => none⟩
noncomputable def C_z7 : Code := Tryd.f7.body.getD .skip
noncomputable def R_z7 : Array ResultVar := Tryd.f7.results
theorem z7_ev (n : Nat) (l0 : List UInt8) (o0 : Lab) : evFnP E_z7 n C_z7 R_z7 [.dat (.sl .byte) l0 o0] = z7_sh n l0 := by
  kernel_rfl
theorem z7_sound : SoundG G Tryd.prog 7 s_z7 := by
  refine sound_of_evP' G_stays (E := E_z7) (fn := Tryd.f7) (c := C_z7) (tyOk_of_table rfl tis_ok) (fun w S hg => ⟨⟨(fns_cons (z18_sound w S hg) (fns_cons (z24_sound w S hg) (fns_cons (z25_sound w S hg) (fns_cons (z26_sound w S hg) fns_nil)))), fun f sp h => cns_nil f sp h w S⟩, gl_none w S hg, (fun _ _ h => by cases h), (fun f sp h => rns_nil f sp h), (fun f it h => its_nil f it h)⟩) follows Tryd.func7 (by kernel_rfl) (by kernel_rfl) (by kernel_rfl) ?_
  intro avs r h
  unfold s_z7 at h
  split at h
  · simp only [Prod.mk.injEq, true_and] at h
    subst h
    obtain ⟨n, hn⟩ := z7_math _
    exact ⟨n, _, (z7_ev n _ _).trans hn, .inl rfl⟩
  · cases h
noncomputable def E_z8 : EnvP := ⟨⟨tiOf tis, fnsOf [(18, s_z18), (24, s_z24), (27, s_z27)], cnsOf [], [], 48, (fun x => if x = 6 then some [0, 3, 4, 13, 14, 15] else none), (fun x => if x = 0 then some [0, 3, 4] else if x = 1 then some [0, 3, 4, 13, 14, 15] else none), some [2]⟩, fun _ => none, fun _ => none, fun _ => [], fun _ => none, fun _ => none, fun _ => none⟩
noncomputable def C_z8 : Code := Tryd.f8.body.getD .skip
noncomputable def R_z8 : Array ResultVar := Tryd.f8.results
theorem z8_l6_ok (K : Ex → Fr → Option AV) : ∀ (n : Nat) (s0 : List UInt8) (a3 : List UInt8) (plain4 : List UInt8) (s13 : List UInt8) (s14 : Int) (s15 : Int), evLP E_z8 n (sub C_z8 [1, 1, 1, 1, 0, 1, 0, 0]) K (frOf [(0, (.dat (.sl .byte) s0 none)), (3, (.dat (.sl .byte) a3 none)), (4, (.dat (.sl .byte) plain4 (some (4, 5)))), (13, (.dat (.sl .byte) s13 none)), (14, (.dat (.int .i64) s14 none)), (15, (.dat (.int .i64) s15 none))]) = z8_l6 (fun s0 a3 plain4 => K (.exit 0) (frOf [(0, (.dat (.sl .byte) s0 none)), (3, (.dat (.sl .byte) a3 none)), (4, (.dat (.sl .byte) plain4 (some (4, 5))))])) n s0 a3 plain4 s13 s14 s15 := by
  intro n
  induction n with
  | zero => intros; rfl
  | succ n IH =>
  intro s0 a3 plain4 s13 s14 s15
  have ih : (fun s0 a3 plain4 s13 s14 s15 => evLP E_z8 n (sub C_z8 [1, 1, 1, 1, 0, 1, 0, 0]) K (frOf [(0, (.dat (.sl .byte) s0 none)), (3, (.dat (.sl .byte) a3 none)), (4, (.dat (.sl .byte) plain4 (some (4, 5)))), (13, (.dat (.sl .byte) s13 none)), (14, (.dat (.int .i64) s14 none)), (15, (.dat (.int .i64) s15 none))])) = z8_l6 (fun s0 a3 plain4 => K (.exit 0) (frOf [(0, (.dat (.sl .byte) s0 none)), (3, (.dat (.sl .byte) a3 none)), (4, (.dat (.sl .byte) plain4 (some (4, 5))))])) n := by
    funext s0 a3 plain4 s13 s14 s15
    exact IH s0 a3 plain4 s13 s14 s15
  show _ = z8_l6_b (fun s0 a3 plain4 => K (.exit 0) (frOf [(0, (.dat (.sl .byte) s0 none)), (3, (.dat (.sl .byte) a3 none)), (4, (.dat (.sl .byte) plain4 (some (4, 5))))])) (z8_l6 (fun s0 a3 plain4 => K (.exit 0) (frOf [(0, (.dat (.sl .byte) s0 none)), (3, (.dat (.sl .byte) a3 none)), (4, (.dat (.sl .byte) plain4 (some (4, 5))))])) n) n s0 a3 plain4 s13 s14 s15
  rw [← ih]
  kernel_rfl
theorem z8_k6_0_ok (n : Nat) (s0 : List UInt8) (a3 : List UInt8) (plain4 : List UInt8) : (kBlockP 0 (E_z8.cutb 0) (kSeq (evCP E_z8 (evLP E_z8 n) (sub C_z8 [1, 1, 1, 1, 1])) (kFnP E_z8 R_z8))) (.exit 0) (frOf [(0, (.dat (.sl .byte) s0 none)), (3, (.dat (.sl .byte) a3 none)), (4, (.dat (.sl .byte) plain4 (some (4, 5))))]) = z8_k6_0 n s0 a3 plain4 := by
  kernel_rfl
theorem z8_ev (n : Nat) (s0 : List UInt8) (o0 : Lab) : evFnP E_z8 n C_z8 R_z8 [.dat (.sl .byte) s0 o0] = z8_sh n s0 := by
  unfold z8_sh
  rw [show z8_l6 (z8_k6_0 n) n = (fun s0 a3 plain4 s13 s14 s15 => evLP E_z8 n (sub C_z8 [1, 1, 1, 1, 0, 1, 0, 0]) (kBlockP 0 (E_z8.cutb 0) (kSeq (evCP E_z8 (evLP E_z8 n) (sub C_z8 [1, 1, 1, 1, 1])) (kFnP E_z8 R_z8))) (frOf [(0, (.dat (.sl .byte) s0 none)), (3, (.dat (.sl .byte) a3 none)), (4, (.dat (.sl .byte) plain4 (some (4, 5)))), (13, (.dat (.sl .byte) s13 none)), (14, (.dat (.int .i64) s14 none)), (15, (.dat (.int .i64) s15 none))])) from by
    funext s0 a3 plain4 s13 s14 s15
    refine Eq.trans ?_ (z8_l6_ok (kBlockP 0 (E_z8.cutb 0) (kSeq (evCP E_z8 (evLP E_z8 n) (sub C_z8 [1, 1, 1, 1, 1])) (kFnP E_z8 R_z8))) n s0 a3 plain4 s13 s14 s15).symm
    rw [show (fun s0 a3 plain4 => (kBlockP 0 (E_z8.cutb 0) (kSeq (evCP E_z8 (evLP E_z8 n) (sub C_z8 [1, 1, 1, 1, 1])) (kFnP E_z8 R_z8))) (.exit 0) (frOf [(0, (.dat (.sl .byte) s0 none)), (3, (.dat (.sl .byte) a3 none)), (4, (.dat (.sl .byte) plain4 (some (4, 5))))])) = (z8_k6_0 n) from by
      funext s0 a3 plain4
      exact z8_k6_0_ok n s0 a3 plain4]
    all_goals kernel_rfl]
  kernel_rfl
theorem z8_sound : SoundG G Tryd.prog 8 s_z8 := by
  refine sound_of_evP' G_stays (E := E_z8) (fn := Tryd.f8) (c := C_z8) (tyOk_of_table rfl tis_ok) (fun w S hg => ⟨⟨(fns_cons (z18_sound w S hg) (fns_cons (z24_sound w S hg) (fns_cons (z27_sound w S hg) fns_nil))), fun f sp h => cns_nil f sp h w S⟩, gl_none w S hg, (fun _ _ h => by cases h), (fun f sp h => rns_nil f sp h), (fun f it h => its_nil f it h)⟩) follows Tryd.func8 (by kernel_rfl) (by kernel_rfl) (by kernel_rfl) ?_
  intro avs r h
  unfold s_z8 at h
  split at h
  · simp only [Prod.mk.injEq, true_and] at h
    subst h
    obtain ⟨n, hn⟩ := z8_math _
    exact ⟨n, _, (z8_ev n _ _).trans hn, .inl rfl⟩
  · cases h
end Go.Av
