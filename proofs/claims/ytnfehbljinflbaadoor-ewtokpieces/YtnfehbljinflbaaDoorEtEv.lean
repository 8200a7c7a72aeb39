import Derived.Test.YtnfehbljinflbaaDoorEtEvG
import Derived.Test.YtnfehbljinflbaaDoorEtN
import Derived.Test.YtnfehbljinflbaaDoorProg
import Derived.KernelRfl
namespace Go.Av
open Go.Proofs
set_option maxRecDepth 100000
/-! sheave/sheavelaw32.EwtokPieces -/

noncomputable def E_law32_EwtokPieces : EnvP := ⟨⟨tiOf tis, fnsOf [(6, s_law32_alive), (11, s_ewtok_Pieces), (12, s_ewtok_Kind), (13, s_ewtok_Shown), (14, s_ref32_Pieces), (15, s_law32_same), (16, s_ref32_Shown), (17, s_ref32_Kind), (18, s_ewtok_Words)], cnsOf [], [], 51, (fun x => if x = 5 then some [0, 3, 11, 12, 13] else none), (fun x => if x = 0 then some [0, 3] else if x = 1 then some [0, 3, 11, 12, 13] else none), some [2]⟩, fun _ => none, fun _ => none, fun _ => []⟩
noncomputable def C_law32_EwtokPieces : Code := Tryd.f5.body.getD .skip
noncomputable def R_law32_EwtokPieces : Array ResultVar := Tryd.f5.results
theorem law32_EwtokPieces_l5_ok (K : Ex → Fr → Option AV) : ∀ (n : Nat) (s0 : List UInt8) (words3 : Int) (s11 : List (Int × ((List UInt8) × Unit))) (s12 : Int) (s13 : Int), evLP E_law32_EwtokPieces n (sub C_law32_EwtokPieces [1, 1, 1, 0, 1, 0, 0]) K (frOf [(0, (.dat (.sl .byte) s0 none)), (3, (.dat (.int .i64) words3 none)), (11, (.dat (.sl (.pair (.int .i64) (.pair (.sl .byte) .unit))) s11 (some (11, 27)))), (12, (.dat (.int .i64) s12 none)), (13, (.dat (.int .i64) s13 none))]) = law32_EwtokPieces_l5 (fun s0 words3 => K (.exit 0) (frOf [(0, (.dat (.sl .byte) s0 none)), (3, (.dat (.int .i64) words3 none))])) n s0 words3 s11 s12 s13 := by
  intro n
  induction n with
  | zero => intros; rfl
  | succ n IH =>
  intro s0 words3 s11 s12 s13
  have ih : (fun s0 words3 s11 s12 s13 => evLP E_law32_EwtokPieces n (sub C_law32_EwtokPieces [1, 1, 1, 0, 1, 0, 0]) K (frOf [(0, (.dat (.sl .byte) s0 none)), (3, (.dat (.int .i64) words3 none)), (11, (.dat (.sl (.pair (.int .i64) (.pair (.sl .byte) .unit))) s11 (some (11, 27)))), (12, (.dat (.int .i64) s12 none)), (13, (.dat (.int .i64) s13 none))])) = law32_EwtokPieces_l5 (fun s0 words3 => K (.exit 0) (frOf [(0, (.dat (.sl .byte) s0 none)), (3, (.dat (.int .i64) words3 none))])) n := by
    funext s0 words3 s11 s12 s13
    exact IH s0 words3 s11 s12 s13
  show _ = law32_EwtokPieces_l5_b (fun s0 words3 => K (.exit 0) (frOf [(0, (.dat (.sl .byte) s0 none)), (3, (.dat (.int .i64) words3 none))])) (law32_EwtokPieces_l5 (fun s0 words3 => K (.exit 0) (frOf [(0, (.dat (.sl .byte) s0 none)), (3, (.dat (.int .i64) words3 none))])) n) n s0 words3 s11 s12 s13
  rw [← ih]
  kernel_rfl
theorem law32_EwtokPieces_k5_0_ok (n : Nat) (s0 : List UInt8) (words3 : Int) : (kBlockP 0 (E_law32_EwtokPieces.cutb 0) (kSeq (evCP E_law32_EwtokPieces (evLP E_law32_EwtokPieces n) (sub C_law32_EwtokPieces [1, 1, 1, 1])) (kFnP E_law32_EwtokPieces R_law32_EwtokPieces))) (.exit 0) (frOf [(0, (.dat (.sl .byte) s0 none)), (3, (.dat (.int .i64) words3 none))]) = law32_EwtokPieces_k5_0 n s0 words3 := by
  kernel_rfl
theorem law32_EwtokPieces_ev (n : Nat) (s0 : List UInt8) (o0 : Lab) : evFnP E_law32_EwtokPieces n C_law32_EwtokPieces R_law32_EwtokPieces [.dat (.sl .byte) s0 o0] = law32_EwtokPieces_sh n s0 := by
  unfold law32_EwtokPieces_sh
  rw [show law32_EwtokPieces_l5 (law32_EwtokPieces_k5_0 n) n = (fun s0 words3 s11 s12 s13 => evLP E_law32_EwtokPieces n (sub C_law32_EwtokPieces [1, 1, 1, 0, 1, 0, 0]) (kBlockP 0 (E_law32_EwtokPieces.cutb 0) (kSeq (evCP E_law32_EwtokPieces (evLP E_law32_EwtokPieces n) (sub C_law32_EwtokPieces [1, 1, 1, 1])) (kFnP E_law32_EwtokPieces R_law32_EwtokPieces))) (frOf [(0, (.dat (.sl .byte) s0 none)), (3, (.dat (.int .i64) words3 none)), (11, (.dat (.sl (.pair (.int .i64) (.pair (.sl .byte) .unit))) s11 (some (11, 27)))), (12, (.dat (.int .i64) s12 none)), (13, (.dat (.int .i64) s13 none))])) from by
    funext s0 words3 s11 s12 s13
    refine Eq.trans ?_ (law32_EwtokPieces_l5_ok (kBlockP 0 (E_law32_EwtokPieces.cutb 0) (kSeq (evCP E_law32_EwtokPieces (evLP E_law32_EwtokPieces n) (sub C_law32_EwtokPieces [1, 1, 1, 1])) (kFnP E_law32_EwtokPieces R_law32_EwtokPieces))) n s0 words3 s11 s12 s13).symm
    rw [show (fun s0 words3 => (kBlockP 0 (E_law32_EwtokPieces.cutb 0) (kSeq (evCP E_law32_EwtokPieces (evLP E_law32_EwtokPieces n) (sub C_law32_EwtokPieces [1, 1, 1, 1])) (kFnP E_law32_EwtokPieces R_law32_EwtokPieces))) (.exit 0) (frOf [(0, (.dat (.sl .byte) s0 none)), (3, (.dat (.int .i64) words3 none))])) = (law32_EwtokPieces_k5_0 n) from by
      funext s0 words3
      exact law32_EwtokPieces_k5_0_ok n s0 words3]
    all_goals kernel_rfl]
  kernel_rfl
theorem law32_EwtokPieces_sound : SoundG G Tryd.prog 5 s_law32_EwtokPieces := by
  refine sound_of_evP' G_stays (E := E_law32_EwtokPieces) (fn := Tryd.f5) (c := C_law32_EwtokPieces) (tyOk_of_table rfl tis_ok) (fun w S hg => ⟨⟨(fns_cons (law32_alive_sound w S hg) (fns_cons (ewtok_Pieces_sound w S hg) (fns_cons (ewtok_Kind_sound w S hg) (fns_cons (ewtok_Shown_sound w S hg) (fns_cons (ref32_Pieces_sound w S hg) (fns_cons (law32_same_sound w S hg) (fns_cons (ref32_Shown_sound w S hg) (fns_cons (ref32_Kind_sound w S hg) (fns_cons (ewtok_Words_sound w S hg) fns_nil))))))))), fun f sp h => cns_nil f sp h w S⟩, gl_none w S hg⟩) follows Tryd.func5 (by kernel_rfl) (by kernel_rfl) (by kernel_rfl) ?_
  intro avs r h
  unfold s_law32_EwtokPieces at h
  split at h
  · simp only [Prod.mk.injEq, true_and] at h
    subst h
    obtain ⟨n, hn⟩ := law32_EwtokPieces_math _
    exact ⟨n, _, (law32_EwtokPieces_ev n _ _).trans hn, .inl rfl⟩
  · cases h
end Go.Av
