/-
  Plain facts that the readings' proofs share.
-/
import Derived.Test.YtcfhfjjohmdaoaaDoorAvPCode
import Derived.IntWalk
namespace Go.Av

/-- A loop: whatever a round comes to, if what follows comes to what it is to. -/
theorem loop_rule {σ : Type} {L : Nat → σ → Option AV} {body : (σ → Option AV) → Nat → σ → Option AV} (h0 : ∀ n s, L (n + 1) s = body (L n) n s) {inv : σ → Prop} {μ : σ → Nat} {spec : σ → Option AV}
    (step : ∀ s next n, inv s → (∀ s', inv s' → μ s' < μ s → next s' = spec s') → body next n s = spec s) : ∀ n s, inv s → μ s < n → L n s = spec s
  | 0, s, _, h => by omega
  | n + 1, s, hi, h => by
    rw [h0]
    exact step s (L n) n hi fun s' hi' hm => loop_rule h0 step n s' hi' (by omega)

theorem getD_drop {α : Type} {l : List α} {i : Nat} {d : α} (h : i < l.length) : l.drop i = l.getD i d :: l.drop (i + 1) := by
  rw [List.drop_eq_getElem_cons h]
  simp [List.getD, h]
theorem i64_succ {i : Nat} (h : i < 4611686018427387904) : IntKind.wrap .i64 ((i : Int) + 1) = ((i + 1 : Nat) : Int) := by
  rw [IntWalk.i64_in _ (by omega)]; omega
theorem dec_lt {i n : Nat} : decide ((i : Int) < (n : Int)) = decide (i < n) := by rw [Bool.eq_iff_iff]; simp
theorem dec_nonneg (i : Nat) : decide ((0 : Int) ≤ (i : Int)) = true := by simp
theorem toNat_nat (i : Nat) : Int.toNat (i : Int) = i := by simp

/-- Room. -/
def lenOk {α : Type} (l : List α) : Bool := decide (l.length ≤ 1048576)
theorem lenOk_le {α : Type} {l : List α} (h : lenOk l = true) : l.length ≤ 1048576 := by simpa [lenOk] using h
end Go.Av
