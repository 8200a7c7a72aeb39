import Derived.Test.YtopepdfipgfakaaGreatDoorCuP4
namespace Go.Av
set_option linter.unusedVariables false
set_option linter.unusedSimpArgs false
theorem qyB (cs code:Int) (s:List UInt8):(z15 cs code s).1.length≤75:=by
 unfold z15
 generalize z48 cs code++(bif code==1 then z47 s else z46 s)++[63,61]=w
 cases (!(z44 cs)) with
 | true=>exact Nat.zero_le _
 | false =>
  cases ((z45 code==[])||s.isEmpty) with
  | true=>exact Nat.zero_le _
  | false =>
   by_cases h:75 < w.length
   ·rw [dT h]; exact Nat.zero_le _
   ·rw [dF h]; show w.length≤75; omega
theorem qyC (cs code:Int) (p:List Int):(z75 cs code p).1.length≤75:=by
 unfold z75
 cases (z120 cs p).2 != 0 with
 | true=>exact Nat.zero_le _
 | false=>exact qyB _ _ _
theorem qkz (f:List Int→List UInt8×Int) (hf:∀ p,(f p).1.length≤75):∀ l:List (List Int),(qQ f l).1.length≤l.length∧∀ x∈(qQ f l).1,x.length≤75
 | []=>⟨Nat.le_refl _,fun x hx=>by cases hx⟩
 | p :: l=>by
  obtain ⟨h1,h2⟩:=qkz f hf l
  rw [qcv]
  cases (f p).2 != 0 with
  | true=>exact ⟨Nat.zero_le _,fun x hx=>by cases hx⟩
  | false =>
   cases (qQ f l).2 != 0 with
   | true=>exact ⟨Nat.zero_le _,fun x hx=>by cases hx⟩
   | false =>
    refine ⟨Nat.succ_le_succ h1,fun x hx=>?_⟩
    rcases List.mem_cons.1 hx with rfl | hx
    ·exact hf p
    ·exact h2 x hx
theorem qCq (t:List Int) (rm:Int):(z32 t rm).1.length≤t.length∧∀ x∈(z32 t rm).1,x.length≤75:=by
 unfold z32
 cases (z30 t).2.2 != 0 with
 | true=>exact ⟨Nat.zero_le _,fun x hx=>by cases hx⟩
 | false =>
  cases (z28 (z30 t).1 (z30 t).2.1 t rm).2 != 0 with
  | true=>exact ⟨Nat.zero_le _,fun x hx=>by cases hx⟩
  | false =>
   obtain ⟨h1,h2⟩:=qkz _ (qyC (z30 t).1 (z30 t).2.1) (z28 (z30 t).1 (z30 t).2.1 t rm).1
   exact ⟨Nat.le_trans h1 (qiV _ _ _ _).1,h2⟩
theorem qCr:∀ (t0:List Int) (first1:Int),(qCd t0 first1=true)→∃ n,qCJ n t0 first1=qvA (z34 t0 first1).1 (z34 t0 first1).2:=fun t rm h=>⟨0,by
 have hl:t.length≤65536:=of_decide_eq_true h
 obtain ⟨h1,h2⟩:=qCq t rm
 unfold qCJ z34
 rw [show qmm t rm=true from h]
 cases (z32 t rm).2 != 0 with
 | true=>rfl
 | false =>
  have:qqR (z32 t rm).1 [13,10,32]=true:=by
   unfold qqR
   rw [dT (by omega),show (List.all (z32 t rm).1 fun s=>decide (s.length≤75))=true from List.all_eq_true.2 (fun x hx=>dT (h2 x hx))]
   rfl
  rw [this]
  rfl⟩
theorem qCs:∀ (t0:List Int) (first1:Int),(qCe t0 first1=true)→∃ n,qCK n t0 first1=qBb (z36 t0 first1):=fun t rm h=>⟨0,by
 unfold qCK z36
 rw [show qmm t rm=true from h]
 rfl⟩
end Go.Av
