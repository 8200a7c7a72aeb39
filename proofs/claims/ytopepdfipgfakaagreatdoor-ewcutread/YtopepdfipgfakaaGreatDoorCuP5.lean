import Derived.Test.YtopepdfipgfakaaGreatDoorCuP4
namespace Go.Av
set_option linter.unusedVariables false
set_option linter.unusedSimpArgs false
theorem qBv (cs code:Int) (s:List UInt8):(z15 cs code s).1.length≤75:=by
 unfold z15
 generalize z48 cs code++(bif code==1 then z47 s else z46 s)++[63,61]=w
 cases (!(z44 cs)) with
 | true=>exact Nat.zero_le _
 | false =>
  cases ((z45 code==[])||s.isEmpty) with
  | true=>exact Nat.zero_le _
  | false =>
   by_cases h:75 < w.length
   ·rw [dT h]; exact Nat.zero_le _
   ·rw [dF h]; show w.length≤75; omega
theorem qBw (cs code:Int) (p:List Int):(z75 cs code p).1.length≤75:=by
 unfold z75
 cases (z120 cs p).2 != 0 with
 | true=>exact Nat.zero_le _
 | false=>exact qBv _ _ _
theorem qlV (f:List Int→List UInt8×Int) (hf:∀ p,(f p).1.length≤75):∀ l:List (List Int),(qM f l).1.length≤l.length∧∀ x∈(qM f l).1,x.length≤75
 | []=>⟨Nat.le_refl _,fun x hx=>by cases hx⟩
 | p :: l=>by
  obtain ⟨h1,h2⟩:=qlV f hf l
  rw [qaH]
  cases (f p).2 != 0 with
  | true=>exact ⟨Nat.zero_le _,fun x hx=>by cases hx⟩
  | false =>
   cases (qM f l).2 != 0 with
   | true=>exact ⟨Nat.zero_le _,fun x hx=>by cases hx⟩
   | false =>
    refine ⟨Nat.succ_le_succ h1,fun x hx=>?_⟩
    rcases List.mem_cons.1 hx with rfl | hx
    ·exact hf p
    ·exact h2 x hx
theorem qwY (t:List Int) (rm:Int):(z32 t rm).1.length≤t.length∧∀ x∈(z32 t rm).1,x.length≤75:=by
 unfold z32
 cases (z30 t).2.2 != 0 with
 | true=>exact ⟨Nat.zero_le _,fun x hx=>by cases hx⟩
 | false =>
  cases (z28 (z30 t).1 (z30 t).2.1 t rm).2 != 0 with
  | true=>exact ⟨Nat.zero_le _,fun x hx=>by cases hx⟩
  | false =>
   obtain ⟨h1,h2⟩:=qlV _ (qBw (z30 t).1 (z30 t).2.1) (z28 (z30 t).1 (z30 t).2.1 t rm).1
   exact ⟨Nat.le_trans h1 (qqv _ _ _ _).1,h2⟩
theorem qFP:∀ (t0:List Int) (first1:Int),(qFF t0 first1=true)→∃ n,qGB n t0 first1=qyz (z34 t0 first1).1 (z34 t0 first1).2:=fun t rm h=>⟨0,by
 have hl:t.length≤65536:=of_decide_eq_true h
 obtain ⟨h1,h2⟩:=qwY t rm
 unfold qGB z34
 rw [show qku t rm=true from h]
 cases (z32 t rm).2 != 0 with
 | true=>rfl
 | false =>
  have:qsZ (z32 t rm).1 [13,10,32]=true:=by
   unfold qsZ
   rw [dT (by omega),show (List.all (z32 t rm).1 fun s=>decide (s.length≤75))=true from List.all_eq_true.2 (fun x hx=>dT (h2 x hx))]
   rfl
  rw [this]
  rfl⟩
theorem qFQ:∀ (t0:List Int) (first1:Int),(qFG t0 first1=true)→∃ n,qGC n t0 first1=qED (z36 t0 first1):=fun t rm h=>⟨0,by
 unfold qGC z36
 rw [show qku t rm=true from h]
 rfl⟩
end Go.Av
