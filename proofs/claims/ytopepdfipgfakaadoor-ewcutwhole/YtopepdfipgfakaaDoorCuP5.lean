import Derived.Test.YtopepdfipgfakaaDoorCuP4
namespace Go.Av
set_option linter.unusedVariables false
set_option linter.unusedSimpArgs false
theorem qrk (cs code:Int) (s:List UInt8):(z24 cs code s).1.length≤75:=by
 unfold z24
 generalize z28 cs code++(bif code==1 then z41 s else z40 s)++[63,61]=w
 cases (!(z27 cs)) with
 | true=>exact Nat.zero_le _
 | false =>
  cases ((z39 code==[])||s.isEmpty) with
  | true=>exact Nat.zero_le _
  | false =>
   by_cases h:75 < w.length
   ·rw [dT h]; exact Nat.zero_le _
   ·rw [dF h]; show w.length≤75; omega
theorem qrl (cs code:Int) (p:List Int):(z15 cs code p).1.length≤75:=by
 unfold z15
 cases (z23 cs p).2 != 0 with
 | true=>exact Nat.zero_le _
 | false=>exact qrk _ _ _
theorem qhr (f:List Int→List UInt8×Int) (hf:∀ p,(f p).1.length≤75):∀ l:List (List Int),(qS f l).1.length≤l.length∧∀ x∈(qS f l).1,x.length≤75
 | []=>⟨Nat.le_refl _,fun x hx=>by cases hx⟩
 | p :: l=>by
  obtain ⟨h1,h2⟩:=qhr f hf l
  rw [qbZ]
  cases (f p).2 != 0 with
  | true=>exact ⟨Nat.zero_le _,fun x hx=>by cases hx⟩
  | false =>
   cases (qS f l).2 != 0 with
   | true=>exact ⟨Nat.zero_le _,fun x hx=>by cases hx⟩
   | false =>
    refine ⟨Nat.succ_le_succ h1,fun x hx=>?_⟩
    rcases List.mem_cons.1 hx with rfl | hx
    ·exact hf p
    ·exact h2 x hx
theorem quk (t:List Int) (rm:Int):(z8 t rm).1.length≤t.length∧∀ x∈(z8 t rm).1,x.length≤75:=by
 unfold z8
 cases (z14 t).2.2 != 0 with
 | true=>exact ⟨Nat.zero_le _,fun x hx=>by cases hx⟩
 | false =>
  cases (z5 (z14 t).1 (z14 t).2.1 t rm).2 != 0 with
  | true=>exact ⟨Nat.zero_le _,fun x hx=>by cases hx⟩
  | false =>
   obtain ⟨h1,h2⟩:=qhr _ (qrl (z14 t).1 (z14 t).2.1) (z5 (z14 t).1 (z14 t).2.1 t rm).1
   exact ⟨Nat.le_trans h1 (qgg _ _ _ _).1,h2⟩
theorem qxo:∀ (t0:List Int) (first1:Int),(z7_ok t0 first1=true)→∃ n,z7_sh n t0 first1=quZ (z7 t0 first1).1 (z7 t0 first1).2:=fun t rm h=>⟨0,by
 have hl:t.length≤65536:=of_decide_eq_true h
 obtain ⟨h1,h2⟩:=quk t rm
 unfold z7_sh z7
 rw [show z8_ok t rm=true from h]
 cases (z8 t rm).2 != 0 with
 | true=>rfl
 | false =>
  have:qlx (z8 t rm).1 [13,10,32]=true:=by
   unfold qlx
   rw [dT (by omega),show (List.all (z8 t rm).1 fun s=>decide (s.length≤75))=true from List.all_eq_true.2 (fun x hx=>dT (h2 x hx))]
   rfl
  rw [this]
  rfl⟩
theorem qxp:∀ (t0:List Int) (first1:Int),(z9_ok t0 first1=true)→∃ n,z9_sh n t0 first1=qxD (z9 t0 first1):=fun t rm h=>⟨0,by
 unfold z9_sh z9
 rw [show z8_ok t rm=true from h]
 rfl⟩
end Go.Av
