import Derived.Test.YtkeipcalbbmncaaGreatP1
set_option linter.unusedVariables false
set_option linter.unusedSimpArgs false
set_option maxRecDepth 100000
namespace Go.Proofs.YtkeipcalbbmncaaGreat.Abs
theorem iter_chk {α:Type} {step:α→Option (Nat×α)} {ok:Nat→Bool} {n:Nat} (I:Nat→α→Prop) (E F:α→Prop) (hgo:∀ i s,I i s→i < n→ok i=true→∃ s',step s=some (0,s')∧I (i+1) s')
    (hbad:∀ i s,I i s→i < n→ok i=false→∃ s',step s=some (1,s')∧E s') (hend:∀ s,I n s→∃ s',step s=some (2,s')∧F s') (fuel:Nat) (s:α) (hf:n < fuel) (h0:I 0 s) :
    ∃ q,iter step fuel s=some q∧((q.1=0∧E q.2∧(List.range n).all ok=false)∨(q.1=1∧F q.2∧(List.range n).all ok=true)):=by
  rcases iter_find (step:=step) (bad:=fun i=>!ok i) (n:=n) (k1:=0) (k2:=1) I (fun _=>E) F (fun i s h hi hb=>hgo i s h hi (by simpa using hb)) (fun i s h hi hb=>hbad i s h hi (by simpa using hb)) hend n 0 fuel s (by omega) hf h0 with ⟨j,q,_,hj,hb,_,h1,h2⟩ | ⟨hb,q,h1,h2⟩
  · refine ⟨_,h1,.inl ⟨rfl,h2,?_⟩⟩
    cases ha:(List.range n).all ok with
    | false=>rfl
    | true=>
      have:=List.all_eq_true.1 ha j (List.mem_range.2 hj)
      rw [this] at hb; cases hb
  · refine ⟨_,h1,.inr ⟨rfl,h2,?_⟩⟩
    refine List.all_eq_true.2 fun i hi=>?_
    have:=hb i (by omega) (List.mem_range.1 hi)
    simpa using this
theorem o136 (x lo hi:Int):G136 x lo hi=some (inB x lo hi):=by
  unfold G136 inB
  by_cases h:lo≤x<;>simp [h]
theorem o146 (x lo hi:Int):G146 x lo hi=some (inB x lo hi):=o136 x lo hi
theorem o137 (s:E23) (hi:Int):G137 s hi=some (spB s 0 hi):=by
  unfold G137 spB
  by_cases h:0≤s.1<;>by_cases h':s.1≤s.2.1<;>simp [h,h']
theorem o244 (s:E23) (hi:Int):G244 s hi=some (spB s 0 hi):=o137 s hi
def dE:E126:=(0,(0,(0,(0,()))))
def dK:E257:=(0,(0,((0,(0,())),((0,(0,())),()))))
def dT:E23:=(0,(0,()))
def okE (W:Int) (e:E126):Bool:=inB e.1 0 W&&(inB e.2.1 0 W&&(!(e.1==e.2.1)&&(inB e.2.2.1 0 20000&&inB e.2.2.2.1 (-1) 1000000)))
def okK (n i:Int) (k:E257):Bool:=(k.1==(-1)||inB k.1 (i+1) (n - 1))&&(inB k.2.1 0 20000&&(spB k.2.2.1 0 1000000&&spB k.2.2.2.1 0 1000000))
def risB (l:List Int) (W:Int):Bool:=(List.range l.length).all fun i=>inB (l.getD i 0) 0 W&&(decide (i=0)||decide (l.getD (i - 1) 0 < l.getD i 0))
def mapB (m:E137):Bool:=
  (List.range m.2.1.length).all (fun i=>okE (IntKind.wrap .i64 (m.1 - 1)) (m.2.1.getD i dE))&&((List.range m.2.2.2.2.1.length).all (fun i=>spB (m.2.2.2.2.1.getD i dT) 0 20000)&&((List.range m.2.2.2.2.2.1.length).all (fun i=>okK (m.2.2.2.2.2.1.length:Int) (i:Int) (m.2.2.2.2.2.1.getD i dK)) &&
    (inB m.1 1 10&&(decide ((m.2.1.length:Int)≤12)&&(risB m.2.2.1 (IntKind.wrap .i64 (m.1 - 1))&&(risB m.2.2.2.1 (IntKind.wrap .i64 (m.1 - 1))&&(inB (m.2.2.2.2.1.length:Int) 1 10&&decide ((m.2.2.2.2.2.1.length:Int)≤6))))))))
theorem ltI {i n:Nat} (h:i < n):decide ((i:Int) < (n:Int))=true:=by simp; omega
theorem ltN (n:Nat):decide ((n:Int) < (n:Int))=false:=by simp
theorem map_e (m:E137) (hl:m.2.1.length < 2^40) (b:Bool) (hb0:b=false):∃ q,G43_l0_run ((b,(0,())),(m,()))=some q∧((q.1=0∧q.2.1.1=false∧(List.range m.2.1.length).all (fun i=>okE (IntKind.wrap .i64 (m.1 - 1)) (m.2.1.getD i dE))=false)∨(q.1=1∧(q.2.1.1=false∧q.2.2.1=m)∧(List.range m.2.1.length).all (fun i=>okE (IntKind.wrap .i64 (m.1 - 1)) (m.2.1.getD i dE))=true)):=by
  subst hb0
  refine iter_chk (step:=G43_l0_step) (ok:=fun i=>okE (IntKind.wrap .i64 (m.1 - 1)) (m.2.1.getD i dE)) (fun i s=>s.1.1=false∧s.2.1=m∧s.1.2.1=(i:Int)) (fun s=>s.1.1=false) (fun s=>s.1.1=false∧s.2.1=m) (fun i s h hi hb=>?_) (fun i s h hi hb=>?_) (fun s h=>?_) _ _ (by simp [G43_l0_fuel]) ⟨rfl,rfl,rfl⟩
  · obtain ⟨h0,h1,h2⟩:=h
    simp only [G43_l0_step,h0,h1,h2,inside_lt hi,getD_toNat,ltI hi,cond_true,Option.bind_some,o136]
    rw [show ((0,(0,(0,(0,())))):E126)=dE from rfl]
    unfold okE at hb
    simp only [Bool.and_eq_true] at hb
    obtain ⟨a1,a2,a3,a4,a5⟩:=hb
    simp only [a1,a2,a4,a5,Bool.not_true,cond_false,show ((m.2.1.getD i dE).1==(m.2.1.getD i dE).2.1)=false from by simpa using a3]
    exact ⟨_,rfl,rfl,rfl,wr (by omega) (by omega)⟩
  · obtain ⟨h0,h1,h2⟩:=h
    simp only [G43_l0_step,h0,h1,h2,inside_lt hi,getD_toNat,ltI hi,cond_true,Option.bind_some,o136]
    rw [show ((0,(0,(0,(0,())))):E126)=dE from rfl]
    unfold okE at hb
    revert hb
    cases inB (m.2.1.getD i dE).1 0 (IntKind.wrap .i64 (m.1 - 1))<;>cases inB (m.2.1.getD i dE).2.1 0 (IntKind.wrap .i64 (m.1 - 1))<;>cases (m.2.1.getD i dE).1==(m.2.1.getD i dE).2.1<;>cases inB (m.2.1.getD i dE).2.2.1 0 20000<;>cases inB (m.2.1.getD i dE).2.2.2.1 (-1) 1000000<;>intro hb<;>first | (simp at hb; done) | exact ⟨_,rfl,rfl⟩
  · obtain ⟨h0,h1,h2⟩:=h
    simp only [G43_l0_step,h0,h1,h2,ltN,cond_false]
    exact ⟨_,rfl,rfl,rfl⟩
theorem map_t (m:E137) (hl:m.2.2.2.2.1.length < 2^40):∃ q,G43_l1_run ((false,(0,())),(m,()))=some q∧((q.1=0∧q.2.1.1=false∧(List.range m.2.2.2.2.1.length).all (fun i=>spB (m.2.2.2.2.1.getD i dT) 0 20000)=false)∨(q.1=1∧(q.2.1.1=false∧q.2.2.1=m)∧(List.range m.2.2.2.2.1.length).all (fun i=>spB (m.2.2.2.2.1.getD i dT) 0 20000)=true)):=by
  refine iter_chk (step:=G43_l1_step) (ok:=fun i=>spB (m.2.2.2.2.1.getD i dT) 0 20000) (fun i s=>s.1.1=false∧s.2.1=m∧s.1.2.1=(i:Int)) (fun s=>s.1.1=false) (fun s=>s.1.1=false∧s.2.1=m) (fun i s h hi hb=>?_) (fun i s h hi hb=>?_) (fun s h=>?_) _ _ (by simp [G43_l1_fuel]) ⟨rfl,rfl,rfl⟩
  · obtain ⟨h0,h1,h2⟩:=h
    simp only [G43_l1_step,h0,h1,h2,inside_lt hi,getD_toNat,ltI hi,cond_true,Option.bind_some,o137]
    rw [show ((0,(0,())):E23)=dT from rfl,hb]
    exact ⟨_,rfl,rfl,rfl,wr (by omega) (by omega)⟩
  · obtain ⟨h0,h1,h2⟩:=h
    simp only [G43_l1_step,h0,h1,h2,inside_lt hi,getD_toNat,ltI hi,cond_true,Option.bind_some,o137]
    rw [show ((0,(0,())):E23)=dT from rfl,hb]
    exact ⟨_,rfl,rfl⟩
  · obtain ⟨h0,h1,h2⟩:=h
    simp only [G43_l1_step,h0,h1,h2,ltN,cond_false]
    exact ⟨_,rfl,rfl,rfl⟩
theorem map_k (m:E137) (hl:m.2.2.2.2.2.1.length < 2^40):∃ q,G43_l2_run ((false,(0,())),(m,()))=some q∧((q.1=0∧q.2.1.1=false∧(List.range m.2.2.2.2.2.1.length).all (fun i=>okK (m.2.2.2.2.2.1.length:Int) (i:Int) (m.2.2.2.2.2.1.getD i dK))=false)∨(q.1=1∧(q.2.1.1=false∧q.2.2.1=m)∧(List.range m.2.2.2.2.2.1.length).all (fun i=>okK (m.2.2.2.2.2.1.length:Int) (i:Int) (m.2.2.2.2.2.1.getD i dK))=true)):=by
  refine iter_chk (step:=G43_l2_step) (ok:=fun i=>okK (m.2.2.2.2.2.1.length:Int) (i:Int) (m.2.2.2.2.2.1.getD i dK)) (fun i s=>s.1.1=false∧s.2.1=m∧s.1.2.1=(i:Int)) (fun s=>s.1.1=false) (fun s=>s.1.1=false∧s.2.1=m) (fun i s h hi hb=>?_) (fun i s h hi hb=>?_) (fun s h=>?_) _ _ (by simp [G43_l2_fuel]) ⟨rfl,rfl,rfl⟩
  · obtain ⟨h0,h1,h2⟩:=h
    simp only [G43_l2_step,h0,h1,h2,inside_lt hi,getD_toNat,ltI hi,cond_true,Option.bind_some,o136,o137,bne]
    rw [show ((0,(0,((0,(0,())),((0,(0,())),())))):E257)=dK from rfl,wr (n:=(i:Int)+1) (by omega) (by omega),wr (n:=(m.2.2.2.2.2.1.length:Int) - 1) (by omega) (by omega)]
    unfold okK at hb
    revert hb
    cases (m.2.2.2.2.2.1.getD i dK).1==(-1)<;>cases inB (m.2.2.2.2.2.1.getD i dK).1 ((i:Int)+1) ((m.2.2.2.2.2.1.length:Int) - 1)<;>cases inB (m.2.2.2.2.2.1.getD i dK).2.1 0 20000<;>cases spB (m.2.2.2.2.2.1.getD i dK).2.2.1 0 1000000<;>cases spB (m.2.2.2.2.2.1.getD i dK).2.2.2.1 0 1000000<;>intro hb<;>first | (simp at hb; done) | exact ⟨_,rfl,rfl,rfl,rfl⟩
  · obtain ⟨h0,h1,h2⟩:=h
    simp only [G43_l2_step,h0,h1,h2,inside_lt hi,getD_toNat,ltI hi,cond_true,Option.bind_some,o136,o137,bne]
    rw [show ((0,(0,((0,(0,())),((0,(0,())),())))):E257)=dK from rfl,wr (n:=(i:Int)+1) (by omega) (by omega),wr (n:=(m.2.2.2.2.2.1.length:Int) - 1) (by omega) (by omega)]
    unfold okK at hb
    revert hb
    cases (m.2.2.2.2.2.1.getD i dK).1==(-1)<;>cases inB (m.2.2.2.2.2.1.getD i dK).1 ((i:Int)+1) ((m.2.2.2.2.2.1.length:Int) - 1)<;>cases inB (m.2.2.2.2.2.1.getD i dK).2.1 0 20000<;>cases spB (m.2.2.2.2.2.1.getD i dK).2.2.1 0 1000000<;>cases spB (m.2.2.2.2.2.1.getD i dK).2.2.2.1 0 1000000<;>intro hb<;>first | (simp at hb; done) | exact ⟨_,rfl,rfl⟩
  · obtain ⟨h0,h1,h2⟩:=h
    simp only [G43_l2_step,h0,h1,h2,ltN,cond_false]
    exact ⟨_,rfl,rfl,rfl⟩
theorem o138 (l:List Int) (P:Int) (hl:l.length < 2^40):G138 l P=some (risB l (IntKind.wrap .i64 (P - 1))):=by
  obtain ⟨q,h1,h2⟩:=iter_chk (step:=G138_l0_step) (ok:=fun i=>inB (l.getD i 0) 0 (IntKind.wrap .i64 (P - 1))&&(decide (i=0)||decide (l.getD (i - 1) 0 < l.getD i 0))) (n:=l.length) (fun i s=>s.1.1=l∧s.1.2.1=P∧s.1.2.2.2.1=(i:Int)) (fun s=>s.1.2.2.1=false) (fun s=>True) (fun i s h hi hb=>by
      obtain ⟨h0,h1,h2⟩:=h
      simp only [Bool.and_eq_true] at hb
      simp only [G138_l0_step,h0,h1,h2,inside_lt hi,getD_toNat,ltI hi,cond_true,Option.bind_some,o136,hb.1,Bool.not_true,cond_false]
      cases i with
      | zero=>exact ⟨_,rfl,rfl,rfl,rfl⟩
      | succ i=>
        have e1:decide (((i+1:Nat):Int) > 0)=true:=by simp
        have e2:IntKind.wrap .i64 (((i+1:Nat):Int) - 1)=(i:Int):=by rw [wr (by omega) (by omega)]; omega
        have e3:decide (l.getD (i+1) 0≤l.getD i 0)=false:=by
          have:=hb.2
          simp only [Nat.add_eq_zero_iff,Nat.succ_ne_zero,and_false,decide_false,Bool.false_or,decide_eq_true_eq,Nat.add_sub_cancel] at this
          simp only [decide_eq_false_iff_not]
          omega
        simp only [e1,e2,inside_lt (show i < l.length by omega),cond_true,getD_toNat,e3,cond_false]
        exact ⟨_,rfl,rfl,rfl,wr (by omega) (by omega)⟩) (fun i s h hi hb=>by
      obtain ⟨h0,h1,h2⟩:=h
      simp only [G138_l0_step,h0,h1,h2,inside_lt hi,getD_toNat,ltI hi,cond_true,Option.bind_some,o136]
      cases hin:inB (l.getD i 0) 0 (IntKind.wrap .i64 (P - 1)) with
      | false=>exact ⟨_,rfl,rfl⟩
      | true=>
        rw [hin,Bool.true_and] at hb
        cases i with
        | zero=>simp at hb
        | succ i=>
          have e1:decide (((i+1:Nat):Int) > 0)=true:=by simp
          have e2:IntKind.wrap .i64 (((i+1:Nat):Int) - 1)=(i:Int):=by rw [wr (by omega) (by omega)]; omega
          have e3:decide (l.getD (i+1) 0≤l.getD i 0)=true:=by
            simp only [Nat.add_eq_zero_iff,Nat.succ_ne_zero,and_false,decide_false,Bool.false_or,decide_eq_false_iff_not,Nat.add_sub_cancel] at hb
            simp only [decide_eq_true_eq]
            omega
          simp only [Bool.not_true,cond_false,e1,e2,inside_lt (show i < l.length by omega),cond_true,getD_toNat,e3]
          exact ⟨_,rfl,rfl⟩) (fun s h=>by
      obtain ⟨h0,h1,h2⟩:=h
      simp only [G138_l0_step,h0,h2,ltN,cond_false]
      exact ⟨_,rfl,trivial⟩) (G138_l0_fuel ((l,(P,(false,(0,())))),())) ((l,(P,(false,(0,())))),()) (by simp [G138_l0_fuel]) ⟨rfl,rfl,rfl⟩
  unfold G138 G138_l0_run
  rw [h1]
  rcases h2 with ⟨a1,a2,a3⟩ | ⟨a1,_,a3⟩
  · simp only [Option.bind_some,a1,natK,a2]
    unfold risB
    rw [a3]
  · simp only [Option.bind_some,a1,natK]
    unfold risB
    rw [a3]
theorem o43 (m:E137) (h1:m.2.1.length < 2^40) (h2:m.2.2.1.length < 2^40) (h3:m.2.2.2.1.length < 2^40) (h4:m.2.2.2.2.1.length < 2^40) (h5:m.2.2.2.2.2.1.length < 2^40):G43 m=some (mapB m):=by
  unfold G43 mapB
  obtain ⟨q,e1,e2⟩:=map_e m h1 false rfl
  rw [e1]
  rcases e2 with ⟨a1,a2,a3⟩ | ⟨a1,⟨a2,a4⟩,a3⟩
  · simp only [Option.bind_some,a1,natK,a2,a3,Bool.false_and]
  · simp only [Option.bind_some,a1,natK,a2,a4,a3,Bool.true_and]
    obtain ⟨q,e1,e2⟩:=map_t m h4
    rw [e1]
    rcases e2 with ⟨a1,a2,a3⟩ | ⟨a1,⟨a2,a4⟩,a3⟩
    · simp only [Option.bind_some,a1,natK,a2,a3,Bool.false_and]
    · simp only [Option.bind_some,a1,natK,a2,a4,a3,Bool.true_and]
      obtain ⟨q,e1,e2⟩:=map_k m h5
      rw [e1]
      rcases e2 with ⟨a1,a2,a3⟩ | ⟨a1,⟨a2,a4⟩,a3⟩
      · simp only [Option.bind_some,a1,natK,a2,a3,Bool.false_and]
      · simp only [Option.bind_some,a1,natK,a2,a4,a3,Bool.true_and,o136,o138 _ _ h2,o138 _ _ h3]
        cases inB m.1 1 10<;>cases decide ((m.2.1.length:Int)≤12)<;>cases risB m.2.2.1 (IntKind.wrap .i64 (m.1 - 1))<;>cases risB m.2.2.2.1 (IntKind.wrap .i64 (m.1 - 1))<;>cases inB (m.2.2.2.2.1.length:Int) 1 10<;>simp
end Go.Proofs.YtkeipcalbbmncaaGreat.Abs
set_option linter.unusedVariables false
set_option linter.unusedSimpArgs false
set_option maxRecDepth 100000
namespace Go.Proofs.YtkeipcalbbmncaaGreat.Abs
theorem val_e (m:E137) (hl:m.2.1.length < 2^40):∃ q,G139_l0_run ((false,(m.2.1,((List.length m.2.1:Int),(0,())))),(m,()))=some q∧((q.1=0∧q.2.1.1=false∧(List.range m.2.1.length).all (fun i=>okE (IntKind.wrap .i64 (m.1 - 1)) (m.2.1.getD i dE))=false)∨(q.1=1∧(q.2.1.1=false∧q.2.2.1=m)∧(List.range m.2.1.length).all (fun i=>okE (IntKind.wrap .i64 (m.1 - 1)) (m.2.1.getD i dE))=true)):=by
  refine iter_chk (step:=G139_l0_step) (ok:=fun i=>okE (IntKind.wrap .i64 (m.1 - 1)) (m.2.1.getD i dE)) (fun i s=>s.1.1=false∧s.1.2.1=m.2.1∧s.1.2.2.1=(m.2.1.length:Int)∧s.2.1=m∧s.1.2.2.2.1=(i:Int)) (fun s=>s.1.1=false) (fun s=>s.1.1=false∧s.2.1=m) (fun i s h hi hb=>?_) (fun i s h hi hb=>?_) (fun s h=>?_) _ _ (by simp [G139_l0_fuel]) ⟨rfl,rfl,rfl,rfl,rfl⟩
  · obtain ⟨h0,ha,hb',h1,h2⟩:=h
    simp only [G139_l0_step,h0,ha,hb',h1,h2,inside_lt hi,getD_toNat,ltI hi,cond_true,Option.bind_some,o146]
    rw [show ((0,(0,(0,(0,())))):E126)=dE from rfl]
    unfold okE at hb
    simp only [Bool.and_eq_true] at hb
    obtain ⟨a1,a2,a3,a4,a5⟩:=hb
    simp only [a1,a2,a4,a5,Bool.not_true,cond_false,show ((m.2.1.getD i dE).1==(m.2.1.getD i dE).2.1)=false from by simpa using a3]
    exact ⟨_,rfl,rfl,rfl,rfl,rfl,wr (by omega) (by omega)⟩
  · obtain ⟨h0,ha,hb',h1,h2⟩:=h
    simp only [G139_l0_step,h0,ha,hb',h1,h2,inside_lt hi,getD_toNat,ltI hi,cond_true,Option.bind_some,o146]
    rw [show ((0,(0,(0,(0,())))):E126)=dE from rfl]
    unfold okE at hb
    revert hb
    cases inB (m.2.1.getD i dE).1 0 (IntKind.wrap .i64 (m.1 - 1))<;>cases inB (m.2.1.getD i dE).2.1 0 (IntKind.wrap .i64 (m.1 - 1))<;>cases (m.2.1.getD i dE).1==(m.2.1.getD i dE).2.1<;>cases inB (m.2.1.getD i dE).2.2.1 0 20000<;>cases inB (m.2.1.getD i dE).2.2.2.1 (-1) 1000000<;>intro hb<;>first | (simp at hb; done) | exact ⟨_,rfl,rfl⟩
  · obtain ⟨h0,ha,hb',h1,h2⟩:=h
    simp only [G139_l0_step,h0,ha,hb',h1,h2,ltN,cond_false]
    exact ⟨_,rfl,rfl,rfl⟩
theorem val_k (m:E137) (hl:m.2.2.2.2.2.1.length < 2^40):∃ q,G139_l1_run ((false,(m.2.2.2.2.2.1,((List.length m.2.2.2.2.2.1:Int),(0,())))),(m,()))=some q∧((q.1=0∧q.2.1.1=false∧(List.range m.2.2.2.2.2.1.length).all (fun i=>okK (m.2.2.2.2.2.1.length:Int) (i:Int) (m.2.2.2.2.2.1.getD i dK))=false)∨(q.1=1∧(q.2.1.1=false∧q.2.2.1=m)∧(List.range m.2.2.2.2.2.1.length).all (fun i=>okK (m.2.2.2.2.2.1.length:Int) (i:Int) (m.2.2.2.2.2.1.getD i dK))=true)):=by
  refine iter_chk (step:=G139_l1_step) (ok:=fun i=>okK (m.2.2.2.2.2.1.length:Int) (i:Int) (m.2.2.2.2.2.1.getD i dK)) (fun i s=>s.1.1=false∧s.1.2.1=m.2.2.2.2.2.1∧s.1.2.2.1=(m.2.2.2.2.2.1.length:Int)∧s.2.1=m∧s.1.2.2.2.1=(i:Int)) (fun s=>s.1.1=false) (fun s=>s.1.1=false∧s.2.1=m) (fun i s h hi hb=>?_) (fun i s h hi hb=>?_) (fun s h=>?_) _ _ (by simp [G139_l1_fuel]) ⟨rfl,rfl,rfl,rfl,rfl⟩
  · obtain ⟨h0,ha,hb',h1,h2⟩:=h
    simp only [G139_l1_step,h0,ha,hb',h1,h2,inside_lt hi,getD_toNat,ltI hi,cond_true,Option.bind_some,o146,o244,bne]
    rw [show ((0,(0,((0,(0,())),((0,(0,())),())))):E257)=dK from rfl,wr (n:=(i:Int)+1) (by omega) (by omega),wr (n:=(m.2.2.2.2.2.1.length:Int) - 1) (by omega) (by omega)]
    unfold okK at hb
    revert hb
    cases (m.2.2.2.2.2.1.getD i dK).1==(-1)<;>cases inB (m.2.2.2.2.2.1.getD i dK).1 ((i:Int)+1) ((m.2.2.2.2.2.1.length:Int) - 1)<;>cases inB (m.2.2.2.2.2.1.getD i dK).2.1 0 20000<;>cases spB (m.2.2.2.2.2.1.getD i dK).2.2.1 0 1000000<;>cases spB (m.2.2.2.2.2.1.getD i dK).2.2.2.1 0 1000000<;>intro hb<;>first | (simp at hb; done) | exact ⟨_,rfl,rfl,rfl,rfl,rfl,rfl⟩
  · obtain ⟨h0,ha,hb',h1,h2⟩:=h
    simp only [G139_l1_step,h0,ha,hb',h1,h2,inside_lt hi,getD_toNat,ltI hi,cond_true,Option.bind_some,o146,o244,bne]
    rw [show ((0,(0,((0,(0,())),((0,(0,())),())))):E257)=dK from rfl,wr (n:=(i:Int)+1) (by omega) (by omega),wr (n:=(m.2.2.2.2.2.1.length:Int) - 1) (by omega) (by omega)]
    unfold okK at hb
    revert hb
    cases (m.2.2.2.2.2.1.getD i dK).1==(-1)<;>cases inB (m.2.2.2.2.2.1.getD i dK).1 ((i:Int)+1) ((m.2.2.2.2.2.1.length:Int) - 1)<;>cases inB (m.2.2.2.2.2.1.getD i dK).2.1 0 20000<;>cases spB (m.2.2.2.2.2.1.getD i dK).2.2.1 0 1000000<;>cases spB (m.2.2.2.2.2.1.getD i dK).2.2.2.1 0 1000000<;>intro hb<;>first | (simp at hb; done) | exact ⟨_,rfl,rfl⟩
  · obtain ⟨h0,ha,hb',h1,h2⟩:=h
    simp only [G139_l1_step,h0,ha,hb',h1,h2,ltN,cond_false]
    exact ⟨_,rfl,rfl,rfl⟩
theorem o245 (l:List Int) (P:Int) (hl:l.length < 2^40):G245 l P=some (risB l (IntKind.wrap .i64 (P - 1))):=by
  obtain ⟨q,h1,h2⟩:=iter_chk (step:=G245_l0_step) (ok:=fun i=>inB (l.getD i 0) 0 (IntKind.wrap .i64 (P - 1))&&(decide (i=0)||decide (l.getD (i - 1) 0 < l.getD i 0))) (n:=l.length) (fun i s=>s.1.1=l∧s.1.2.1=P∧s.1.2.2.2.1=l∧s.1.2.2.2.2.1=(l.length:Int)∧s.1.2.2.2.2.2.1=(i:Int)) (fun s=>s.1.2.2.1=false) (fun s=>True) (fun i s h hi hb=>by
      obtain ⟨h0,h1,h3,h4,h2⟩:=h
      simp only [Bool.and_eq_true] at hb
      simp only [G245_l0_step,h0,h1,h2,h3,h4,inside_lt hi,getD_toNat,ltI hi,cond_true,Option.bind_some,o146,hb.1,Bool.not_true,cond_false]
      cases i with
      | zero=>exact ⟨_,rfl,rfl,rfl,rfl,rfl,rfl⟩
      | succ i=>
        have e1:decide (((i+1:Nat):Int) > 0)=true:=by simp
        have e2:IntKind.wrap .i64 (((i+1:Nat):Int) - 1)=(i:Int):=by rw [wr (by omega) (by omega)]; omega
        have e3:decide (l.getD (i+1) 0≤l.getD i 0)=false:=by
          have:=hb.2
          simp only [Nat.add_eq_zero_iff,Nat.succ_ne_zero,and_false,decide_false,Bool.false_or,decide_eq_true_eq,Nat.add_sub_cancel] at this
          simp only [decide_eq_false_iff_not]
          omega
        simp only [e1,e2,inside_lt (show i < l.length by omega),cond_true,getD_toNat,e3,cond_false]
        exact ⟨_,rfl,rfl,rfl,rfl,rfl,wr (by omega) (by omega)⟩) (fun i s h hi hb=>by
      obtain ⟨h0,h1,h3,h4,h2⟩:=h
      simp only [G245_l0_step,h0,h1,h2,h3,h4,inside_lt hi,getD_toNat,ltI hi,cond_true,Option.bind_some,o146]
      cases hin:inB (l.getD i 0) 0 (IntKind.wrap .i64 (P - 1)) with
      | false=>exact ⟨_,rfl,rfl⟩
      | true=>
        rw [hin,Bool.true_and] at hb
        cases i with
        | zero=>simp at hb
        | succ i=>
          have e1:decide (((i+1:Nat):Int) > 0)=true:=by simp
          have e2:IntKind.wrap .i64 (((i+1:Nat):Int) - 1)=(i:Int):=by rw [wr (by omega) (by omega)]; omega
          have e3:decide (l.getD (i+1) 0≤l.getD i 0)=true:=by
            simp only [Nat.add_eq_zero_iff,Nat.succ_ne_zero,and_false,decide_false,Bool.false_or,decide_eq_false_iff_not,Nat.add_sub_cancel] at hb
            simp only [decide_eq_true_eq]
            omega
          simp only [Bool.not_true,cond_false,e1,e2,inside_lt (show i < l.length by omega),cond_true,getD_toNat,e3]
          exact ⟨_,rfl,rfl⟩) (fun s h=>by
      obtain ⟨h0,h1,h3,h4,h2⟩:=h
      simp only [G245_l0_step,h0,h2,h4,ltN,cond_false]
      exact ⟨_,rfl,trivial⟩) (G245_l0_fuel ((l,(P,(false,(l,((List.length l:Int),(0,())))))),())) ((l,(P,(false,(l,((List.length l:Int),(0,())))))),()) (by simp [G245_l0_fuel]) ⟨rfl,rfl,rfl,rfl,rfl⟩
  unfold G245 G245_l0_run
  rw [h1]
  rcases h2 with ⟨a1,a2,a3⟩ | ⟨a1,_,a3⟩
  · simp only [Option.bind_some,a1,natK,a2]
    unfold risB
    rw [a3]
  · simp only [Option.bind_some,a1,natK]
    unfold risB
    rw [a3]
theorem o315 (l:List E23) (hl:l.length < 2^40):G193_v1 l=some (!(List.range l.length).all (fun i=>spB (l.getD i dT) 0 20000)):=by
  obtain ⟨q,h1,h2⟩:=iter_chk (step:=G315_v1_l0_step) (ok:=fun i=>spB (l.getD i dT) 0 20000) (n:=l.length) (fun i s=>s.1.1=l∧s.1.2.2.1=(l.length:Int)∧s.1.2.2.2.1=(i:Int)) (fun s=>0≤s.1.2.1) (fun s=>True) (fun i s h hi hb=>by
      obtain ⟨h0,h1,h2⟩:=h
      simp only [G315_v1_l0_step,h0,h1,h2,inside_lt hi,getD_toNat,ltI hi,cond_true,Option.bind_some,G246,o244]
      rw [show ((0,(0,())):E23)=dT from rfl,hb]
      exact ⟨_,rfl,rfl,rfl,wr (by omega) (by omega)⟩) (fun i s h hi hb=>by
      obtain ⟨h0,h1,h2⟩:=h
      simp only [G315_v1_l0_step,h0,h1,h2,inside_lt hi,getD_toNat,ltI hi,cond_true,Option.bind_some,G246,o244]
      rw [show ((0,(0,())):E23)=dT from rfl,hb]
      exact ⟨_,rfl,by simp⟩) (fun s h=>by
      obtain ⟨h0,h1,h2⟩:=h
      simp only [G315_v1_l0_step,h1,h2,ltN,cond_false]
      exact ⟨_,rfl,trivial⟩) (G315_v1_l0_fuel ((l,(0,((List.length l:Int),(0,())))),())) ((l,(0,((List.length l:Int),(0,())))),()) (by simp [G315_v1_l0_fuel]) ⟨rfl,rfl,rfl⟩
  unfold G193_v1 G315_v1 G315_v1_l0_run
  rw [h1]
  rcases h2 with ⟨a1,a2,a3⟩ | ⟨a1,_,a3⟩
  · simp only [Option.bind_some,a1,natK,a3]
    simp [a2]
  · simp only [Option.bind_some,a1,natK,a3]
    simp
theorem o139 (m:E137) (h1:m.2.1.length < 2^40) (h2:m.2.2.1.length < 2^40) (h3:m.2.2.2.1.length < 2^40) (h4:m.2.2.2.2.1.length < 2^40) (h5:m.2.2.2.2.2.1.length < 2^40):G139 m=some (mapB m):=by
  unfold G139 mapB
  obtain ⟨q,e1,e2⟩:=val_e m h1
  rw [e1]
  rcases e2 with ⟨a1,a2,a3⟩ | ⟨a1,⟨a2,a4⟩,a3⟩
  · simp only [Option.bind_some,a1,natK,a2,a3,Bool.false_and]
  · simp only [Option.bind_some,a1,natK,a2,a4,a3,Bool.true_and]
    obtain ⟨q,e1,e2⟩:=val_k m h5
    rw [e1]
    rcases e2 with ⟨a1,a2,a3⟩ | ⟨a1,⟨a2,a4⟩,a3⟩
    · simp only [Option.bind_some,a1,natK,a2,a3,Bool.false_and,Bool.and_false]
    · simp only [Option.bind_some,a1,natK,a2,a4,a3,Bool.true_and,o146,o245 _ _ h2,o245 _ _ h3,o315 _ h4]
      cases (List.range m.2.2.2.2.1.length).all (fun i=>spB (m.2.2.2.2.1.getD i dT) 0 20000)<;>cases inB m.1 1 10<;>cases decide ((m.2.1.length:Int)≤12)<;>cases risB m.2.2.1 (IntKind.wrap .i64 (m.1 - 1))<;>cases risB m.2.2.2.1 (IntKind.wrap .i64 (m.1 - 1))<;>cases inB (m.2.2.2.2.1.length:Int) 1 10<;>simp
structure OkM (m:E137):Prop where
  pts:1≤m.1∧m.1≤10
  edges:m.2.1.length≤12
  edge:∀ i,i < m.2.1.length→(0≤(m.2.1.getD i dE).1∧(m.2.1.getD i dE).1 < m.1)∧(0≤(m.2.1.getD i dE).2.1∧(m.2.1.getD i dE).2.1 < m.1) ∧ -1≤(m.2.1.getD i dE).2.2.2.1∧(m.2.1.getD i dE).2.2.2.1≤1000000
  wells:∀ i,i < m.2.2.2.1.length→0≤m.2.2.2.1.getD i 0∧m.2.2.2.1.getD i 0 < m.1
  years:1≤m.2.2.2.2.1.length∧m.2.2.2.2.1.length≤10
  thaw:∀ i,i < m.2.2.2.2.1.length→(m.2.2.2.2.1.getD i dT).1≤(m.2.2.2.2.1.getD i dT).2.1
theorem okM_of {m:E137} (h:mapB m=true):OkM m:=by
  unfold mapB at h
  simp only [Bool.and_eq_true,List.all_eq_true,List.mem_range,decide_eq_true_eq] at h
  obtain ⟨e1,e2,e3,e4,e5,e6,e7,e8,e9⟩:=h
  have hp:=inB_spec.1 e4
  have hy:=inB_spec.1 e8
  have hw:IntKind.wrap .i64 (m.1 - 1)=m.1 - 1:=wr (by omega) (by omega)
  rw [hw] at e1 e6 e7
  refine ⟨hp,by omega,fun i hi=>?_,fun i hi=>?_,by omega,fun i hi=>?_⟩
  · have:=e1 i hi
    unfold okE at this
    simp only [Bool.and_eq_true] at this
    obtain ⟨a1,a2,_,_,a5⟩:=this
    have b1:=inB_spec.1 a1
    have b2:=inB_spec.1 a2
    have b5:=inB_spec.1 a5
    omega
  · unfold risB at e7
    have:=List.all_eq_true.1 e7 i (List.mem_range.2 hi)
    simp only [Bool.and_eq_true] at this
    have b:=inB_spec.1 this.1
    omega
  · have:=spB_spec (e2 i hi)
    omega
def damB (m:E137) (l:List Int):Bool:=(List.range l.length).all fun i=>inB (l.getD i 0) 0 ((m.2.1.length:Int) - 1)&&((decide (i=0)||decide (l.getD (i - 1) 0 < l.getD i 0))&&!decide ((m.2.1.getD (Int.toNat (l.getD i 0)) dE).2.2.2.1 < 0))
theorem o44 (m:E137) (l:List Int) (hm:m.2.1.length < 2^40) (hl:l.length < 2^40):G44 m l=some (damB m l):=by
  obtain ⟨q,h1,h2⟩:=iter_chk (step:=G44_l0_step) (ok:=fun i=>inB (l.getD i 0) 0 ((m.2.1.length:Int) - 1)&&((decide (i=0)||decide (l.getD (i - 1) 0 < l.getD i 0))&&!decide ((m.2.1.getD (Int.toNat (l.getD i 0)) dE).2.2.2.1 < 0))) (n:=l.length) (fun i s=>s.1.1=l∧s.2.1=m∧s.1.2.2.1=(i:Int)) (fun s=>s.1.2.1=false) (fun s=>True) (fun i s h hi hb=>by
      obtain ⟨h0,h1,h2⟩:=h
      simp only [Bool.and_eq_true] at hb
      have hr:=inB_spec.1 hb.1
      have hin:(decide (0≤l.getD i 0)&&decide (l.getD i 0 < (m.2.1.length:Int)))=true:=by simp only [Bool.and_eq_true,decide_eq_true_eq]; omega
      simp only [G44_l0_step,h0,h1,h2,inside_lt hi,getD_toNat,ltI hi,cond_true,Option.bind_some,o136,wr (n:=(m.2.1.length:Int) - 1) (by omega) (by omega),hb.1,Bool.not_true,cond_false,hin]
      rw [show ((0,(0,(0,(0,())))):E126)=dE from rfl]
      have e4:decide ((m.2.1.getD (Int.toNat (l.getD i 0)) dE).2.2.2.1 < 0)=false:=by simpa using hb.2.2
      simp only [e4,cond_false]
      cases i with
      | zero=>exact ⟨_,rfl,rfl,rfl,rfl⟩
      | succ i=>
        have e1:decide (((i+1:Nat):Int) > 0)=true:=by simp
        have e2:IntKind.wrap .i64 (((i+1:Nat):Int) - 1)=(i:Int):=by rw [wr (by omega) (by omega)]; omega
        have e3:decide (l.getD (i+1) 0≤l.getD i 0)=false:=by
          have:=hb.2.1
          simp only [Nat.add_eq_zero_iff,Nat.succ_ne_zero,and_false,decide_false,Bool.false_or,decide_eq_true_eq,Nat.add_sub_cancel] at this
          simp only [decide_eq_false_iff_not]
          omega
        simp only [e1,e2,inside_lt (show i < l.length by omega),cond_true,getD_toNat,e3,cond_false]
        exact ⟨_,rfl,rfl,rfl,wr (by omega) (by omega)⟩) (fun i s h hi hb=>by
      obtain ⟨h0,h1,h2⟩:=h
      simp only [G44_l0_step,h0,h1,h2,inside_lt hi,getD_toNat,ltI hi,cond_true,Option.bind_some,o136,wr (n:=(m.2.1.length:Int) - 1) (by omega) (by omega)]
      cases hin:inB (l.getD i 0) 0 ((m.2.1.length:Int) - 1) with
      | false=>exact ⟨_,rfl,rfl⟩
      | true=>
        rw [hin,Bool.true_and] at hb
        have hr:=inB_spec.1 hin
        have hin2:(decide (0≤l.getD i 0)&&decide (l.getD i 0 < (m.2.1.length:Int)))=true:=by simp only [Bool.and_eq_true,decide_eq_true_eq]; omega
        rw [show ((0,(0,(0,(0,())))):E126)=dE from rfl]
        simp only [Bool.not_true,cond_false,hin2,cond_true]
        cases i with
        | zero=>
          simp only [decide_true,Bool.true_or,Bool.true_and] at hb
          have e4:decide ((m.2.1.getD (Int.toNat (l.getD 0 0)) dE).2.2.2.1 < 0)=true:=by simpa using hb
          simp only [e4]
          exact ⟨_,rfl,rfl⟩
        | succ i=>
          have e1:decide (((i+1:Nat):Int) > 0)=true:=by simp
          have e2:IntKind.wrap .i64 (((i+1:Nat):Int) - 1)=(i:Int):=by rw [wr (by omega) (by omega)]; omega
          simp only [e1,e2,inside_lt (show i < l.length by omega),cond_true,getD_toNat]
          cases e3:decide (l.getD (i+1) 0≤l.getD i 0) with
          | true=>exact ⟨_,rfl,rfl⟩
          | false=>
            have e5:decide (l.getD i 0 < l.getD (i+1) 0)=true:=by
              simp only [decide_eq_false_iff_not] at e3
              simp only [decide_eq_true_eq]
              omega
            simp only [Nat.add_sub_cancel,e5,Bool.or_true,Bool.true_and] at hb
            have e4:decide ((m.2.1.getD (Int.toNat (l.getD (i+1) 0)) dE).2.2.2.1 < 0)=true:=by simpa using hb
            simp only [e4,cond_false,cond_true]
            exact ⟨_,rfl,rfl⟩) (fun s h=>by
      obtain ⟨h0,h1,h2⟩:=h
      simp only [G44_l0_step,h0,h2,ltN,cond_false]
      exact ⟨_,rfl,trivial⟩) (G44_l0_fuel ((l,(false,(0,()))),(m,()))) ((l,(false,(0,()))),(m,())) (by simp [G44_l0_fuel]) ⟨rfl,rfl,rfl⟩
  unfold G44 G44_l0_run
  rw [h1]
  rcases h2 with ⟨a1,a2,a3⟩ | ⟨a1,_,a3⟩
  · simp only [Option.bind_some,a1,natK,a2]
    unfold damB
    rw [a3]
  · simp only [Option.bind_some,a1,natK]
    unfold damB
    rw [a3]
theorem o143 {m:E137} (hm:mapB m=true) (h1:m.2.1.length < 2^40) (h2:m.2.2.1.length < 2^40) (h3:m.2.2.2.1.length < 2^40) (h4:m.2.2.2.2.1.length < 2^40) (h5:m.2.2.2.2.2.1.length < 2^40) (l:List Int) (hl:l.length < 2^40) :
    (damB m l=true→∃ b:Int,G143 m l=some (.inr (((),(true,())),(m,((m,(b,())),())))))∧(damB m l=false→G143 m l=some (.inl (((),(false,())),()))):=by
  have hk:=okM_of hm
  have hrs:risB l (IntKind.wrap .i64 ((m.2.1.length:Int) - 1))=(List.range l.length).all fun i=>inB (l.getD i 0) 0 ((m.2.1.length:Int) - 1)&&(decide (i=0)||decide (l.getD (i - 1) 0 < l.getD i 0)):=by
    rw [wr (by omega) (by omega)]; rfl
  unfold G143
  rw [o139 m h1 h2 h3 h4 h5,hm]
  simp only [Option.bind_some,Bool.not_true,cond_false,o245 l _ hl]
  cases hr:risB l (IntKind.wrap .i64 ((m.2.1.length:Int) - 1)) with
  | false=>
    refine ⟨fun hd=>?_,fun _=>rfl⟩
    exfalso
    rw [hrs] at hr
    unfold damB at hd
    have:(List.range l.length).all (fun i=>inB (l.getD i 0) 0 ((m.2.1.length:Int) - 1)&&(decide (i=0)||decide (l.getD (i - 1) 0 < l.getD i 0)))=true:=by
      refine List.all_eq_true.2 fun i hi=>?_
      have:=List.all_eq_true.1 hd i hi
      simp only [Bool.and_eq_true] at this ⊢
      exact ⟨this.1,this.2.1⟩
    rw [hr] at this; cases this
  | true=>
    simp only [Bool.not_true,cond_false]
    have hin:∀ i,i < l.length→0≤l.getD i 0∧l.getD i 0 < (m.2.1.length:Int):=fun i hi=>by
      rw [hrs] at hr
      have:=List.all_eq_true.1 hr i (List.mem_range.2 hi)
      simp only [Bool.and_eq_true] at this
      have:=inB_spec.1 this.1
      omega
    obtain ⟨q,e1,e2⟩:=iter_chk (step:=G143_l0_step) (ok:=fun i=>!decide ((m.2.1.getD (Int.toNat (l.getD i 0)) dE).2.2.2.1 < 0)) (n:=l.length) (fun i s=>s.1.1=false∧s.1.2.1=l∧s.1.2.2.1=(l.length:Int)∧s.1.2.2.2.1=(i:Int)∧s.2.1=m∧s.2.2.1.1=m) (fun s=>s.1.1=false) (fun s=>s.2.1=m∧s.2.2.1.1=m) (fun i s h hi hb=>by
        obtain ⟨h0,h1,h2,h3,h4,h5⟩:=h
        obtain ⟨b0,b1⟩:=hin i hi
        have hin2:(decide (0≤l.getD i 0)&&decide (l.getD i 0 < (m.2.1.length:Int)))=true:=by simp only [Bool.and_eq_true,decide_eq_true_eq]; omega
        have e4:((m.2.1.getD (Int.toNat (l.getD i 0)) dE).2.2.2.1==(-1))=false:=by
          simp only [Bool.not_eq_true',decide_eq_false_iff_not] at hb
          simp only [beq_eq_false_iff_ne,ne_eq]
          omega
        have e5:decide (l.getD i 0 < 0)=false:=by simp only [decide_eq_false_iff_not]; omega
        simp only [G143_l0_step,h0,h1,h2,h3,h4,h5,inside_lt hi,getD_toNat,ltI hi,cond_true,hin2]
        rw [show ((0,(0,(0,(0,())))):E126)=dE from rfl]
        simp only [e4,cond_false,e5,Bool.not_false,cond_true]
        exact ⟨_,rfl,rfl,rfl,rfl,wr (by omega) (by omega),rfl,rfl⟩) (fun i s h hi hb=>by
        obtain ⟨h0,h1,h2,h3,h4,h5⟩:=h
        obtain ⟨b0,b1⟩:=hin i hi
        have hin2:(decide (0≤l.getD i 0)&&decide (l.getD i 0 < (m.2.1.length:Int)))=true:=by simp only [Bool.and_eq_true,decide_eq_true_eq]; omega
        have hlow:=(hk.edge (Int.toNat (l.getD i 0)) (by omega)).2.2.1
        have e4:((m.2.1.getD (Int.toNat (l.getD i 0)) dE).2.2.2.1==(-1))=true:=by
          simp only [Bool.not_eq_false',decide_eq_true_eq] at hb
          simp only [beq_iff_eq]
          omega
        simp only [G143_l0_step,h0,h1,h2,h3,h4,h5,inside_lt hi,getD_toNat,ltI hi,cond_true,hin2]
        rw [show ((0,(0,(0,(0,())))):E126)=dE from rfl]
        simp only [e4,cond_true]
        exact ⟨_,rfl,rfl⟩) (fun s h=>by
        obtain ⟨h0,h1,h2,h3,h4,h5⟩:=h
        simp only [G143_l0_step,h2,h3,ltN,cond_false]
        exact ⟨_,rfl,h4,h5⟩) (G143_l0_fuel ((false,(l,((List.length l:Int),(0,())))),(m,((m,(0,())),())))) ((false,(l,((List.length l:Int),(0,())))),(m,((m,(0,())),()))) (by simp [G143_l0_fuel]) ⟨rfl,rfl,rfl,rfl,rfl,rfl⟩
    unfold G143_l0_run
    rw [e1]
    have hdam:damB m l=(List.range l.length).all fun i=>!decide ((m.2.1.getD (Int.toNat (l.getD i 0)) dE).2.2.2.1 < 0):=by
      unfold damB
      rw [hrs] at hr
      have h6:=List.all_eq_true.1 hr
      rw [Bool.eq_iff_iff]
      simp only [List.all_eq_true]
      refine forall_congr' fun i=>forall_congr' fun hi=>?_
      have:=h6 i hi
      simp only [Bool.and_eq_true] at this ⊢
      exact ⟨fun h=>h.2.2,fun h=>⟨this.1,this.2,h⟩⟩
    rcases e2 with ⟨a1,a2,a3⟩ | ⟨a1,⟨a2,a4⟩,a3⟩
    · rw [← hdam] at a3
      refine ⟨(fun hd=>by rw [a3] at hd; cases hd),fun _=>?_⟩
      simp only [Option.bind_some,a1,natK,a2]
    · rw [← hdam] at a3
      refine ⟨fun _=>⟨q.2.2.2.1.2.1,?_⟩,fun hd=>by rw [a3] at hd; cases hd⟩
      simp only [Option.bind_some,a1,natK,a2]
      have e:q.2.2.2.1=(m,(q.2.2.2.1.2.1,())):=Prod.ext a4 rfl
      rw [← e]
end Go.Proofs.YtkeipcalbbmncaaGreat.Abs
set_option linter.unusedVariables false
set_option linter.unusedSimpArgs false
set_option maxRecDepth 100000
namespace Go.Proofs.YtkeipcalbbmncaaGreat.Abs
def edF (m:E137) (i:Nat):Int:=(m.2.1.getD i dE).1
def edT (m:E137) (i:Nat):Int:=(m.2.1.getD i dE).2.1
def edD (m:E137) (i:Nat):Int:=(m.2.1.getD i dE).2.2.1
def wasB (l:List Int) (p:Int):Bool:=!(List.range l.length).all fun k=>!(p==l.getD k 0)
inductive Rch (m:E137) (op:Nat→Nat→Bool):Nat→Int→Prop where
  | w {y:Nat} {p:Int}:wasB m.2.2.1 p=true→Rch m op y p
  | s {y:Nat} {p:Int}:Rch m op y p→Rch m op (y+1) p
  | e {y i:Nat}:i < m.2.1.length→op y i=true→Rch m op y (edF m i)→Rch m op y (edT m i)
theorem Rch.mono {m:E137} {op op':Nat→Nat→Bool} {n:Nat} (h:∀ y i,y < n→op y i=true→op' y i=true) {y:Nat} {p:Int} (hr:Rch m op y p):y < n→Rch m op' y p:=by
  induction hr with
  | w hw=>exact fun _=>.w hw
  | s _ ih=>exact fun hy=>.s (ih (by omega))
  | e hi ho _ ih=>exact fun hy=>.e hi (h _ _ hy ho) (ih hy)
abbrev ED:=E137×(Int×Unit)
noncomputable def dk (d:ED) (i:Nat):Bool:=(G350 d (i:Int)).getD false
theorem dk_some (d:ED) (i:Nat):G350 d (i:Int)=some (dk d i):=by
  have h:(!decide ((i:Int) < 0))=true:=by simp
  unfold dk G350
  rw [h]
  rfl
noncomputable def opn (d:ED) (th:Int) (i:Nat):Bool:=!dk d i&&decide (th≥edD d.1 i)
noncomputable def scE (d:ED) (th y p:Int) (i:Nat) (s:List Int×List Int):List Int×List Int:=
  bif opn d th i&&(edF d.1 i==p&&decide (s.1.getD (Int.toNat (edT d.1 i)) 0 > y)) then (s.1.set (Int.toNat (edT d.1 i)) y,s.2++[edT d.1 i]) else s
noncomputable def scN (d:ED) (th y p:Int):Nat→List Int×List Int→List Int×List Int
  | 0,s=>s
  | k+1,s=>scE d th y p k (scN d th y p k s)
def cnt (y:Int):List Int→Nat
  | []=>0
  | x::l=>(if x > y then 1 else 0)+cnt y l
theorem cnt_le (y:Int):(l:List Int)→cnt y l≤l.length
  | []=>Nat.le_refl _
  | x::l=>by
    have:=cnt_le y l
    simp only [cnt,List.length_cons]
    split<;>omega
theorem cnt_set (y:Int):{l:List Int}→{j:Nat}→j < l.length→l.getD j 0 > y→cnt y (l.set j y)+1=cnt y l
  | [],j,h,_=>by simp at h
  | x::l,0,_,h=>by
    have h':x > y:=by simpa using h
    simp [cnt,h']
    omega
  | x::l,j+1,hj,h=>by
    have:=cnt_set y (l:=l) (j:=j) (by simpa using hj) (by simpa using h)
    simp only [List.set_cons_succ,cnt]
    omega
theorem getD_set (l:List Int) (j k:Nat) (x:Int):(l.set j x).getD k 0=if j=k∧k < l.length then x else l.getD k 0:=by
  rw [List.getD_eq_getElem?_getD,List.getElem?_set,List.getD_eq_getElem?_getD]
  by_cases h:j=k
  · subst h
    by_cases hl:j < l.length
    · simp [hl]
    · simp [hl]
  · simp [h]
structure Sc (d:ED) (th y p:Int) (P k:Nat) (s t:List Int×List Int):Prop where
  len:t.1.length=P
  val:∀ j,j < P→t.1.getD j 0=s.1.getD j 0∨(s.1.getD j 0 > y∧t.1.getD j 0=y∧(j:Int)∈t.2∧∃ i,i < k∧opn d th i=true∧edF d.1 i=p∧edT d.1 i=(j:Int))
  old:∀ x,x∈s.2→x∈t.2
  new:∀ x,x∈t.2→x∈s.2∨(0≤x∧x < (P:Int)∧t.1.getD (Int.toNat x) 0≤y)
  done:∀ i,i < k→opn d th i=true→edF d.1 i=p→t.1.getD (Int.toNat (edT d.1 i)) 0≤y
  size:t.2.length+cnt y t.1=s.2.length+cnt y s.1
theorem sc_spec {d:ED} {th y p:Int} {P:Nat} {s:List Int×List Int} (hP:s.1.length=P) (hT:∀ i,i < d.1.2.1.length→0≤edT d.1 i∧edT d.1 i < (P:Int)):∀ k,k≤d.1.2.1.length→Sc d th y p P k s (scN d th y p k s)
  | 0,_=>⟨hP,fun j _=>.inl rfl,fun _ h=>h,fun _ h=>.inl h,fun i hi=>by omega,rfl⟩
  | k+1,hk=>by
    have ih:=sc_spec (th:=th) (y:=y) (p:=p) hP hT k (by omega)
    obtain ⟨t0,t1⟩:=hT k (by omega)
    simp only [scN]
    generalize scN d th y p k s=t at ih ⊢
    unfold scE
    cases hb:opn d th k&&(edF d.1 k==p&&decide (t.1.getD (Int.toNat (edT d.1 k)) 0 > y)) with
    | false=>
      simp only [cond_false]
      refine ⟨ih.len,fun j hj=>?_,ih.old,ih.new,fun i hi ho hf=>?_,ih.size⟩
      · rcases ih.val j hj with h | ⟨h1,h2,h3,i,h4,h5⟩
        · exact .inl h
        · exact .inr ⟨h1,h2,h3,i,by omega,h5⟩
      · rcases Nat.lt_or_ge i k with h | h
        · exact ih.done i h ho hf
        · have:i=k:=by omega
          subst this
          rw [ho,Bool.true_and,show (edF d.1 i==p)=true from by simpa using hf,Bool.true_and] at hb
          simp only [decide_eq_false_iff_not] at hb
          omega
    | true=>
      simp only [cond_true]
      simp only [Bool.and_eq_true,beq_iff_eq,decide_eq_true_eq] at hb
      obtain ⟨ho,hf,hgt⟩:=hb
      have htl:Int.toNat (edT d.1 k) < P:=by omega
      have hget:∀ j,(t.1.set (Int.toNat (edT d.1 k)) y).getD j 0=if Int.toNat (edT d.1 k)=j∧j < P then y else t.1.getD j 0:=fun j=>by rw [getD_set,ih.len]
      have hle:∀ j,j < P→(t.1.set (Int.toNat (edT d.1 k)) y).getD j 0≤y∨(t.1.set (Int.toNat (edT d.1 k)) y).getD j 0=t.1.getD j 0:=fun j hj=>by
        rw [hget]
        split
        · exact .inl (Int.le_refl _)
        · exact .inr rfl
      refine ⟨by simp [ih.len],fun j hj=>?_,fun x hx=>by simp [ih.old x hx],fun x hx=>?_,fun i hi hoi hfi=>?_,?_⟩
      · rw [hget]
        by_cases hjk:Int.toNat (edT d.1 k)=j
        · rw [if_pos ⟨hjk,hj⟩]
          refine .inr ⟨?_,rfl,by simp; exact .inr (by omega),k,by omega,ho,hf,by omega⟩
          rcases ih.val j hj with h | ⟨h1,_⟩
          · rw [← h,← hjk]; exact hgt
          · exact h1
        · rw [if_neg (fun h=>hjk h.1)]
          rcases ih.val j hj with h | ⟨h1,h2,h3,i,h4,h5⟩
          · exact .inl h
          · exact .inr ⟨h1,h2,by simp [h3],i,by omega,h5⟩
      · simp only [List.mem_append,List.mem_singleton] at hx
        rcases hx with hx | rfl
        · rcases ih.new x hx with h | ⟨h1,h2,h3⟩
          · exact .inl h
          · refine .inr ⟨h1,h2,?_⟩
            rcases hle (Int.toNat x) (by omega) with h | h
            · exact h
            · rw [h]; exact h3
        · refine .inr ⟨t0,t1,?_⟩
          rw [hget,if_pos ⟨rfl,htl⟩]
          exact Int.le_refl _
      · rcases Nat.lt_or_ge i k with h | h
        · have h1:=ih.done i h hoi hfi
          obtain ⟨u0,u1⟩:=hT i (by omega)
          rcases hle (Int.toNat (edT d.1 i)) (by omega) with h2 | h2
          · exact h2
          · rw [h2]; exact h1
        · have:i=k:=by omega
          subst this
          rw [hget,if_pos ⟨rfl,htl⟩]
          exact Int.le_refl _
      · have:=cnt_set y (l:=t.1) (j:=Int.toNat (edT d.1 k)) (by rw [ih.len]; exact htl) hgt
        have:=ih.size
        simp only [List.length_append,List.length_singleton]
        omega
theorem r0_147 {d:ED} {th y p:Int} {P i:Nat} {out q:List Int} (hlen:out.length=P) (hT:0≤edT d.1 i∧edT d.1 i < (P:Int)) (hq:q.length≤1000) (ho:opn d th i=true) :
    G147 (i:Int) (d.1.2.1.getD i dE) (0,UC115) P y p out (q,())=some (true,((0,UC115),(P,(y,(p,((scE d th y p i (out,q)).1,(((scE d th y p i (out,q)).2,()),()))))))):=by
  have hin:(decide (0≤edT d.1 i)&&decide (edT d.1 i < (P:Int)))=true:=by simp only [Bool.and_eq_true,decide_eq_true_eq]; exact hT
  have hin2:decide (Int.toNat (edT d.1 i) < List.length out)=true:=by simp only [decide_eq_true_eq]; omega
  have hput:G253 (edT d.1 i) (q,())=some ((),((q++[edT d.1 i],()),())):=by
    unfold G253
    simp only [lim_ok (show List.length q+List.length [edT d.1 i]≤1000000 by simp; omega),cond_true]
  unfold G147 scE
  rw [ho]
  simp only [show (d.1.2.1.getD i dE).1=edF d.1 i from rfl,show (d.1.2.1.getD i dE).2.1=edT d.1 i from rfl,hin,hin2,hput,cond_true,Option.bind_some,natK,Bool.true_and]
  cases edF d.1 i==p<;>cases decide (List.getD out (Int.toNat (edT d.1 i)) 0 > y)<;>rfl
theorem o349 {d:ED} {th y p:Int} {P:Nat} {out q:List Int} (hlen:out.length=P) (hT:∀ i,i < d.1.2.1.length→0≤edT d.1 i∧edT d.1 i < (P:Int)) (hE:d.1.2.1.length≤12) (hq:q.length≤500) :
    G349 (0,UC115) d th P y p out (q,())=some ((),((0,UC115),(d,(th,(P,(y,(p,((scN d th y p d.1.2.1.length (out,q)).1,(((scN d th y p d.1.2.1.length (out,q)).2,()),()))))))))):=by
  have hql:∀ i,i≤d.1.2.1.length→(scN d th y p i (out,q)).2.length≤1000:=fun i hi=>by
    have:=(sc_spec (th:=th) (y:=y) (p:=p) (s:=(out,q)) hlen hT i hi).size
    have h1:∀ i,(scN d th y p i (out,q)).2.length≤q.length+i:=fun i=>by
      induction i with
      | zero=>exact Nat.le_refl _
      | succ i ih=>
        simp only [scN]
        unfold scE
        generalize scN d th y p i (out,q)=t at ih ⊢
        cases opn d th i&&(edF d.1 i==p&&decide (t.1.getD (Int.toNat (edT d.1 i)) 0 > y)) with
        | false=>simp only [cond_false]; omega
        | true=>simp only [cond_true,List.length_append,List.length_singleton]; omega
    have:=h1 i
    omega
  obtain ⟨s',h1,h2⟩:=iter_all (step:=G349_l0_step) (n:=d.1.2.1.length) (k:=1) (fun i s=>s.1.1=d.1.2.1∧s.1.2.1=(d.1.2.1.length:Int)∧s.1.2.2.1=(i:Int)∧s.2.1.1=0∧s.2.2=(d,(th,(P,(y,(p,((scN d th y p i (out,q)).1,(((scN d th y p i (out,q)).2,()),())))))))) (fun s=>s.2.1.1=0∧s.2.2=(d,(th,(P,(y,(p,((scN d th y p d.1.2.1.length (out,q)).1,(((scN d th y p d.1.2.1.length (out,q)).2,()),()))))))))
    (fun i s h hi=>by
      obtain ⟨a1,a2,a3,a4,a5⟩:=h
      simp only [G349_l0_step,a1,a2,a3,a4,a5,inside_lt hi,getD_toNat,ltI hi,cond_true,dk_some,Option.bind_some]
      rw [show ((0,(0,(0,(0,())))):E126)=dE from rfl]
      have hop:opn d th i=(!dk d i&&decide (th≥(d.1.2.1.getD i dE).2.2.1)):=rfl
      cases hd:dk d i with
      | true=>
        have e0:scN d th y p (i+1) (out,q)=scN d th y p i (out,q):=by
          simp only [scN]
          unfold scE
          rw [hop,hd]
          rfl
        simp only [Bool.not_true,cond_false]
        exact ⟨_,rfl,rfl,rfl,wr (by omega) (by omega),rfl,by rw [e0]⟩
      | false=>
        simp only [Bool.not_false,cond_true]
        cases ht:decide (th≥(d.1.2.1.getD i dE).2.2.1) with
        | false=>
          have e0:scN d th y p (i+1) (out,q)=scN d th y p i (out,q):=by
            simp only [scN]
            unfold scE
            rw [hop,hd,ht]
            rfl
          simp only [cond_false]
          exact ⟨_,rfl,rfl,rfl,wr (by omega) (by omega),rfl,by rw [e0]⟩
        | true=>
          have ho:opn d th i=true:=by rw [hop,hd,ht]; rfl
          have hr:=r0_147 (d:=d) (th:=th) (y:=y) (p:=p) (P:=P) (i:=i) (out:=(scN d th y p i (out,q)).1) (q:=(scN d th y p i (out,q)).2) (sc_spec (th:=th) (y:=y) (p:=p) (s:=(out,q)) hlen hT i (by omega)).len (hT i hi) (hql i (by omega)) ho
          simp only [cond_true,hr,Option.bind_some,Bool.not_true,cond_false]
          exact ⟨_,rfl,rfl,rfl,wr (by omega) (by omega),rfl,rfl⟩)
    (fun s h=>by
      obtain ⟨a1,a2,a3,a4,a5⟩:=h
      simp only [G349_l0_step,a1,a2,a3,a4,a5,ltN,cond_false]
      exact ⟨_,rfl,rfl,rfl⟩)
    (G349_l0_fuel ((d.1.2.1,((List.length d.1.2.1:Int),(0,()))),((0,UC115),(d,(th,(P,(y,(p,(out,((q,()),())))))))))) ((d.1.2.1,((List.length d.1.2.1:Int),(0,()))),((0,UC115),(d,(th,(P,(y,(p,(out,((q,()),()))))))))) (by simp [G349_l0_fuel]) ⟨rfl,rfl,rfl,rfl,rfl⟩
  unfold G349 G349_l0_run
  rw [h1]
  obtain ⟨b1,b2⟩:=h2
  simp only [Option.bind_some,natK,b1,b2]
end Go.Proofs.YtkeipcalbbmncaaGreat.Abs
set_option linter.unusedVariables false
set_option linter.unusedSimpArgs false
set_option maxRecDepth 100000
namespace Go.Proofs.YtkeipcalbbmncaaGreat.Abs
theorem iter_dec {α:Type} {step:α→Option (Nat×α)} {n:Nat} (I:Nat→α→Prop) (E:α→Prop) (h:∀ k s,I k s→(∃ s',step s=some (n+1,s')∧E s')∨(∃ s' k',k' < k∧step s=some (0,s')∧I k' s')):∀ k fuel s,k < fuel→I k s→∃ s',iter step fuel s=some (n,s')∧E s'
  | k,0,s,hf,_=>by omega
  | k,fuel+1,s,hf,hI=>by
    rcases h k s hI with ⟨s',h1,h2⟩ | ⟨s',k',hk,h1,h2⟩
    · exact ⟨s',iter_out h1,h2⟩
    · obtain ⟨t,h3,h4⟩:=iter_dec I E h k' fuel s' (by omega) h2
      exact ⟨t,by rw [iter_one h1,h3],h4⟩
theorem o252 (l:List Int) (p:Int) (hl:l.length < 2^40):G252 l p=some (wasB l p):=by
  obtain ⟨q,e1,e2⟩:=iter_chk (step:=G348_l0_step) (ok:=fun k=>!(p==l.getD k 0)) (n:=l.length) (fun i s=>s.1.1=l∧s.1.2.1=p∧s.1.2.2.2.1=(l.length:Int)∧s.1.2.2.2.2.1=(i:Int)) (fun s=>0≤s.1.2.2.1) (fun _=>True)
    (fun i s h hi hb=>by
      obtain ⟨a1,a2,a3,a4⟩:=h
      have hb':(p==l.getD i 0)=false:=by simpa using hb
      simp only [G348_l0_step,a1,a2,a3,a4,inside_lt hi,getD_toNat,ltI hi,cond_true,hb',cond_false]
      exact ⟨_,rfl,rfl,rfl,rfl,wr (by omega) (by omega)⟩)
    (fun i s h hi hb=>by
      obtain ⟨a1,a2,a3,a4⟩:=h
      have hb':(p==l.getD i 0)=true:=by simpa using hb
      simp only [G348_l0_step,a1,a2,a3,a4,inside_lt hi,getD_toNat,ltI hi,cond_true,hb']
      exact ⟨_,rfl,by simp only; omega⟩)
    (fun s h=>by
      obtain ⟨a1,a2,a3,a4⟩:=h
      simp only [G348_l0_step,a3,a4,ltN,cond_false]
      exact ⟨_,rfl,trivial⟩)
    (G348_l0_fuel ((l,(p,(0,((List.length l:Int),(0,()))))),())) ((l,(p,(0,((List.length l:Int),(0,()))))),()) (by simp [G348_l0_fuel]) ⟨rfl,rfl,rfl,rfl⟩
  unfold G252 G348 G348_l0_run wasB
  rw [e1]
  rcases e2 with ⟨a1,a2,a3⟩ | ⟨a1,_,a3⟩
  · rw [a3]
    simp only [Option.bind_some,a1,natK]
    simp [a2]
  · rw [a3]
    simp only [Option.bind_some,a1,natK]
    simp
theorem put_ok {q:List Int} (x:Int) (hq:q.length≤1000):G253 x (q,())=some ((),((q++[x],()),())):=by
  unfold G253
  simp only [lim_ok (show List.length q+List.length [x]≤1000000 by simp; omega),cond_true]
theorem take_nil:G254 ([],())=some ((0,(false,())),(([],()),())):=rfl
theorem take_cons (x:Int) (q:List Int):G254 (x::q,())=some ((x,(true,())),((q,()),())):=by
  unfold G254
  have h1:((List.length (x::q):Int)==0)=false:=by simp; omega
  have h2:decide ((0:Int) < (List.length (x::q):Int))=true:=by simp
  have h3:decide ((1:Int)≤(List.length (x::q):Int))=true:=by simp; omega
  simp only [h1,h2,h3,cond_false,cond_true,show decide (0≤(0:Int))=true from rfl,show decide (0≤(1:Int))=true from rfl,Bool.true_and]
  rfl
theorem fo_l0 (d:ED) (T:List Int) (P:Nat) (hP:P≤100):∃ s',g147_seep_dyked_foul_l0_run ((d,(T,(((P:Nat):Int),(0,())))),((List.replicate P 0),(P,())))=some (0,s')∧s'.1.1=d∧s'.1.2.1=T∧s'.2.2.1=P∧s'.2.1.length=P∧∀ j,j < P→s'.2.1.getD j 0=(T.length:Int):=by
  have h:=iter_all (step:=g147_seep_dyked_foul_l0_step) (n:=P) (k:=0) (fun i s=>s.1.1=d∧s.1.2.1=T∧s.1.2.2.1=(P:Int)∧s.1.2.2.2.1=(i:Int)∧s.2.2.1=P∧s.2.1.length=P∧∀ j,j < i→s.2.1.getD j 0=(T.length:Int)) (fun s'=>s'.1.1=d∧s'.1.2.1=T∧s'.2.2.1=P∧s'.2.1.length=P∧∀ j,j < P→s'.2.1.getD j 0=(T.length:Int))
    (fun i s h hi=>by
      obtain ⟨a1,a2,a3,a4,a5,a6,a7⟩:=h
      have hil:decide (i < s.2.1.length)=true:=by simp only [decide_eq_true_eq]; omega
      simp only [g147_seep_dyked_foul_l0_step,a1,a2,a3,a4,a5,inside_lt hi,getD_toNat,ltI hi,cond_true,Int.toNat_natCast,hil]
      refine ⟨_,rfl,rfl,rfl,rfl,wr (by omega) (by omega),rfl,by simpa using a6,fun j hj=>?_⟩
      rw [getD_set]
      by_cases hij:i=j
      · rw [if_pos ⟨hij,by omega⟩]
      · rw [if_neg (fun h=>hij h.1)]
        exact a7 j (by omega))
    (fun s h=>by
      obtain ⟨a1,a2,a3,a4,a5,a6,a7⟩:=h
      simp only [g147_seep_dyked_foul_l0_step,a1,a2,a3,a4,a5,ltN,cond_false]
      exact ⟨_,rfl,rfl,rfl,rfl,a6,a7⟩)
    (g147_seep_dyked_foul_l0_fuel ((d,(T,(((P:Nat):Int),(0,())))),((List.replicate P 0),(P,())))) ((d,(T,(((P:Nat):Int),(0,())))),((List.replicate P 0),(P,()))) (by simp [g147_seep_dyked_foul_l0_fuel]) ⟨rfl,rfl,rfl,rfl,rfl,by simp,fun j hj=>by omega⟩
  obtain ⟨s',h1,h2⟩:=h
  exact ⟨s',h1,h2⟩
structure Ini (m:E137) (y:Nat) (P i:Nat) (o t:List Int) (q:List Int):Prop where
  len:t.length=P
  val:∀ j,j < P→t.getD j 0=o.getD j 0∨(t.getD j 0=(y:Int)∧(y:Int)≤o.getD j 0∧wasB m.2.2.1 (j:Int)=true)
  rest:∀ j,i≤j→t.getD j 0=o.getD j 0
  was:∀ j,j < i→wasB m.2.2.1 (j:Int)=true→t.getD j 0≤(y:Int)
  inq:∀ x,x∈q→0≤x∧x < (P:Int)∧t.getD (Int.toNat x) 0≤(y:Int)
  all:∀ j,j < i→t.getD j 0≤(y:Int)→(j:Int)∈q
  size:q.length≤i
theorem ini_put {m:E137} {y P i:Nat} {o t q:List Int} (h:Ini m y P i o t q) (hi:i < P) (hb:t.getD i 0 < (y:Int)∨wasB m.2.2.1 (i:Int)=true):Ini m y P (i+1) o (t.set i (if (y:Int) < t.getD i 0 then (y:Int) else t.getD i 0)) (q++[(i:Int)]):=by
  have hr:=h.rest i (Nat.le_refl _)
  have hg:∀ j,(t.set i (if (y:Int) < t.getD i 0 then (y:Int) else t.getD i 0)).getD j 0=if i=j then (if (y:Int) < t.getD i 0 then (y:Int) else t.getD i 0) else t.getD j 0:=fun j=>by
    rw [getD_set,h.len]
    by_cases hij:i=j
    · subst hij; rw [if_pos ⟨rfl,hi⟩,if_pos rfl]
    · rw [if_neg (fun h=>hij h.1),if_neg hij]
  have hle:(if (y:Int) < t.getD i 0 then (y:Int) else t.getD i 0)≤(y:Int):=by split<;>omega
  refine ⟨by simpa using h.len,fun j hj=>?_,fun j hj=>?_,fun j hj hw=>?_,fun x hx=>?_,fun j hj hv=>?_,by have:=h.size; simp; omega⟩
  · rw [hg]
    by_cases hij:i=j
    · subst hij
      rw [if_pos rfl]
      split
      · rename_i hy
        refine .inr ⟨rfl,by omega,?_⟩
        rcases hb with hb | hb
        · omega
        · exact hb
      · exact .inl hr
    · rw [if_neg hij]; exact h.val j hj
  · rw [hg,if_neg (by omega)]; exact h.rest j (by omega)
  · rw [hg]
    by_cases hij:i=j
    · rw [if_pos hij]; exact hle
    · rw [if_neg hij]; exact h.was j (by omega) hw
  · rw [hg]
    simp only [List.mem_append,List.mem_singleton] at hx
    rcases hx with hx | rfl
    · obtain ⟨b1,b2,b3⟩:=h.inq x hx
      refine ⟨b1,b2,?_⟩
      by_cases hij:i=Int.toNat x
      · rw [if_pos hij]; exact hle
      · rw [if_neg hij]; exact b3
    · exact ⟨by omega,by omega,by rw [if_pos (by omega)]; exact hle⟩
  · rw [hg] at hv
    by_cases hij:i=j
    · subst hij; simp
    · rw [if_neg hij] at hv
      simp [h.all j (by omega) hv]
theorem fo_l2 (d:ED) (th:Int) (T:List Int) (n:Int) (y:Nat) (P:Nat) (o:List Int) (hP:P≤100) (ho:o.length=P) (hw:d.1.2.2.1.length < 2^40) (hlo:∀ j,j < P→o.getD j 0 < (y:Int)∨(y:Int) < o.getD j 0) :
    ∃ s',g147_seep_dyked_foul_l2_run ((d,(th,(T,(n,((y:Int),((P:Int),(0,()))))))),(o,(P,((y:Int),(([],()),())))))=some (0,s')∧s'.1.1=d∧s'.1.2.1=th∧s'.1.2.2.1=T∧s'.1.2.2.2.1=n∧s'.1.2.2.2.2.1=(y:Int)∧s'.2.2.1=P∧s'.2.2.2.1=(y:Int)∧Ini d.1 y P P o s'.2.1 s'.2.2.2.2.1.1:=by
  have h:=iter_all (step:=g147_seep_dyked_foul_l2_step) (n:=P) (k:=0) (fun i s=>s.1.1=d∧s.1.2.1=th∧s.1.2.2.1=T∧s.1.2.2.2.1=n∧s.1.2.2.2.2.1=(y:Int)∧s.1.2.2.2.2.2.1=(P:Int)∧s.1.2.2.2.2.2.2.1=(i:Int)∧s.2.2.1=P∧s.2.2.2.1=(y:Int)∧Ini d.1 y P i o s.2.1 s.2.2.2.2.1.1) (fun s'=>s'.1.1=d∧s'.1.2.1=th∧s'.1.2.2.1=T∧s'.1.2.2.2.1=n∧s'.1.2.2.2.2.1=(y:Int)∧s'.2.2.1=P∧s'.2.2.2.1=(y:Int)∧Ini d.1 y P P o s'.2.1 s'.2.2.2.2.1.1)
    (fun i s h hi=>by
      obtain ⟨a1,a2,a3,a4,a5,a6,a7,a8,a9,hI⟩:=h
      have hil:decide (i < s.2.1.length)=true:=by have:=hI.len; simp only [decide_eq_true_eq]; omega
      have hput:=put_ok (q:=s.2.2.2.2.1.1) (i:Int) (by have:=hI.size; omega)
      have hput':G253 (i:Int) s.2.2.2.2.1=_:=hput
      simp only [g147_seep_dyked_foul_l2_step,a1,a2,a3,a4,a5,a6,a7,a8,a9,inside_lt hi,getD_toNat,ltI hi,cond_true,Int.toNat_natCast,hil,o252 _ _ hw,Option.bind_some,hput']
      cases hc:decide (s.2.1.getD i 0 < (y:Int)) with
      | true=>
        simp only [cond_true]
        exact ⟨_,rfl,rfl,rfl,rfl,rfl,rfl,rfl,wr (by omega) (by omega),rfl,rfl,ini_put hI hi (.inl (by simpa using hc))⟩
      | false=>
        simp only [cond_false]
        cases hb:wasB d.1.2.2.1 (i:Int) with
        | true=>
          simp only [cond_true]
          exact ⟨_,rfl,rfl,rfl,rfl,rfl,rfl,rfl,wr (by omega) (by omega),rfl,rfl,ini_put hI hi (.inr hb)⟩
        | false=>
          simp only [cond_false]
          refine ⟨_,rfl,rfl,rfl,rfl,rfl,rfl,rfl,wr (by omega) (by omega),rfl,rfl,hI.len,hI.val,fun j hj=>hI.rest j (by omega),fun j hj hwj=>?_,hI.inq,fun j hj hv=>?_,Nat.le_succ_of_le hI.size⟩
          · rcases Nat.lt_or_ge j i with hji | hji
            · exact hI.was j hji hwj
            · have:j=i:=by omega
              subst this
              rw [hb] at hwj; cases hwj
          · rcases Nat.lt_or_ge j i with hji | hji
            · exact hI.all j hji hv
            · have:j=i:=by omega
              subst this
              have h1:=hI.rest j (Nat.le_refl _)
              have h2:=hlo j hi
              simp only [decide_eq_false_iff_not] at hc
              have h3:s.2.1.getD j 0≤(y:Int):=hv
              omega)
    (fun s h=>by
      obtain ⟨a1,a2,a3,a4,a5,a6,a7,a8,a9,hI⟩:=h
      simp only [g147_seep_dyked_foul_l2_step,a1,a2,a3,a4,a5,a6,a7,a8,a9,ltN,cond_false]
      exact ⟨_,rfl,rfl,rfl,rfl,rfl,rfl,rfl,rfl,hI⟩)
    (g147_seep_dyked_foul_l2_fuel ((d,(th,(T,(n,((y:Int),((P:Int),(0,()))))))),(o,(P,((y:Int),(([],()),())))))) ((d,(th,(T,(n,((y:Int),((P:Int),(0,()))))))),(o,(P,((y:Int),(([],()),()))))) (by simp [g147_seep_dyked_foul_l2_fuel]) ⟨rfl,rfl,rfl,rfl,rfl,rfl,rfl,rfl,rfl,ho,fun j hj=>.inl rfl,fun j hj=>rfl,fun j hj=>absurd hj (Nat.not_lt_zero _),fun x hx=>absurd hx (by simp),fun j hj=>absurd hj (Nat.not_lt_zero _),Nat.le_refl _⟩
  obtain ⟨s',h1,h2⟩:=h
  exact ⟨s',h1,h2⟩
end Go.Proofs.YtkeipcalbbmncaaGreat.Abs
set_option linter.unusedVariables false
set_option linter.unusedSimpArgs false
set_option maxRecDepth 100000
namespace Go.Proofs.YtkeipcalbbmncaaGreat.Abs
def Clo (d:ED) (th y:Int) (t:List Int) (j:Nat):Prop:=∀ i,i < d.1.2.1.length→opn d th i=true→edF d.1 i=(j:Int)→t.getD (Int.toNat (edT d.1 i)) 0≤y
noncomputable def opT (d:ED) (T:List Int) (y i:Nat):Bool:=opn d (T.getD y 0) i
structure Bfs (d:ED) (T:List Int) (y P:Nat) (o t q:List Int) (more:Bool) (p:Int):Prop where
  len:t.length=P
  val:∀ j,j < P→t.getD j 0=o.getD j 0∨(t.getD j 0=(y:Int)∧(y:Int)≤o.getD j 0)
  snd:∀ j,j < P→t.getD j 0≤(y:Int)→Rch d.1 (opT d T) y (j:Int)
  was:∀ j,j < P→wasB d.1.2.2.1 (j:Int)=true→t.getD j 0≤(y:Int)
  inq:∀ x,x∈q→0≤x∧x < (P:Int)∧t.getD (Int.toNat x) 0≤(y:Int)
  inp:more=true→0≤p∧p < (P:Int)∧t.getD (Int.toNat p) 0≤(y:Int)
  clo:∀ j,j < P→t.getD j 0≤(y:Int)→(more=true∧p=(j:Int))∨(j:Int)∈q∨Clo d (T.getD y 0) y t j
  emp:more=false→q=[]
structure Mid (d:ED) (T:List Int) (y P:Nat) (o t q:List Int):Prop where
  len:t.length=P
  val:∀ j,j < P→t.getD j 0=o.getD j 0∨(t.getD j 0=(y:Int)∧(y:Int)≤o.getD j 0)
  snd:∀ j,j < P→t.getD j 0≤(y:Int)→Rch d.1 (opT d T) y (j:Int)
  was:∀ j,j < P→wasB d.1.2.2.1 (j:Int)=true→t.getD j 0≤(y:Int)
  inq:∀ x,x∈q→0≤x∧x < (P:Int)∧t.getD (Int.toNat x) 0≤(y:Int)
  clo:∀ j,j < P→t.getD j 0≤(y:Int)→(j:Int)∈q∨Clo d (T.getD y 0) y t j
theorem bfs_take {d:ED} {T:List Int} {y P:Nat} {o t q:List Int} (h:Mid d T y P o t q):∃ p more q',G254 (q,())=some ((p,(more,())),((q',()),()))∧Bfs d T y P o t q' more p∧(if more then q'.length+1 else 0)=q.length:=by
  cases q with
  | nil=>exact ⟨0,false,[],take_nil,⟨h.len,h.val,h.snd,h.was,fun x hx=>absurd hx (by simp),fun hm=>absurd hm (by decide),fun j hj hv=>.inr (h.clo j hj hv),fun _=>rfl⟩,rfl⟩
  | cons x q=>
    refine ⟨x,true,q,take_cons x q,⟨h.len,h.val,h.snd,h.was,fun z hz=>h.inq z (by simp [hz]),fun _=>h.inq x (by simp),fun j hj hv=>?_,fun hm=>by cases hm⟩,by simp⟩
    rcases h.clo j hj hv with h1 | h1
    · rcases List.mem_cons.1 h1 with h2 | h2
      · exact .inl ⟨rfl,h2.symm⟩
      · exact .inr (.inl h2)
    · exact .inr (.inr h1)
theorem bfs_scan {d:ED} {T:List Int} {y P:Nat} {o t q:List Int} {p:Int} (hT:∀ i,i < d.1.2.1.length→0≤edT d.1 i∧edT d.1 i < (P:Int)) (h:Bfs d T y P o t q true p):Mid d T y P o (scN d (T.getD y 0) y p d.1.2.1.length (t,q)).1 (scN d (T.getD y 0) y p d.1.2.1.length (t,q)).2∧(scN d (T.getD y 0) y p d.1.2.1.length (t,q)).2.length+cnt y (scN d (T.getD y 0) y p d.1.2.1.length (t,q)).1=q.length+cnt y t:=by
  have hs:=sc_spec (d:=d) (th:=T.getD y 0) (y:=(y:Int)) (p:=p) (s:=(t,q)) h.len hT d.1.2.1.length (Nat.le_refl _)
  generalize scN d (T.getD y 0) y p d.1.2.1.length (t,q)=u at hs
  obtain ⟨p0,p1,p2⟩:=h.inp rfl
  have hle:∀ j,j < P→t.getD j 0≤(y:Int)→u.1.getD j 0≤(y:Int):=fun j hj hv=>by
    rcases hs.val j hj with h1 | ⟨_,h1,_⟩
    · rw [h1]; exact hv
    · omega
  refine ⟨⟨hs.len,fun j hj=>?_,fun j hj hv=>?_,fun j hj hw=>hle j hj (h.was j hj hw),fun x hx=>?_,fun j hj hv=>?_⟩,hs.size⟩
  · rcases hs.val j hj with h1 | ⟨h1,h2,_⟩
    · rw [h1]; exact h.val j hj
    · rcases h.val j hj with h3 | ⟨h3,h4⟩
      · refine .inr ⟨h2,?_⟩
        have:t.getD j 0 > (y:Int):=h1
        omega
      · exact .inr ⟨h2,h4⟩
  · rcases hs.val j hj with h1 | ⟨h1,h2,_,i,hi,ho,hf,ht⟩
    · exact h.snd j hj (by have:u.1.getD j 0=t.getD j 0:=h1; omega)
    · rw [← ht]
      refine .e hi ho ?_
      rw [hf]
      have:=h.snd (Int.toNat p) (by omega) p2
      rwa [show ((Int.toNat p:Nat):Int)=p from by omega] at this
  · rcases hs.new x hx with h1 | h1
    · obtain ⟨b1,b2,b3⟩:=h.inq x h1
      exact ⟨b1,b2,hle _ (by omega) b3⟩
    · exact h1
  · rcases hs.val j hj with h1 | ⟨h1,h2,h3,_⟩
    · have h1':u.1.getD j 0=t.getD j 0:=h1
      rcases h.clo j hj (by omega) with ⟨_,h4⟩ | h4 | h4
      · exact .inr fun i hi ho hf=>hs.done i hi ho (by omega)
      · exact .inl (hs.old _ h4)
      · refine .inr fun i hi ho hf=>?_
        obtain ⟨u0,u1⟩:=hT i hi
        exact hle _ (by omega) (h4 i hi ho hf)
    · exact .inl h3
theorem fo_l3 {d:ED} {T:List Int} {n:Int} {y P:Nat} {o t q:List Int} {more:Bool} {p:Int} (hP:P≤100) (hE:d.1.2.1.length≤12) (hT:∀ i,i < d.1.2.1.length→0≤edT d.1 i∧edT d.1 i < (P:Int)) (hb:Bfs d T y P o t q more p) (hq:q.length≤100) :
    ∃ s',g147_seep_dyked_foul_l3_run ((d,(T.getD y 0,(more,(T,(n,((y:Int),())))))),(t,(P,((y:Int),((q,()),(p,()))))))=some (0,s')∧s'.1.1=d∧s'.1.2.2.2.1=T∧s'.1.2.2.2.2.1=n∧s'.1.2.2.2.2.2.1=(y:Int)∧s'.2.2.1=P∧∃ p',Bfs d T y P o s'.2.1 [] false p':=by
  have h:=iter_dec (step:=g147_seep_dyked_foul_l3_step) (n:=0) (fun k s=>∃ t q more p,s=((d,(T.getD y 0,(more,(T,(n,((y:Int),())))))),(t,(P,((y:Int),((q,()),(p,()))))))∧Bfs d T y P o t q more p∧k=(if more then q.length+1 else 0)+cnt y t∧q.length≤300∧q.length+cnt y t≤300) (fun s'=>s'.1.1=d∧s'.1.2.2.2.1=T∧s'.1.2.2.2.2.1=n∧s'.1.2.2.2.2.2.1=(y:Int)∧s'.2.2.1=P∧∃ p',Bfs d T y P o s'.2.1 [] false p')
    (fun k s hs=>by
      obtain ⟨t,q,more,p,rfl,hb,hk,hq,hqc⟩:=hs
      cases more with
      | false=>
        left
        refine ⟨_,rfl,rfl,rfl,rfl,rfl,rfl,p,?_⟩
        have:=hb.emp rfl
        subst this
        exact hb
      | true=>
        right
        obtain ⟨hm,hsz⟩:=bfs_scan hT hb
        have ho:=o349 (d:=d) (th:=T.getD y 0) (y:=(y:Int)) (p:=p) hb.len hT hE (show q.length≤500 by omega)
        generalize scN d (T.getD y 0) y p d.1.2.1.length (t,q)=u at hm hsz ho
        obtain ⟨p',more',q',h1,h2,h3⟩:=bfs_take hm
        refine ⟨((d,(T.getD y 0,(more',(T,(n,((y:Int),())))))),(u.1,(P,((y:Int),((q',()),(p',())))))),_,?_,?_,u.1,q',more',p',rfl,h2,rfl,?_⟩
        · rw [hk]
          simp only [if_true]
          omega
        · simp only [g147_seep_dyked_foul_l3_step,cond_true,G255,Option.bind_some,ho,h1,beq_self_eq_true]
        · cases more' with
          | false=>rw [h2.emp rfl]; simp only [List.length_nil]; omega
          | true=>simp only [if_true] at h3; omega)
    ((if more then q.length+1 else 0)+cnt y t) 100000 _ (by have:=cnt_le y t; have:=hb.len; split<;>omega) ⟨t,q,more,p,rfl,hb,rfl,by omega,by have:=cnt_le y t; have:=hb.len; omega⟩
  obtain ⟨s',h1,h2⟩:=h
  exact ⟨s',h1,h2⟩
structure Yrs (d:ED) (T:List Int) (P y:Nat) (o:List Int):Prop where
  len:o.length=P
  rng:∀ j,j < P→(0≤o.getD j 0∧o.getD j 0 < (y:Int))∨o.getD j 0=(T.length:Int)
  iff:∀ j,j < P→∀ x:Nat,x < y→(o.getD j 0≤(x:Int)↔Rch d.1 (opT d T) x (j:Int))
theorem yrs_next {d:ED} {T:List Int} {y P:Nat} {o t:List Int} {p:Int} (hy:y < T.length) (hF:∀ i,i < d.1.2.1.length→(0≤edF d.1 i∧edF d.1 i < (P:Int))∧0≤edT d.1 i∧edT d.1 i < (P:Int)) (h:Yrs d T P y o) (hb:Bfs d T y P o t [] false p):Yrs d T P (y+1) t:=by
  have hold:∀ j,j < P→∀ x:Nat,x < y→(t.getD j 0≤(x:Int)↔o.getD j 0≤(x:Int)):=fun j hj x hx=>by
    rcases hb.val j hj with h1 | ⟨h1,h2⟩<;>omega
  have hcl:∀ j,j < P→t.getD j 0≤(y:Int)→Clo d (T.getD y 0) y t j:=fun j hj hv=>by
    rcases hb.clo j hj hv with ⟨h1,_⟩ | h1 | h1
    · cases h1
    · cases h1
    · exact h1
  have hcom:∀ {x:Nat} {a:Int},Rch d.1 (opT d T) x a→x=y→∀ j:Nat,j < P→a=(j:Int)→t.getD j 0≤(y:Int):=fun {x a} hr=>by
    induction hr with
    | w hw=>intro hx j hj ha; subst ha; exact hb.was j hj hw
    | @s x a hr _=>
      intro hx j hj ha
      subst ha
      have h1:=(h.iff j hj x (by omega)).2 hr
      have:=(hold j hj x (by omega)).2 h1
      omega
    | @e x i hi ho hr ih=>
      intro hx j hj ha
      subst hx
      obtain ⟨⟨f0,f1⟩,t0,t1⟩:=hF i hi
      have h1:=ih rfl (Int.toNat (edF d.1 i)) (by omega) (by omega)
      have h2:=hcl _ (by omega) h1 i hi ho (by omega)
      rw [ha] at h2
      simpa using h2
  refine ⟨hb.len,fun j hj=>?_,fun j hj x hx=>?_⟩
  · rcases hb.val j hj with h1 | ⟨h1,h2⟩
    · rcases h.rng j hj with h3 | h3
      · exact .inl (by omega)
      · exact .inr (by omega)
    · exact .inl (by omega)
  · rcases Nat.lt_or_ge x y with hxy | hxy
    · rw [hold j hj x hxy]; exact h.iff j hj x hxy
    · have:x=y:=by omega
      subst this
      exact ⟨hb.snd j hj,fun hr=>hcom hr rfl j hj rfl⟩
theorem bfs_ini {d:ED} {T:List Int} {y P:Nat} {o t q:List Int} (hy:y < T.length) (h:Yrs d T P y o) (hi:Ini d.1 y P P o t q):Mid d T y P o t q:=by
  refine ⟨hi.len,fun j hj=>?_,fun j hj hv=>?_,fun j hj hw=>hi.was j hj hw,hi.inq,fun j hj hv=>.inl (hi.all j hj hv)⟩
  · rcases hi.val j hj with h1 | ⟨h1,h2,_⟩
    · exact .inl h1
    · exact .inr ⟨h1,h2⟩
  · cases hwj:wasB d.1.2.2.1 (j:Int) with
    | true=>exact .w hwj
    | false=>
      rcases hi.val j hj with h1 | ⟨_,_,h3⟩
      · have h1':o.getD j 0≤(y:Int):=by omega
        rcases h.rng j hj with h2 | h2
        · obtain ⟨z,rfl⟩:∃ z,y=z+1:=⟨y - 1,by omega⟩
          exact .s ((h.iff j hj z (by omega)).1 (by omega))
        · omega
      · rw [hwj] at h3; cases h3
theorem o147 {d:ED} (hk:OkM d.1) (hw:d.1.2.2.1.length < 2^40) (T:List Int) (hT:T.length < 2^40):∃ out,g147_seep_dyked_foul d T=some out∧Yrs d T (Int.toNat d.1.1) T.length out:=by
  obtain ⟨k1,k2⟩:=hk.pts
  have hP:Int.toNat d.1.1≤100:=by omega
  have hg:(decide ((0:Int)≤d.1.1)&&decide (d.1.1≤(LIM:Int))&&decide (d.1.1=d.1.1))=true:=by
    have:(LIM:Int)=68719476736:=rfl
    simp only [Bool.and_eq_true,decide_eq_true_eq,this,and_true]
    exact ⟨by omega,by omega⟩
  have hF:∀ i,i < d.1.2.1.length→(0≤edF d.1 i∧edF d.1 i < ((Int.toNat d.1.1:Nat):Int))∧0≤edT d.1 i∧edT d.1 i < ((Int.toNat d.1.1:Nat):Int):=fun i hi=>by
    obtain ⟨a1,a2,_⟩:=hk.edge i hi
    rw [show ((Int.toNat d.1.1:Nat):Int)=d.1.1 from by omega]
    exact ⟨a1,a2⟩
  obtain ⟨s0,b1,b2,b3,b4,b5,b6⟩:=fo_l0 d T (Int.toNat d.1.1) hP
  unfold g147_seep_dyked_foul
  rw [hg,cond_true,b1]
  simp only [Option.bind_some,b2,b3,b4]
  generalize Int.toNat d.1.1=P at hP hF b5 b6 ⊢
  have h:=iter_all (step:=g147_seep_dyked_foul_l1_step) (n:=T.length) (k:=0) (fun y s=>s.1.1=d∧s.1.2.1=T∧s.1.2.2.1=(T.length:Int)∧s.1.2.2.2.1=(y:Int)∧s.2.2.1=P∧Yrs d T P y s.2.1) (fun s=>s.2.2.1=P∧Yrs d T P T.length s.2.1)
    (fun y s h hy=>by
      obtain ⟨a1,a2,a3,a4,a5,hI⟩:=h
      obtain ⟨s2,c1,c2,c3,c4,c5,c6,c7,c8,c9⟩:=fo_l2 d (T.getD y 0) T (T.length:Int) y P s.2.1 hP hI.len hw (fun j hj=>by rcases hI.rng j hj with h | h<;>omega)
      have hm:=bfs_ini hy hI c9
      obtain ⟨p',more',q',d1,d2,d3⟩:=bfs_take hm
      have hqs:=c9.size
      have hql:q'.length≤100:=by
        cases more' with
        | false=>rw [d2.emp rfl]; simp
        | true=>simp only [if_true] at d3; omega
      obtain ⟨s3,e1,e2,e3,e4,e5,e6,p2,e7⟩:=fo_l3 (n:=(T.length:Int)) hP hk.edges (fun i hi=>(hF i hi).2) d2 hql
      have d1':G254 s2.2.2.2.2.1=_:=d1
      simp only [g147_seep_dyked_foul_l1_step,a1,a2,a3,a4,a5,inside_lt hy,getD_toNat,ltI hy,cond_true,c1,Option.bind_some,d1',c2,c3,c4,c5,c6,c7,c8,e1,e2,e3,e4,e5,e6]
      exact ⟨_,rfl,rfl,rfl,rfl,wr (by omega) (by omega),rfl,yrs_next hy hF hI e7⟩)
    (fun s h=>by
      obtain ⟨a1,a2,a3,a4,a5,hI⟩:=h
      simp only [g147_seep_dyked_foul_l1_step,a1,a2,a3,a4,a5,ltN,cond_false]
      exact ⟨_,rfl,rfl,hI⟩)
    (g147_seep_dyked_foul_l1_fuel ((d,(T,((T.length:Int),(0,())))),(s0.2.1,(P,())))) ((d,(T,((T.length:Int),(0,())))),(s0.2.1,(P,()))) (by simp [g147_seep_dyked_foul_l1_fuel]) ⟨rfl,rfl,rfl,rfl,rfl,b5,fun j hj=>.inr (b6 j hj),fun j hj x hx=>absurd hx (Nat.not_lt_zero _)⟩
  obtain ⟨s1,f1,f2,f3⟩:=h
  unfold g147_seep_dyked_foul_l1_run
  rw [f1]
  simp only [Option.bind_some,f2,f3.len,decide_true,cond_true]
  exact ⟨_,rfl,f3⟩
theorem yrs_mono {d:ED} {T U:List Int} {P:Nat} {o u:List Int} (hl:T.length=U.length) (hT:Yrs d T P T.length o) (hU:Yrs d U P U.length u) (h:∀ y,y < T.length→U.getD y 0≤T.getD y 0) (j:Nat) (hj:j < P):o.getD j 0≤u.getD j 0:=by
  rcases hU.rng j hj with ⟨h1,h2⟩ | h1
  · have h3:=(hU.iff j hj (Int.toNat (u.getD j 0)) (by omega)).1 (by omega)
    have h4:Rch d.1 (opT d T) (Int.toNat (u.getD j 0)) (j:Int):=h3.mono (n:=Int.toNat (u.getD j 0)+1) (fun y i hy ho=>by
      unfold opT opn at ho ⊢
      simp only [Bool.and_eq_true,decide_eq_true_eq] at ho ⊢
      have:=h y (by omega)
      exact ⟨ho.1,by omega⟩) (by omega)
    have:=(hT.iff j hj (Int.toNat (u.getD j 0)) (by omega)).2 h4
    omega
  · rcases hT.rng j hj with ⟨_,h2⟩ | h2<;>omega
end Go.Proofs.YtkeipcalbbmncaaGreat.Abs
set_option linter.unusedVariables false
set_option linter.unusedSimpArgs false
set_option maxRecDepth 100000
namespace Go.Proofs.YtkeipcalbbmncaaGreat.Abs
noncomputable def hiT (m:E137):List Int:=(List.range m.2.2.2.2.1.length).map fun k=>(m.2.2.2.2.1.getD k dT).2.1
noncomputable def loT (m:E137):List Int:=(List.range m.2.2.2.2.1.length).map fun k=>(m.2.2.2.2.1.getD k dT).1
theorem hiT_len (m:E137):(hiT m).length=m.2.2.2.2.1.length:=by simp [hiT]
theorem loT_len (m:E137):(loT m).length=m.2.2.2.2.1.length:=by simp [loT]
theorem mapR_getD (f:Nat→Int) {n k:Nat} (h:k < n):((List.range n).map f).getD k 0=f k:=by
  rw [List.getD_eq_getElem?_getD,List.getElem?_map,List.getElem?_range h]
  rfl
theorem hiT_get {m:E137} {k:Nat} (h:k < m.2.2.2.2.1.length):(hiT m).getD k 0=(m.2.2.2.2.1.getD k dT).2.1:=mapR_getD _ h
theorem loT_get {m:E137} {k:Nat} (h:k < m.2.2.2.2.1.length):(loT m).getD k 0=(m.2.2.2.2.1.getD k dT).1:=mapR_getD _ h
theorem o148 (d:ED) (h:d.1.2.2.2.2.1.length≤1000):G148 d=some (hiT d.1):=by
  obtain ⟨q,h1,h2⟩:=iter_all (step:=G148_l0_step) (n:=d.1.2.2.2.2.1.length) (k:=0) (fun i s=>s.1.1=(List.range i).map (fun k=>(d.1.2.2.2.2.1.getD k dT).2.1)∧s.1.2.1=d.1.2.2.2.2.1∧s.1.2.2.1=(d.1.2.2.2.2.1.length:Int)∧s.1.2.2.2.1=(i:Int)) (fun s=>s.1.1=hiT d.1)
    (fun i s h hi=>by
      obtain ⟨a1,a2,a3,a4⟩:=h
      simp only [G148_l0_step,a1,a2,a3,a4,inside_lt hi,getD_toNat,ltI hi,cond_true,lim_ok (show List.length ((List.range i).map (fun k=>(d.1.2.2.2.2.1.getD k dT).2.1))+List.length [(d.1.2.2.2.2.1.getD i (0,(0,()))).2.1]≤1000000 by simp; omega)]
      exact ⟨_,rfl,by simp only [List.range_succ,List.map_append,List.map_cons,List.map_nil]; rfl,rfl,rfl,wr (by omega) (by omega)⟩)
    (fun s h=>by
      obtain ⟨a1,a2,a3,a4⟩:=h
      simp only [G148_l0_step,a1,a2,a3,a4,ltN,cond_false]
      exact ⟨_,rfl,rfl⟩)
    (G148_l0_fuel (([],(d.1.2.2.2.2.1,((List.length d.1.2.2.2.2.1:Int),(0,())))),())) (([],(d.1.2.2.2.2.1,((List.length d.1.2.2.2.2.1:Int),(0,())))),()) (by simp [G148_l0_fuel]) ⟨rfl,rfl,rfl,rfl⟩
  unfold G148 G148_l0_run
  rw [h1]
  simp only [Option.bind_some,h2]
theorem o149 (d:ED) (h:d.1.2.2.2.2.1.length≤1000):G149 d=some (loT d.1):=by
  obtain ⟨q,h1,h2⟩:=iter_all (step:=G149_l0_step) (n:=d.1.2.2.2.2.1.length) (k:=0) (fun i s=>s.1.1=(List.range i).map (fun k=>(d.1.2.2.2.2.1.getD k dT).1)∧s.1.2.1=d.1.2.2.2.2.1∧s.1.2.2.1=(d.1.2.2.2.2.1.length:Int)∧s.1.2.2.2.1=(i:Int)) (fun s=>s.1.1=loT d.1)
    (fun i s h hi=>by
      obtain ⟨a1,a2,a3,a4⟩:=h
      simp only [G149_l0_step,a1,a2,a3,a4,inside_lt hi,getD_toNat,ltI hi,cond_true,lim_ok (show List.length ((List.range i).map (fun k=>(d.1.2.2.2.2.1.getD k dT).1))+List.length [(d.1.2.2.2.2.1.getD i (0,(0,()))).1]≤1000000 by simp; omega)]
      exact ⟨_,rfl,by simp only [List.range_succ,List.map_append,List.map_cons,List.map_nil]; rfl,rfl,rfl,wr (by omega) (by omega)⟩)
    (fun s h=>by
      obtain ⟨a1,a2,a3,a4⟩:=h
      simp only [G149_l0_step,a1,a2,a3,a4,ltN,cond_false]
      exact ⟨_,rfl,rfl⟩)
    (G149_l0_fuel (([],(d.1.2.2.2.2.1,((List.length d.1.2.2.2.2.1:Int),(0,())))),())) (([],(d.1.2.2.2.2.1,((List.length d.1.2.2.2.2.1:Int),(0,())))),()) (by simp [G149_l0_fuel]) ⟨rfl,rfl,rfl,rfl⟩
  unfold G149 G149_l0_run
  rw [h1]
  simp only [Option.bind_some,h2]
noncomputable def fo (d:ED) (T:List Int):List Int:=(g147_seep_dyked_foul d T).getD []
theorem fo_spec {d:ED} (hk:OkM d.1) (hw:d.1.2.2.1.length < 2^40) (T:List Int) (hT:T.length < 2^40):g147_seep_dyked_foul d T=some (fo d T)∧Yrs d T (Int.toNat d.1.1) T.length (fo d T):=by
  obtain ⟨out,h1,h2⟩:=o147 hk hw T hT
  unfold fo
  rw [h1]
  exact ⟨rfl,h2⟩
structure SM (m:E137):Prop where
  ok:OkM m
  was:m.2.2.1.length < 2^40
  wells:m.2.2.2.1.length < 2^40
theorem o47 {m:E137} (hm:SM m) {l:List Int} {b:Int} (hb:G143 m l=some (.inr (((),(true,())),(m,((m,(b,())),()))))) :
    ∃ ys,G47 m l=some (ys,(0,()))∧ys.length=Int.toNat m.1∧∀ j,j < Int.toNat m.1→(ys.getD j dT).1=(fo (m,(b,())) (hiT m)).getD j 0∧(ys.getD j dT).2.1=(fo (m,(b,())) (loT m)).getD j 0:=by
  have hk:=hm.ok
  obtain ⟨k1,k2⟩:=hk.pts
  obtain ⟨y1,y2⟩:=hk.years
  obtain ⟨f1,F1⟩:=fo_spec (d:=(m,(b,()))) hk hm.was (hiT m) (by rw [hiT_len]; omega)
  obtain ⟨f2,F2⟩:=fo_spec (d:=(m,(b,()))) hk hm.was (loT m) (by rw [loT_len]; omega)
  have hl1:=F1.len
  have hl2:=F2.len
  have hs:G47_l0_v1_run ((((),((),())),(0,())),(m,(m,((m,(b,())),(([]::([]::[])),())))))=some (0,((((),((),())),(2,())),(m,(m,((m,(b,())),([fo (m,(b,())) (hiT m),fo (m,(b,())) (loT m)],())))))):=by
    have e1:G47_l0_v1_step ((((),((),())),(0,())),(m,(m,((m,(b,())),(([]::([]::[])),())))))=some (0,((((),((),())),(1,())),(m,(m,((m,(b,())),([fo (m,(b,())) (hiT m),[]],())))))):=by
      simp only [G47_l0_v1_step,o148 (m,(b,())) (show m.2.2.2.2.1.length≤1000 by omega),Option.bind_some,f1]
      rfl
    have e2:G47_l0_v1_step ((((),((),())),(1,())),(m,(m,((m,(b,())),([fo (m,(b,())) (hiT m),[]],())))))=some (0,((((),((),())),(2,())),(m,(m,((m,(b,())),([fo (m,(b,())) (hiT m),fo (m,(b,())) (loT m)],())))))):=by
      simp only [G47_l0_v1_step,o149 (m,(b,())) (show m.2.2.2.2.1.length≤1000 by omega),Option.bind_some,f2]
      rfl
    have e3:G47_l0_v1_step ((((),((),())),(2,())),(m,(m,((m,(b,())),([fo (m,(b,())) (hiT m),fo (m,(b,())) (loT m)],())))))=some (0+1,((((),((),())),(2,())),(m,(m,((m,(b,())),([fo (m,(b,())) (hiT m),fo (m,(b,())) (loT m)],())))))):=rfl
    show iter G47_l0_v1_step (2+1) _=_
    rw [iter_one e1,iter_one e2,iter_out e3]
  obtain ⟨q,h1,h2,h3,h4⟩:=iter_all (step:=G47_l1_v1_step) (n:=Int.toNat m.1) (k:=0) (fun i s=>s.1.1.length=i∧s.1.2.1=m.1∧s.1.2.2.1=(i:Int)∧s.2.2.2.2.1=[fo (m,(b,())) (hiT m),fo (m,(b,())) (loT m)]∧∀ j,j < i→(s.1.1.getD j dT).1=(fo (m,(b,())) (hiT m)).getD j 0∧(s.1.1.getD j dT).2.1=(fo (m,(b,())) (loT m)).getD j 0) (fun s=>True∧s.1.1.length=Int.toNat m.1∧∀ j,j < Int.toNat m.1→(s.1.1.getD j dT).1=(fo (m,(b,())) (hiT m)).getD j 0∧(s.1.1.getD j dT).2.1=(fo (m,(b,())) (loT m)).getD j 0)
    (fun i s h hi=>by
      obtain ⟨a1,a2,a3,a4,a5⟩:=h
      have g0:decide ((i:Int) < m.1)=true:=by simp only [decide_eq_true_eq]; omega
      have g1:(decide (0≤(i:Int))&&decide ((i:Int) < (List.length (fo (m,(b,())) (hiT m)):Int)))=true:=inside_lt (by rw [hl1]; exact hi)
      have g2:(decide (0≤(i:Int))&&decide ((i:Int) < (List.length (fo (m,(b,())) (loT m)):Int)))=true:=inside_lt (by rw [hl2]; exact hi)
      have g3:=lim_ok (a:=s.1.1.length) (b:=List.length [((fo (m,(b,())) (hiT m)).getD i 0,((fo (m,(b,())) (loT m)).getD i 0,()))]) (by simp; omega)
      simp only [G47_l1_v1_step,a2,a3,a4,g0,cond_true,show List.getD [fo (m,(b,())) (hiT m),fo (m,(b,())) (loT m)] (Int.toNat 0) []=fo (m,(b,())) (hiT m) from rfl,show List.getD [fo (m,(b,())) (hiT m),fo (m,(b,())) (loT m)] (Int.toNat 1) []=fo (m,(b,())) (loT m) from rfl,g1,g2,getD_toNat,g3]
      refine ⟨_,rfl,by simp [a1],rfl,wr (by omega) (by omega),rfl,fun j hj=>?_⟩
      rcases Nat.lt_or_ge j i with hji | hji
      · have:(s.1.1++[((fo (m,(b,())) (hiT m)).getD i 0,((fo (m,(b,())) (loT m)).getD i 0,()))]).getD j dT=s.1.1.getD j dT:=by
          simp only [List.getD_eq_getElem?_getD,List.getElem?_append_left (show j < s.1.1.length by omega)]
        simp only [this]
        exact a5 j hji
      · have hj2:j=s.1.1.length:=by omega
        have:(s.1.1++[((fo (m,(b,())) (hiT m)).getD i 0,((fo (m,(b,())) (loT m)).getD i 0,()))]).getD j dT=((fo (m,(b,())) (hiT m)).getD i 0,((fo (m,(b,())) (loT m)).getD i 0,())):=by
          subst hj2
          simp [List.getD_eq_getElem?_getD]
        simp only [this]
        rw [show j=i by omega]
        exact ⟨rfl,rfl⟩)
    (fun s h=>by
      obtain ⟨a1,a2,a3,a4,a5⟩:=h
      have g0:decide (((Int.toNat m.1:Nat):Int) < m.1)=false:=by simp only [decide_eq_false_iff_not]; omega
      simp only [G47_l1_v1_step,a2,a3,a4,g0,cond_false]
      exact ⟨_,rfl,trivial,a1,a5⟩)
    (G47_l1_v1_fuel (([],(m.1,(0,()))),(m,(m,((m,(b,())),([fo (m,(b,())) (hiT m),fo (m,(b,())) (loT m)],()))))))
    (([],(m.1,(0,()))),(m,(m,((m,(b,())),([fo (m,(b,())) (hiT m),fo (m,(b,())) (loT m)],()))))) (by simp [G47_l1_v1_fuel]) ⟨rfl,rfl,rfl,rfl,fun j hj=>absurd hj (Nat.not_lt_zero _)⟩
  refine ⟨q.1.1,?_,h3,h4⟩
  unfold G47
  rw [hb]
  simp only [Option.bind_some,altK,Bool.not_true,cond_false,hs]
  unfold G47_l1_v1_run
  rw [h1]
  rfl
theorem o46 {m:E137} (hm:SM m) {l:List Int} {b:Int} (hb:G143 m l=some (.inr (((),(true,())),(m,((m,(b,())),()))))) (D:List Int) (hD:D.length=m.2.2.2.2.1.length) (hin:∀ i,i < D.length→(m.2.2.2.2.1.getD i dT).1≤D.getD i 0∧D.getD i 0≤(m.2.2.2.2.1.getD i dT).2.1) :
    G46 m l D=some (fo (m,(b,())) D,(0,())):=by
  have hk:=hm.ok
  obtain ⟨y1,y2⟩:=hk.years
  obtain ⟨f1,F1⟩:=fo_spec (d:=(m,(b,()))) hk hm.was D (by omega)
  obtain ⟨q,h1,h2,h3⟩:=iter_all (step:=G46_l0_v1_step) (n:=D.length) (k:=1) (fun i s=>s.1.1=D∧s.1.2.2.2.1=D∧s.1.2.2.2.2.1=(D.length:Int)∧s.1.2.2.2.2.2.1=(i:Int)∧s.2.1=m∧s.2.2.2.1=(m,(b,()))) (fun s=>s.1.1=D∧s.2.2.2.1=(m,(b,())))
    (fun i s h hi=>by
      obtain ⟨a1,a2,a3,a4,a5,a6⟩:=h
      obtain ⟨b1,b2⟩:=hin i hi
      have g1:(decide (0≤(i:Int))&&decide ((i:Int) < (List.length m.2.2.2.2.1:Int)))=true:=inside_lt (by omega)
      have g2:inB (D.getD i 0) (m.2.2.2.2.1.getD i dT).1 (m.2.2.2.2.1.getD i dT).2.1=true:=inB_spec.2 ⟨b1,b2⟩
      simp only [G46_l0_v1_step,a1,a2,a3,a4,a5,a6,inside_lt hi,getD_toNat,ltI hi,cond_true,g1,o146,Option.bind_some]
      rw [show ((0,(0,())):E23)=dT from rfl,g2]
      simp only [Bool.not_true,cond_false]
      exact ⟨_,rfl,rfl,rfl,rfl,wr (by omega) (by omega),rfl,rfl⟩)
    (fun s h=>by
      obtain ⟨a1,a2,a3,a4,a5,a6⟩:=h
      simp only [G46_l0_v1_step,a1,a2,a3,a4,a5,a6,ltN,cond_false]
      exact ⟨_,rfl,rfl,rfl⟩)
    (G46_l0_v1_fuel ((D,([],(0,(D,((List.length D:Int),(0,())))))),(m,(m,((m,(b,())),()))))) ((D,([],(0,(D,((List.length D:Int),(0,())))))),(m,(m,((m,(b,())),())))) (by simp [G46_l0_v1_fuel]) ⟨rfl,rfl,rfl,rfl,rfl,rfl⟩
  unfold G46
  rw [hb]
  have hne:((List.length D:Int) != (List.length m.2.2.2.2.1:Int))=false:=by rw [hD]; simp
  simp only [Option.bind_some,altK,Bool.not_true,cond_false,hne]
  unfold G46_l0_v1_run
  rw [h1]
  simp only [Option.bind_some,natK,h2,h3,f1]
theorem o144 {m:E137} (hm:SM m) (b:Int):∃ r,G144 (m,(b,()))=some (r,((m,(b,())),()))∧(r=true→∀ i,i < m.2.2.2.1.length→(m.2.2.2.2.1.length:Int)≤(fo (m,(b,())) (hiT m)).getD (Int.toNat (m.2.2.2.1.getD i 0)) 0):=by
  have hk:=hm.ok
  obtain ⟨y1,y2⟩:=hk.years
  have hwl:=hm.wells
  obtain ⟨f1,F1⟩:=fo_spec (d:=(m,(b,()))) hk hm.was (hiT m) (by rw [hiT_len]; omega)
  have hl1:=F1.len
  have hin:∀ i,i < m.2.2.2.1.length→G248 (m.2.2.2.1.getD i 0) (fo (m,(b,())) (hiT m)) (m,(b,()))=some (decide ((fo (m,(b,())) (hiT m)).getD (Int.toNat (m.2.2.2.1.getD i 0)) 0 < (m.2.2.2.2.1.length:Int)),(fo (m,(b,())) (hiT m),((m,(b,())),()))):=fun i hi=>by
    obtain ⟨c1,c2⟩:=hk.wells i hi
    have g1:(decide (0≤m.2.2.2.1.getD i 0)&&decide (m.2.2.2.1.getD i 0 < (List.length (fo (m,(b,())) (hiT m)):Int)))=true:=by
      simp only [Bool.and_eq_true,decide_eq_true_eq]
      rw [hl1]
      exact ⟨c1,by show m.2.2.2.1.getD i 0 < ((Int.toNat m.1:Nat):Int); omega⟩
    unfold G248
    rw [g1,cond_true]
  obtain ⟨q,e1,e2⟩:=iter_chk (step:=G178_v1_l0_step) (ok:=fun i=>!decide ((fo (m,(b,())) (hiT m)).getD (Int.toNat (m.2.2.2.1.getD i 0)) 0 < (m.2.2.2.2.1.length:Int))) (n:=m.2.2.2.1.length) (fun i s=>s.1.1=m.2.2.2.1∧s.1.2.2.1=(m.2.2.2.1.length:Int)∧s.1.2.2.2.1=(i:Int)∧s.2.1=fo (m,(b,())) (hiT m)∧s.2.2.1=(m,(b,()))) (fun s=>0≤s.1.2.1∧s.2.2.1=(m,(b,()))) (fun s=>s.2.2.1=(m,(b,())))
    (fun i s h hi hb=>by
      obtain ⟨a1,a2,a3,a4,a5⟩:=h
      have hb':decide ((fo (m,(b,())) (hiT m)).getD (Int.toNat (m.2.2.2.1.getD i 0)) 0 < (m.2.2.2.2.1.length:Int))=false:=by simpa using hb
      simp only [G178_v1_l0_step,a1,a2,a3,a4,a5,inside_lt hi,getD_toNat,ltI hi,cond_true,hin i hi,Option.bind_some,hb',cond_false]
      exact ⟨_,rfl,rfl,rfl,wr (by omega) (by omega),rfl,rfl⟩)
    (fun i s h hi hb=>by
      obtain ⟨a1,a2,a3,a4,a5⟩:=h
      have hb':decide ((fo (m,(b,())) (hiT m)).getD (Int.toNat (m.2.2.2.1.getD i 0)) 0 < (m.2.2.2.2.1.length:Int))=true:=by simpa using hb
      simp only [G178_v1_l0_step,a1,a2,a3,a4,a5,inside_lt hi,getD_toNat,ltI hi,cond_true,hin i hi,Option.bind_some,hb']
      exact ⟨_,rfl,by simp only; omega,rfl⟩)
    (fun s h=>by
      obtain ⟨a1,a2,a3,a4,a5⟩:=h
      simp only [G178_v1_l0_step,a1,a2,a3,a4,a5,ltN,cond_false]
      exact ⟨_,rfl,rfl⟩)
    (G178_v1_l0_fuel ((m.2.2.2.1,(0,((List.length m.2.2.2.1:Int),(0,())))),(fo (m,(b,())) (hiT m),((m,(b,())),())))) ((m.2.2.2.1,(0,((List.length m.2.2.2.1:Int),(0,())))),(fo (m,(b,())) (hiT m),((m,(b,())),()))) (by simp [G178_v1_l0_fuel]) ⟨rfl,rfl,rfl,rfl,rfl⟩
  unfold G144
  simp only [o148 (m,(b,())) (show m.2.2.2.2.1.length≤1000 by omega),Option.bind_some,f1]
  unfold G106 G178_v1 G178_v1_l0_run
  rw [e1]
  rcases e2 with ⟨a1,⟨a2,a4⟩,a3⟩ | ⟨a1,a2,a3⟩
  · simp only [Option.bind_some,a1,natK,a4]
    refine ⟨_,rfl,fun hr=>?_⟩
    simp only [ge_iff_le,a2,decide_true,Bool.not_true] at hr
    cases hr
  · simp only [Option.bind_some,a1,natK,a2]
    refine ⟨_,rfl,fun _ i hi=>?_⟩
    have:=List.all_eq_true.1 a3 i (List.mem_range.2 hi)
    simp only [Bool.not_eq_true',decide_eq_false_iff_not] at this
    omega
end Go.Proofs.YtkeipcalbbmncaaGreat.Abs
set_option linter.unusedVariables false
set_option linter.unusedSimpArgs false
set_option maxRecDepth 100000
namespace Go.Proofs.YtkeipcalbbmncaaGreat.Abs
theorem iter_dec2 {α:Type} {step:α→Option (Nat×α)} (I:Nat→α→Prop) (E:α→Prop) (n:Nat) (hgo:∀ i s,I i s→i < n→(∃ s',step s=some (0,s')∧I (i+1) s')∨∃ s' k,step s=some (k+1,s')∧(k=0∨k=1)∧E s')
    (hend:∀ s,I n s→∃ s' k,step s=some (k+1,s')∧(k=0∨k=1)∧E s') (fuel:Nat) (s:α) (hf:n < fuel) (hs:I 0 s):∃ s' k,iter step fuel s=some (k,s')∧(k=0∨k=1)∧E s':=by
  have h:∀ (r i fuel:Nat) (s:α),i+r=n→r < fuel→I i s→∃ s' k,iter step fuel s=some (k,s')∧(k=0∨k=1)∧E s':=fun r=>by
    induction r with
    | zero=>
      intro i fuel s hi hf hs
      obtain ⟨g,rfl⟩:∃ g,fuel=g+1:=⟨fuel - 1,by omega⟩
      obtain rfl:i=n:=by omega
      obtain ⟨s',k,h1,h2⟩:=hend s hs
      exact ⟨s',k,iter_out h1,h2⟩
    | succ r ih=>
      intro i fuel s hi hf hs
      obtain ⟨g,rfl⟩:∃ g,fuel=g+1:=⟨fuel - 1,by omega⟩
      rcases hgo i s hs (by omega) with ⟨s',h1,h2⟩ | ⟨s',k,h1,h2⟩
      · rw [iter_one h1]
        exact ih (i+1) g s' (by omega) (by omega) h2
      · exact ⟨s',k,iter_out h1,h2⟩
  exact h n 0 fuel s (by omega) hf hs
theorem o247 (l:List Int) (h:l.length≤1000):∃ r,G247 l=some r:=by
  obtain ⟨q,h1,h2⟩:=iter_all (step:=G247_l0_step) (n:=l.length) (k:=0) (fun i s=>s.1.2.1=l∧s.1.2.2.1=(l.length:Int)∧s.1.2.2.2.1=(i:Int)) (fun _=>True)
    (fun i s h hi=>by
      obtain ⟨a1,a2,a3⟩:=h
      simp only [G247_l0_step,a1,a2,a3,inside_lt hi,getD_toNat,ltI hi,cond_true]
      exact ⟨_,rfl,rfl,rfl,wr (by omega) (by omega)⟩)
    (fun s h=>by
      obtain ⟨a1,a2,a3⟩:=h
      simp only [G247_l0_step,a1,a2,a3,ltN,cond_false]
      exact ⟨_,rfl,trivial⟩)
    (G247_l0_fuel ((0,(l,((List.length l:Int),(0,())))),())) ((0,(l,((List.length l:Int),(0,())))),()) (by simp [G247_l0_fuel]) ⟨rfl,rfl,rfl⟩
  unfold G247 G247_l0_run
  rw [h1]
  exact ⟨_,rfl⟩
theorem ch_l1 {m:E137} (hE:m.2.1.length≤12) (A:List E259) (z n:Int) :
    ∃ q,G141_l1_run ((A,(z,(n,(z,(m.2.1,((List.length m.2.1:Int),(0,()))))))),(m,((0,([],())),())))=some q∧(q.1=0∨q.1=1)∧q.2.1.1=A∧q.2.1.2.2.1=n∧q.2.1.2.2.2.1=z∧q.2.2.1=m∧q.2.2.2.1.2.1.length≤12:=by
  have h:=iter_dec2 (step:=G141_l1_step) (fun i s=>s.1.1=A∧s.1.2.2.1=n∧s.1.2.2.2.1=z∧s.1.2.2.2.2.1=m.2.1∧s.1.2.2.2.2.2.1=(m.2.1.length:Int)∧s.1.2.2.2.2.2.2.1=(i:Int)∧s.2.1=m∧s.2.2.1.2.1.length≤i) (fun s=>s.1.1=A∧s.1.2.2.1=n∧s.1.2.2.2.1=z∧s.2.1=m∧s.2.2.1.2.1.length≤12) m.2.1.length
    (fun i s h hi=>by
      obtain ⟨a1,a2,a3,a4,a5,a6,a7,a8⟩:=h
      have e5:decide ((i:Int) < 0)=false:=by simp only [decide_eq_false_iff_not]; omega
      simp only [G141_l1_step,a1,a2,a3,a4,a5,a6,a7,inside_lt hi,getD_toNat,ltI hi,cond_true,e5,Bool.not_false]
      generalize ((IntKind.wrap .i64 ((BitVec.toNat ((BitVec.ofInt (IntKind.bits .i64) (Int.fdiv s.1.2.1 (2^(min (Int.toNat (i:Int)) (IntKind.bits .i64))))) &&& (BitVec.ofInt (IntKind.bits .i64) 1)):Nat):Int))==0)=bb
      cases bb with
      | true=>
        simp only [cond_true]
        exact .inl ⟨_,rfl,rfl,rfl,rfl,rfl,rfl,wr (by omega) (by omega),rfl,Nat.le_succ_of_le a8⟩
      | false=>
        simp only [cond_false]
        cases (m.2.1.getD i (0,(0,(0,(0,()))))).2.2.2.1==(-1) with
        | true=>
          simp only [cond_true]
          exact .inr ⟨_,0,rfl,.inl rfl,rfl,rfl,rfl,rfl,by simp only; omega⟩
        | false=>
          obtain ⟨r,hr⟩:=o247 [s.2.2.1.1,(m.2.1.getD i (0,(0,(0,(0,()))))).2.2.2.1] (by simp)
          simp only [cond_false,lim_ok (show List.length s.2.2.1.2.1+List.length [(i:Int)]≤1000000 by simp; omega),cond_true,hr,Option.bind_some]
          exact .inl ⟨_,rfl,rfl,rfl,rfl,rfl,rfl,wr (by omega) (by omega),rfl,by simp; omega⟩)
    (fun s h=>by
      obtain ⟨a1,a2,a3,a4,a5,a6,a7,a8⟩:=h
      simp only [G141_l1_step,a1,a2,a3,a4,a5,a6,a7,ltN,cond_false]
      exact ⟨_,1,rfl,.inr rfl,rfl,rfl,rfl,rfl,by simp only; omega⟩)
    (G141_l1_fuel ((A,(z,(n,(z,(m.2.1,((List.length m.2.1:Int),(0,()))))))),(m,((0,([],())),())))) ((A,(z,(n,(z,(m.2.1,((List.length m.2.1:Int),(0,()))))))),(m,((0,([],())),()))) (by simp [G141_l1_fuel]) ⟨rfl,rfl,rfl,rfl,rfl,rfl,rfl,Nat.le_refl _⟩
  obtain ⟨s',k,h1,h2,h3⟩:=h
  exact ⟨(k,s'),h1,h2,h3⟩
theorem shl_le (n:Nat) (h:n≤12):∃ z:Nat,z≤4096∧IntKind.wrap .i64 (1*2^(min (Int.toNat (n:Int)) (IntKind.bits .i64)))=(z:Int):=by
  have h1:min (Int.toNat (n:Int)) (IntKind.bits .i64)=n:=by
    show min n 64=n
    omega
  have h2:(2:Nat)^n≤2^12:=Nat.pow_le_pow_right (by decide) h
  refine ⟨2^n,h2,?_⟩
  rw [h1,Int.one_mul]
  have h3:((2:Int)^n)=((2^n:Nat):Int):=by simp
  rw [h3]
  generalize (2:Nat)^n=k at h2
  have h4:k≤4096:=h2
  exact wr (by omega) (by omega)
theorem o141 {m:E137} (hE:m.2.1.length≤12):∃ l,G141 m=some l∧l.length≤4096∧∀ c,c∈l→c.2.1.length≤12:=by
  obtain ⟨z,hz,he⟩:=shl_le m.2.1.length hE
  have e5:decide ((List.length m.2.1:Int) < 0)=false:=by simp only [decide_eq_false_iff_not]; omega
  obtain ⟨q,h1,h2⟩:=iter_all (step:=G141_l0_step) (n:=z) (k:=0) (fun i s=>s.1.2.1=(z:Int)∧s.1.2.2.1=(i:Int)∧s.2.1=m∧s.1.1.length≤i∧∀ c,c∈s.1.1→c.2.1.length≤12) (fun s=>s.1.1.length≤4096∧∀ c,c∈s.1.1→c.2.1.length≤12)
    (fun i s h hi=>by
      obtain ⟨a1,a2,a3,a4,a5⟩:=h
      obtain ⟨q,b1,b2,b3,b4,b5,b6,b7⟩:=ch_l1 hE s.1.1 (i:Int) (z:Int)
      simp only [G141_l0_step,a1,a2,a3,ltI hi,cond_true,b1,Option.bind_some]
      rcases b2 with b2 | b2
      · simp only [b2,natK,b3,b4,b5,b6]
        exact ⟨_,rfl,rfl,wr (by omega) (by omega),rfl,Nat.le_succ_of_le a4,a5⟩
      · have hl:=lim_ok (a:=q.2.1.1.length) (b:=List.length [q.2.2.2.1]) (by rw [b3]; simp; omega)
        simp only [b2,natK,hl,cond_true,b4,b5,b6]
        refine ⟨_,rfl,rfl,wr (by omega) (by omega),rfl,by rw [b3]; simp; omega,fun c hc=>?_⟩
        rw [b3] at hc
        rcases List.mem_append.1 hc with h | h
        · exact a5 c h
        · rw [List.mem_singleton.1 h]; exact b7)
    (fun s h=>by
      obtain ⟨a1,a2,a3,a4,a5⟩:=h
      simp only [G141_l0_step,a1,a2,a3,ltN,cond_false]
      exact ⟨_,rfl,by simp only; omega,a5⟩)
    (G141_l0_fuel (([],((z:Int),(0,()))),(m,()))) (([],((z:Int),(0,()))),(m,())) (by simp [G141_l0_fuel]) ⟨rfl,rfl,rfl,Nat.le_refl _,fun c hc=>absurd hc (by simp)⟩
  unfold G141
  rw [e5,he]
  simp only [Bool.not_false,cond_true]
  unfold G141_l0_run
  rw [h1]
  exact ⟨_,rfl,h2⟩
theorem o347 (a:Int):G347 a=some false:=by simp [G347]
theorem o250 (a b:Int):∃ r,G250 a b=some r:=by
  unfold G250
  simp only [o347,Option.bind_some,cond_false]
  cases decide (a < b)<;>cases decide (a > b)<;>exact ⟨_,rfl⟩
theorem o251 (a b:List Int) (ha:a.length≤1000):∃ r,G251 a b=some r:=by
  have h:=iter_dec2 (step:=G251_l0_step) (fun i s=>s.1.2.1=b∧s.1.2.2.2.1=a∧s.1.2.2.2.2.1=(a.length:Int)∧s.1.2.2.2.2.2.1=(i:Int)) (fun s=>True) a.length
    (fun i s h hi=>by
      obtain ⟨a1,a2,a3,a4⟩:=h
      simp only [G251_l0_step,a1,a2,a3,a4,inside_lt hi,getD_toNat,ltI hi,cond_true]
      cases hc:decide ((i:Int)≥(List.length b:Int)) with
      | true=>
        simp only [cond_true]
        exact .inr ⟨_,0,rfl,.inl rfl,trivial⟩
      | false=>
        have hib:i < b.length:=by simp only [decide_eq_false_iff_not] at hc; omega
        obtain ⟨r,hr⟩:=o250 (a.getD i 0) (b.getD i 0)
        simp only [cond_false,inside_lt hib,cond_true,hr,Option.bind_some]
        cases r != 0 with
        | true=>
          simp only [cond_true]
          exact .inr ⟨_,0,rfl,.inl rfl,trivial⟩
        | false=>
          simp only [cond_false]
          exact .inl ⟨_,rfl,rfl,rfl,rfl,wr (by omega) (by omega)⟩)
    (fun s h=>by
      obtain ⟨a1,a2,a3,a4⟩:=h
      simp only [G251_l0_step,a1,a2,a3,a4,ltN,cond_false]
      exact ⟨_,1,rfl,.inr rfl,trivial⟩)
    (G251_l0_fuel ((a,(b,(0,(a,((List.length a:Int),(0,())))))),())) ((a,(b,(0,(a,((List.length a:Int),(0,())))))),()) (by simp [G251_l0_fuel]) ⟨rfl,rfl,rfl,rfl⟩
  obtain ⟨s',k,h1,h2,_⟩:=h
  unfold G251 G251_l0_run
  rw [h1]
  rcases h2 with rfl | rfl
  · exact ⟨_,rfl⟩
  · simp only [Option.bind_some,natK]
    cases decide ((List.length s'.1.1:Int) < (List.length s'.1.2.1:Int))<;>exact ⟨_,rfl⟩
theorem o249 (a:List Int) (ha:a.length≤1000):∃ r,G249 a=some r:=by
  have h:=iter_dec2 (step:=G249_l0_step) (fun i s=>s.1.2.2.1=a∧s.1.2.2.2.1=(a.length:Int)∧s.1.2.2.2.2.1=(i:Int)) (fun s=>True) a.length
    (fun i s h hi=>by
      obtain ⟨a1,a2,a3⟩:=h
      simp only [G249_l0_step,a1,a2,a3,inside_lt hi,getD_toNat,ltI hi,cond_true]
      cases (a.getD i 0) != s.1.2.1 with
      | true=>
        simp only [cond_true]
        exact .inr ⟨_,0,rfl,.inl rfl,trivial⟩
      | false=>
        simp only [cond_false]
        exact .inl ⟨_,rfl,rfl,rfl,wr (by omega) (by omega)⟩)
    (fun s h=>by
      obtain ⟨a1,a2,a3⟩:=h
      simp only [G249_l0_step,a1,a2,a3,ltN,cond_false]
      exact ⟨_,1,rfl,.inr rfl,trivial⟩)
    (G249_l0_fuel ((0,(0,(a,((List.length a:Int),(0,()))))),())) ((0,(0,(a,((List.length a:Int),(0,()))))),()) (by simp [G249_l0_fuel]) ⟨rfl,rfl,rfl⟩
  obtain ⟨s',k,h1,h2,_⟩:=h
  unfold G249 G249_l0_run
  rw [h1]
  rcases h2 with rfl | rfl<;>exact ⟨_,rfl⟩
theorem o145 (a b:E259) (ha:a.2.1.length≤12):∃ r,G145 a b=some r:=by
  obtain ⟨r1,h1⟩:=o250 a.1 b.1
  obtain ⟨r2,h2⟩:=o250 (List.length a.2.1:Int) (List.length b.2.1:Int)
  obtain ⟨r3,h3⟩:=o251 a.2.1 b.2.1 (by omega)
  obtain ⟨r4,h4⟩:=o249 [r1,r2,r3] (by simp)
  unfold G145
  simp only [h1,h2,h3,h4,Option.bind_some]
  exact ⟨_,rfl⟩
def Good (m:E137) (c:E259):Prop:=c.2.1.length≤12∧damB m c.2.1=true∧∀ b,G143 m c.2.1=some (.inr (((),(true,())),(m,((m,(b,())),()))))→∀ i,i < m.2.2.2.1.length→(m.2.2.2.2.1.length:Int)≤(fo (m,(b,())) (hiT m)).getD (Int.toNat (m.2.2.2.1.getD i 0)) 0
structure SB (m:E137):Prop extends SM m where
  map:mapB m=true
  kids:m.2.2.2.2.2.1.length < 2^40
theorem o143B {m:E137} (hm:SB m) (l:List Int) (hl:l.length < 2^40) :
    (damB m l=true→∃ b:Int,G143 m l=some (.inr (((),(true,())),(m,((m,(b,())),())))))∧(damB m l=false→G143 m l=some (.inl (((),(false,())),()))):=o143 hm.map (by have:=hm.ok.edges; omega) hm.was hm.wells (by have:=hm.ok.years; omega) hm.kids l hl
theorem o142 {m:E137} (hm:SB m) (c:E259) (hc:c.2.1.length≤12):∃ r,G142 c m=some (r,(m,()))∧(r=true→Good m c):=by
  obtain ⟨h1,h2⟩:=o143B hm c.2.1 (by omega)
  unfold G142
  cases hd:damB m c.2.1 with
  | false=>
    rw [h2 hd]
    simp only [Option.bind_some,altK,cond_false]
    exact ⟨_,rfl,fun h=>by cases h⟩
  | true=>
    obtain ⟨b,hb⟩:=h1 hd
    obtain ⟨r,hr,hg⟩:=o144 hm.toSM b
    rw [hb]
    simp only [Option.bind_some,altK,cond_true,hr]
    refine ⟨_,rfl,fun h=>⟨hc,hd,fun b' hb'=>?_⟩⟩
    rw [hb] at hb'
    have:b=b':=by
      injection hb' with e
      injection e with e
      injection e with _ e
      injection e with _ e
      injection e with e _
      injection e with _ e
      injection e
    subst this
    exact hg h
theorem o140 {m:E137} (hm:SB m) (l:List E259) (hl:l.length≤4096) (hc:∀ c,c∈l→c.2.1.length≤12):∃ o f,G140 l m=some ((o,(f,())),(m,()))∧(f=true→Good m o):=by
  have hci:∀ i,i < l.length→(l.getD i (0,([],()))).2.1.length≤12:=fun i hi=>by
    rw [List.getD_eq_getElem?_getD,List.getElem?_eq_getElem hi,Option.getD_some]
    exact hc _ (List.getElem_mem hi)
  obtain ⟨q,h1,h2,h3,h4⟩:=iter_all (step:=G140_l0_step) (n:=l.length) (k:=0) (fun i s=>s.1.2.1=l∧s.1.2.2.1=(l.length:Int)∧s.1.2.2.2.1=(i:Int)∧s.2.1=m∧(s.1.1=true→Good m s.2.2.2.1)) (fun s=>True∧s.2.1=m∧(s.1.1=true→Good m s.2.2.2.1))
    (fun i s h hi=>by
      obtain ⟨a1,a2,a3,a4,a5⟩:=h
      obtain ⟨r,hr,hg⟩:=o142 hm (l.getD i (0,([],()))) (hci i hi)
      obtain ⟨r3,hr3⟩:=o145 (l.getD i (0,([],()))) s.2.2.2.1 (hci i hi)
      simp only [G140_l0_step,a1,a2,a3,a4,inside_lt hi,getD_toNat,ltI hi,cond_true,hr,hr3,Option.bind_some]
      cases hf:s.1.1 with
      | false=>
        simp only [Bool.not_false,cond_true]
        cases r with
        | false=>
          simp only [cond_false]
          exact ⟨_,rfl,rfl,rfl,wr (by omega) (by omega),rfl,fun h=>by cases h⟩
        | true=>
          simp only [cond_true]
          exact ⟨_,rfl,rfl,rfl,wr (by omega) (by omega),rfl,fun _=>hg rfl⟩
      | true=>
        simp only [Bool.not_true,cond_false]
        cases r3 with
        | false=>
          simp only [cond_false]
          exact ⟨_,rfl,rfl,rfl,wr (by omega) (by omega),rfl,fun _=>a5 hf⟩
        | true=>
          simp only [cond_true]
          cases r with
          | false=>
            simp only [cond_false]
            exact ⟨_,rfl,rfl,rfl,wr (by omega) (by omega),rfl,fun _=>a5 hf⟩
          | true=>
            simp only [cond_true]
            exact ⟨_,rfl,rfl,rfl,wr (by omega) (by omega),rfl,fun _=>hg rfl⟩)
    (fun s h=>by
      obtain ⟨a1,a2,a3,a4,a5⟩:=h
      simp only [G140_l0_step,a1,a2,a3,a4,ltN,cond_false]
      exact ⟨_,rfl,trivial,rfl,a5⟩)
    (G140_l0_fuel ((false,(l,((List.length l:Int),(0,())))),(m,((0,([],())),((0,([],())),()))))) ((false,(l,((List.length l:Int),(0,())))),(m,((0,([],())),((0,([],())),())))) (by simp [G140_l0_fuel]) ⟨rfl,rfl,rfl,rfl,fun h=>by cases h⟩
  refine ⟨q.2.2.2.1,q.1.1,?_,h4⟩
  unfold G140 G140_l0_run
  rw [h1]
  simp only [Option.bind_some,h3]
theorem o45 {m:E137} (hm:SB m):∃ l z e,G45 m=some (l,(z,(e,())))∧(e=0∧Good m (z,(l,()))∨e=5):=by
  obtain ⟨l,h1,h2,h3⟩:=o141 hm.ok.edges
  obtain ⟨o,f,h4,h5⟩:=o140 hm l h2 h3
  unfold G45
  rw [o139 m (by have:=hm.ok.edges; omega) hm.was hm.wells (by have:=hm.ok.years; omega) hm.kids,hm.map]
  simp only [Option.bind_some,Bool.not_true,cond_false,h1,h4]
  cases f with
  | false=>
    simp only [Bool.not_false,cond_true]
    exact ⟨_,_,_,rfl,.inr rfl⟩
  | true=>
    simp only [Bool.not_true,cond_false]
    exact ⟨_,_,_,rfl,.inl ⟨rfl,h5 rfl⟩⟩
end Go.Proofs.YtkeipcalbbmncaaGreat.Abs
