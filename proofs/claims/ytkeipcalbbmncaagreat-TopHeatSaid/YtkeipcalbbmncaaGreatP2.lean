import Derived.Test.YtkeipcalbbmncaaGreatP1
set_option linter.unusedVariables false
set_option linter.unusedSimpArgs false
set_option maxRecDepth 100000
namespace Go.Proofs.YtkeipcalbbmncaaGreat.Abs
theorem iter_chk {α:Type} {step:α→Option (Nat×α)} {ok:Nat→Bool} {n:Nat} (I:Nat→α→Prop) (E F:α→Prop) (hgo:∀ i s,I i s→i < n→ok i=true→∃ s',step s=some (0,s')∧I (i+1) s')
    (hbad:∀ i s,I i s→i < n→ok i=false→∃ s',step s=some (1,s')∧E s') (hend:∀ s,I n s→∃ s',step s=some (2,s')∧F s') (fuel:Nat) (s:α) (hf:n < fuel) (h0:I 0 s) :
    ∃ q,iter step fuel s=some q∧((q.1=0∧E q.2∧(List.range n).all ok=false)∨(q.1=1∧F q.2∧(List.range n).all ok=true)):=by
  rcases iter_find (step:=step) (bad:=fun i=>!ok i) (n:=n) (k1:=0) (k2:=1) I (fun _=>E) F (fun i s h hi hb=>hgo i s h hi (by simpa using hb)) (fun i s h hi hb=>hbad i s h hi (by simpa using hb)) hend n 0 fuel s (by omega) hf h0 with ⟨j,q,_,hj,hb,_,h1,h2⟩ | ⟨hb,q,h1,h2⟩
  · refine ⟨_,h1,.inl ⟨rfl,h2,?_⟩⟩
    cases ha:(List.range n).all ok with
    | false=>rfl
    | true=>
      have:=List.all_eq_true.1 ha j (List.mem_range.2 hj)
      rw [this] at hb; cases hb
  · refine ⟨_,h1,.inr ⟨rfl,h2,?_⟩⟩
    refine List.all_eq_true.2 fun i hi=>?_
    have:=hb i (by omega) (List.mem_range.1 hi)
    simpa using this
theorem ltI {i n:Nat} (h:i < n):decide ((i:Int) < (n:Int))=true:=by simp; omega
theorem ltN (n:Nat):decide ((n:Int) < (n:Int))=false:=by simp
end Go.Proofs.YtkeipcalbbmncaaGreat.Abs
set_option linter.unusedVariables false
set_option linter.unusedSimpArgs false
set_option maxRecDepth 100000
namespace Go.Proofs.YtkeipcalbbmncaaGreat.Abs
theorem o125 (x lo hi:Int):G125 x lo hi=some (inB x lo hi):=by
  unfold G125 inB
  by_cases h:lo≤x<;>simp [h]
theorem sum2 {a b:Int} (ha : -1000000000000≤a∧a≤1000000000000) (hb : -1000000000000≤b∧b≤1000000000000):G127 [a,b]=some (a+b):=by
  have h:G127 [a,b]=some (IntKind.wrap .i64 (IntKind.wrap .i64 (0+a)+b)):=by kernel_rfl
  rw [h,wr (n:=0+a) (by omega) (by omega),wr (by omega) (by omega)]
  congr 1
  omega
theorem sum3 {a b c:Int} (ha : -1000000000000≤a∧a≤1000000000000) (hb : -1000000000000≤b∧b≤1000000000000) (hc : -1000000000000≤c∧c≤1000000000000):G127 [a,b,c]=some (a+b+c):=by
  have h:G127 [a,b,c]=some (IntKind.wrap .i64 (IntKind.wrap .i64 (IntKind.wrap .i64 (0+a)+b)+c)):=by kernel_rfl
  rw [h,wr (n:=0+a) (by omega) (by omega),wr (n:=0+a+b) (by omega) (by omega),wr (by omega) (by omega)]
  congr 1
  omega
def los (leak frost warm feed:Int):Int:=if warm+feed < leak*(warm+frost) / 1000 then warm+feed else leak*(warm+frost) / 1000
theorem o126 {leak frost warm feed:Int} (h1:0≤leak∧leak≤1000) (h2:0≤frost∧frost≤1000) (h3:0≤warm∧warm≤100000) (h4:0≤feed∧feed≤1000):G126 leak frost warm feed=some (los leak frost warm feed)∧0≤los leak frost warm feed∧los leak frost warm feed≤warm+feed:=by
  have hm:=mul_bd (a:=leak) (b:=warm+frost) (A:=1000) (B:=101000) h1.1 h1.2 (by omega) (by omega)
  have hd:=div_bd (a:=leak*(warm+frost)) (b:=1000) hm.1 (by omega)
  unfold G126 los
  rw [wr (n:=warm+feed) (by omega) (by omega),wr (n:=warm+frost) (by omega) (by omega)]
  generalize leak*(warm+frost)=p at hm hd ⊢
  rw [wr (n:=p) (by omega) (by omega),tdiv_eq hm.1,wr (n:=p / 1000) (by omega) (by omega)]
  refine ⟨rfl,?_⟩
  split<;>omega
structure Hea (mass w0:Int) (h:Nat) (x:E126):Prop where
  warm:0≤x.1∧x.1≤1000+1000*(h:Int)
  boiler:0≤x.2.1∧x.2.1≤10000000*(h:Int)
  ground:0≤x.2.2.1∧x.2.2.1≤1000000000*(h:Int)
  sky:0≤x.2.2.2.1∧x.2.2.2.1≤1000000000*(h:Int)
  all:mass*w0+x.2.1=mass*x.1+x.2.2.1+x.2.2.2.1
def dR:E205:=(0,(0,(false,())))
def dF:E23:=(0,(0,()))
structure Hou (n:E40) (lp:E123) (l:List E205):Prop where
  len:l.length≤n.2.1.length∧l.length≤72
  mass:1≤lp.2.2.2.2.1∧lp.2.2.2.2.1≤10000
  grd:0≤lp.2.2.2.2.2.1∧lp.2.2.2.2.2.1≤1000
  feed:0≤lp.2.2.2.2.2.2.1∧lp.2.2.2.2.2.2.1≤1000
  leak:∀ h,h < l.length→inB (l.getD h dR).1 lp.2.1.1 lp.2.1.2.1=true∧0≤(l.getD h dR).1∧(l.getD h dR).1≤1000
  frost:∀ h,h < l.length→inB (l.getD h dR).2.1 (n.2.1.getD h dF).1 (n.2.1.getD h dF).2.1=true∧0≤(l.getD h dR).2.1∧(l.getD h dR).2.1≤1000
theorem hea_next {mass warm grd feed lost:Int} {h:Nat} {x:E126} (hh:h < 72) (hm:1≤mass∧mass≤10000) (hg:0≤grd∧grd≤1000) (hf:0≤feed∧feed≤1000) (hx:Hea mass warm h x) (hl:0≤lost∧lost≤x.1+feed) :
    G127 [x.1,feed,IntKind.wrap .i64 (0 - lost)]=some (x.1+feed + -lost)∧G127 [x.2.1,IntKind.wrap .i64 (feed*mass)]=some (x.2.1+feed*mass)∧
    G127 [x.2.2.1,IntKind.wrap .i64 (Int.tdiv (IntKind.wrap .i64 (IntKind.wrap .i64 (lost*mass)*grd)) 1000)]=some (x.2.2.1+lost*mass*grd / 1000)∧
    G127 [x.2.2.2.1,IntKind.wrap .i64 (lost*mass),IntKind.wrap .i64 (0 - IntKind.wrap .i64 (Int.tdiv (IntKind.wrap .i64 (IntKind.wrap .i64 (lost*mass)*grd)) 1000))]=some (x.2.2.2.1+lost*mass + -(lost*mass*grd / 1000))∧
    Hea mass warm (h+1) (x.1+feed + -lost,(x.2.1+feed*mass,(x.2.2.1+lost*mass*grd / 1000,(x.2.2.2.1+lost*mass + -(lost*mass*grd / 1000),())))):=by
  obtain ⟨a1,a2⟩:=hx.warm
  obtain ⟨b1,b2⟩:=hx.boiler
  obtain ⟨c1,c2⟩:=hx.ground
  obtain ⟨d1,d2⟩:=hx.sky
  have he:=hx.all
  have p1:=mul_bd (a:=feed) (b:=mass) (A:=1000) (B:=10000) hf.1 hf.2 (by omega) hm.2
  have p2:=mul_bd (a:=lost) (b:=mass) (A:=80000) (B:=10000) hl.1 (by omega) (by omega) hm.2
  have p3:=mul_bd (a:=lost*mass) (b:=grd) (A:=800000000) (B:=1000) p2.1 (by omega) hg.1 hg.2
  have p4:lost*mass*grd / 1000≤lost*mass:=by
    have h1:lost*mass*grd≤lost*mass*1000:=Int.mul_le_mul_of_nonneg_left hg.2 p2.1
    omega
  have p5:0≤lost*mass*grd / 1000:=by omega
  have p6:mass*(x.1+feed + -lost)=mass*x.1+feed*mass - lost*mass:=by
    rw [Int.mul_add,Int.mul_add,Int.mul_neg,Int.mul_comm mass feed,Int.mul_comm mass lost]
    omega
  rw [wr (n:=0 - lost) (by omega) (by omega),wr (n:=feed*mass) (by omega) (by omega),wr (n:=lost*mass) (by omega) (by omega),wr (n:=lost*mass*grd) (by omega) (by omega),tdiv_eq p3.1]
  generalize lost*mass*grd / 1000=g at p4 p5 ⊢
  generalize lost*mass=u at p2 p4 p6 ⊢
  generalize feed*mass=v at p1 p6 ⊢
  rw [wr (n:=g) (by omega) (by omega),wr (n:=0 - g) (by omega) (by omega)]
  refine ⟨?_,sum2 (by omega) (by omega),sum2 (by omega) (by omega),?_,⟨by simp only; omega,by simp only; omega,by simp only; omega,by simp only; omega,?_⟩⟩
  · rw [sum3 (by omega) (by omega) (by omega)]
    congr 1
    omega
  · rw [sum3 (by omega) (by omega) (by omega)]
    congr 1
    omega
  · simp only
    rw [p6]
    omega
end Go.Proofs.YtkeipcalbbmncaaGreat.Abs
set_option linter.unusedVariables false
set_option linter.unusedSimpArgs false
set_option maxRecDepth 100000
namespace Go.Proofs.YtkeipcalbbmncaaGreat.Abs
theorem play_l0 {n:E40} {lp:E123} {l:List E205} {warm z:Int} {x0:Int×(Int×(Int×(Int×Unit)))} (ho:Hou n lp l) (hw:0≤warm∧warm≤1000) :
    ∃ q,G41_l0_run ((z,(l,((l.length:Int),(0,())))),(n,(x0,(lp,((warm,(0,(0,(0,())))),())))))=some (1,q)∧Hea lp.2.2.2.2.1 warm l.length q.2.2.2.2.1:=by
  obtain ⟨hl1,hl2⟩:=ho.len
  obtain ⟨q,h1,h2⟩:=iter_all (step:=G41_l0_step) (n:=l.length) (k:=1) (fun h s=>s.1.2.1=l∧s.1.2.2.1=(l.length:Int)∧s.1.2.2.2.1=(h:Int)∧s.2.1=n∧s.2.2.2.1=lp∧Hea lp.2.2.2.2.1 warm h s.2.2.2.2.1) (fun s=>Hea lp.2.2.2.2.1 warm l.length s.2.2.2.2.1)
    (fun h s hs hh=>by
      obtain ⟨a1,a2,a3,a4,a5,hI⟩:=hs
      obtain ⟨b1,b2,b3⟩:=ho.leak h hh
      obtain ⟨c1,c2,c3⟩:=ho.frost h hh
      obtain ⟨w1,w2⟩:=hI.warm
      have g1:(decide (0≤(h:Int))&&decide ((h:Int) < (List.length n.2.1:Int)))=true:=inside_lt (by omega)
      simp only [G41_l0_step,a1,a2,a3,a4,a5,inside_lt hh,g1,getD_toNat,ltI hh,cond_true,o125,Option.bind_some]
      rw [show ((0,(0,(false,()))):E205)=dR from rfl,show ((0,(0,())):E23)=dF from rfl,b1,c1]
      simp only [Bool.not_true,cond_false]
      cases (l.getD h dR).2.2.1 with
      | true=>
        obtain ⟨e1,e2⟩:=o126 ⟨b2,b3⟩ ⟨c2,c3⟩ (warm:=s.2.2.2.2.1.1) ⟨w1,by omega⟩ ho.feed
        obtain ⟨f1,f2,f3,f4,f5⟩:=hea_next (h:=h) (x:=s.2.2.2.2.1) (by omega) ho.mass ho.grd ho.feed hI e2
        simp only [cond_true,e1,Option.bind_some,f1,f2,f3,f4]
        exact ⟨_,rfl,rfl,rfl,wr (by omega) (by omega),rfl,rfl,f5⟩
      | false=>
        obtain ⟨e1,e2⟩:=o126 ⟨b2,b3⟩ ⟨c2,c3⟩ (warm:=s.2.2.2.2.1.1) ⟨w1,by omega⟩ (feed:=0) ⟨by omega,by omega⟩
        obtain ⟨f1,f2,f3,f4,f5⟩:=hea_next (h:=h) (x:=s.2.2.2.2.1) (feed:=0) (by omega) ho.mass ho.grd ⟨by omega,by omega⟩ hI e2
        simp only [cond_false,e1,Option.bind_some,f1,f2,f3,f4]
        exact ⟨_,rfl,rfl,rfl,wr (by omega) (by omega),rfl,rfl,f5⟩)
    (fun s hs=>by
      obtain ⟨a1,a2,a3,a4,a5,hI⟩:=hs
      simp only [G41_l0_step,a1,a2,a3,a4,a5,ltN,cond_false]
      exact ⟨_,rfl,hI⟩)
    (G41_l0_fuel ((z,(l,((l.length:Int),(0,())))),(n,(x0,(lp,((warm,(0,(0,(0,())))),())))))) ((z,(l,((l.length:Int),(0,())))),(n,(x0,(lp,((warm,(0,(0,(0,())))),()))))) (by simp [G41_l0_fuel]) ⟨rfl,rfl,rfl,rfl,rfl,by simp only; omega,by simp only; omega,by simp only; omega,by simp only; omega,by simp only; omega⟩
  exact ⟨q,h1,h2⟩
def dP:E123:=((0,(0,())),((0,(0,())),((0,(0,())),(0,(0,(0,(0,((0,(0,())),()))))))))
def okLp (p:E123):Bool:=spB p.1 1 1000&&spB p.2.1 0 1000&&spB p.2.2.1 0 1000&&decide (p.2.2.1.1≤p.2.1.1)&&decide (p.2.2.1.2.1≤p.2.1.2.1)&&inB p.2.2.2.1 0 1000000&&inB p.2.2.2.2.1 1 10000&&inB p.2.2.2.2.2.1 0 1000&&inB p.2.2.2.2.2.2.1 0 1000&&spB p.2.2.2.2.2.2.2.1 0 72
theorem o155 (s:E23) (lo hi:Int):G155 s lo hi=some (spB s lo hi):=by
  unfold G155 spB
  by_cases h:lo≤s.1<;>by_cases h':s.1≤s.2.1<;>simp [h,h']
theorem o113 (x lo hi:Int):G113 x lo hi=some (inB x lo hi):=o125 x lo hi
theorem o154 (p:E123):G154 p=some (okLp p):=by
  unfold G154 okLp
  simp only [o155,o113,Option.bind_some]
  cases spB p.1 1 1000<;>cases spB p.2.1 0 1000<;>cases spB p.2.2.1 0 1000<;>by_cases h1:p.2.2.1.1≤p.2.1.1<;>by_cases h2:p.2.2.1.2.1≤p.2.1.2.1<;>cases inB p.2.2.2.1 0 1000000<;>cases inB p.2.2.2.2.1 1 10000<;>cases inB p.2.2.2.2.2.1 0 1000<;>cases inB p.2.2.2.2.2.2.1 0 1000<;>simp [h1,h2]
end Go.Proofs.YtkeipcalbbmncaaGreat.Abs
set_option linter.unusedVariables false
set_option linter.unusedSimpArgs false
set_option maxRecDepth 100000
namespace Go.Proofs.YtkeipcalbbmncaaGreat.Abs
def row (n:E40) (i:Nat):List Int:=n.2.2.1.getD i []
def okC (n:E40) (i k:Nat):Bool:=inB ((row n i).getD k 0) 0 72&&!((i:Int)==(k:Int)&&(row n i).getD k 0 != 0)
def okR (n:E40) (i:Nat):Bool:=!(((row n i).length:Int) != (n.1.length:Int)+1)&&(List.range (row n i).length).all (okC n i)
theorem net_l3 {n:E40} {i:Nat} {b:Bool} (hi:i < n.2.2.1.length) (hr:(row n i).length≤100):∃ q,G52_l3_run ((b,((i:Int),(0,()))),(n,()))=some q∧((q.1=0∧(q.2.1.1=false)∧(List.range (row n i).length).all (okC n i)=false)∨(q.1=1∧(q.2.1.1=b∧q.2.1.2.1=(i:Int)∧q.2.2.1=n)∧(List.range (row n i).length).all (okC n i)=true)):=by
  refine iter_chk (step:=G52_l3_step) (ok:=okC n i) (n:=(row n i).length) (fun k s=>s.1.1=b∧s.1.2.1=(i:Int)∧s.1.2.2.1=(k:Int)∧s.2.1=n) (fun s=>s.1.1=false) (fun s=>s.1.1=b∧s.1.2.1=(i:Int)∧s.2.1=n)
    (fun k s h hk hb=>?_) (fun k s h hk hb=>?_) (fun s h=>?_) (G52_l3_fuel ((b,((i:Int),(0,()))),(n,()))) ((b,((i:Int),(0,()))),(n,())) ?_ ⟨rfl,rfl,rfl,rfl⟩
  · obtain ⟨a0,a1,a2,a3⟩:=h
    have hk':k < (n.2.2.1.getD i []).length:=hk
    simp only [okC,row,Bool.and_eq_true,Bool.not_eq_true'] at hb
    simp only [G52_l3_step,a0,a1,a2,a3,inside_lt hi,getD_toNat,ltI hk',inside_lt hk',cond_true,o113,Option.bind_some,hb.1,Bool.not_true,cond_false]
    cases he:((i:Int)==(k:Int)) with
    | true=>
      rw [he,Bool.true_and] at hb
      simp only [cond_true,hb.2,cond_false]
      exact ⟨_,rfl,rfl,rfl,wr (by omega) (by omega),rfl⟩
    | false=>
      simp only [cond_false]
      exact ⟨_,rfl,rfl,rfl,wr (by omega) (by omega),rfl⟩
  · obtain ⟨a0,a1,a2,a3⟩:=h
    have hk':k < (n.2.2.1.getD i []).length:=hk
    simp only [okC,row] at hb
    simp only [G52_l3_step,a0,a1,a2,a3,inside_lt hi,getD_toNat,ltI hk',inside_lt hk',cond_true,o113,Option.bind_some]
    cases h1:inB ((n.2.2.1.getD i []).getD k 0) 0 72 with
    | false=>
      simp only [Bool.not_false,cond_true]
      exact ⟨_,rfl,rfl⟩
    | true=>
      rw [h1,Bool.true_and,Bool.not_eq_false',Bool.and_eq_true] at hb
      simp only [Bool.not_true,cond_false,hb.1,hb.2,cond_true]
      exact ⟨_,rfl,rfl⟩
  · obtain ⟨a0,a1,a2,a3⟩:=h
    have h2:decide (((row n i).length:Int) < ((n.2.2.1.getD i []).length:Int))=false:=ltN _
    simp only [G52_l3_step,a0,a1,a2,a3,inside_lt hi,getD_toNat,cond_true,h2,cond_false]
    exact ⟨_,rfl,rfl,rfl,rfl⟩
  · have:((n.2.2.1.getD (Int.toNat (i:Int)) []).length)=(row n i).length:=by simp [row]
    simp only [G52_l3_fuel,this]
    omega
theorem net_l2 {n:E40} {b:Bool} (h1:n.1.length≤8) (h2:n.2.2.1.length≤100):∃ q,G52_l2_run ((b,(0,())),(n,()))=some q∧((q.1=0∧(q.2.1.1=false)∧(List.range n.2.2.1.length).all (okR n)=false)∨(q.1=1∧(q.2.2.1=n)∧(List.range n.2.2.1.length).all (okR n)=true)):=by
  have hL:IntKind.wrap .i64 ((n.1.length:Int)+1)=(n.1.length:Int)+1:=wr (by omega) (by omega)
  refine iter_chk (step:=G52_l2_step) (ok:=okR n) (n:=n.2.2.1.length) (fun i s=>s.1.1=b∧s.1.2.1=(i:Int)∧s.2.1=n) (fun s=>s.1.1=false) (fun s=>s.2.1=n)
    (fun i s h hi hb=>?_) (fun i s h hi hb=>?_) (fun s h=>?_) (G52_l2_fuel ((b,(0,())),(n,()))) ((b,(0,())),(n,())) (by simp [G52_l2_fuel]) ⟨rfl,rfl,rfl⟩
  · obtain ⟨a0,a1,a2⟩:=h
    simp only [okR,Bool.and_eq_true,Bool.not_eq_true'] at hb
    have hb1:(((n.2.2.1.getD i []).length:Int) != (n.1.length:Int)+1)=false:=hb.1
    have hlen:(row n i).length≤100:=by
      have:((row n i).length:Int)=(n.1.length:Int)+1:=by simpa [row] using hb1
      omega
    obtain ⟨q,e1,e2⟩:=net_l3 (b:=b) hi hlen
    simp only [G52_l2_step,a0,a1,a2,inside_lt hi,getD_toNat,ltI hi,cond_true,hL,hb1,cond_false,e1,Option.bind_some]
    rcases e2 with ⟨c1,c2,c3⟩ | ⟨c1,⟨c2,c3,c4⟩,_⟩
    · rw [hb.2] at c3; cases c3
    · simp only [c1,natK,c2,c3,c4]
      exact ⟨_,rfl,rfl,wr (by omega) (by omega),rfl⟩
  · obtain ⟨a0,a1,a2⟩:=h
    simp only [G52_l2_step,a0,a1,a2,inside_lt hi,getD_toNat,ltI hi,cond_true,hL]
    cases hb1:(((n.2.2.1.getD i []).length:Int) != (n.1.length:Int)+1) with
    | true=>
      simp only [cond_true]
      exact ⟨_,rfl,rfl⟩
    | false=>
      have hlen:(row n i).length≤100:=by
        have:((row n i).length:Int)=(n.1.length:Int)+1:=by simpa [row] using hb1
        omega
      obtain ⟨q,e1,e2⟩:=net_l3 (b:=b) hi hlen
      simp only [cond_false,e1,Option.bind_some]
      rcases e2 with ⟨c1,c2,c3⟩ | ⟨c1,_,c3⟩
      · simp only [c1,natK,c2]
        exact ⟨_,rfl,rfl⟩
      · exfalso
        have hb2:(((row n i).length:Int) != (n.1.length:Int)+1)=false:=hb1
        simp only [okR,hb2,c3,Bool.not_false,Bool.and_self] at hb
        cases hb
  · obtain ⟨a0,a1,a2⟩:=h
    simp only [G52_l2_step,a0,a1,a2,ltN,cond_false]
    exact ⟨_,rfl,rfl⟩
theorem net_l0 {n:E40} {b:Bool} (h1:n.1.length≤100):∃ q,G52_l0_run ((b,(0,())),(n,()))=some q∧((q.1=0∧(q.2.1.1=false)∧(List.range n.1.length).all (fun i=>okLp (n.1.getD i dP))=false)∨(q.1=1∧(q.2.2.1=n)∧(List.range n.1.length).all (fun i=>okLp (n.1.getD i dP))=true)):=by
  refine iter_chk (step:=G52_l0_step) (ok:=fun i=>okLp (n.1.getD i dP)) (n:=n.1.length) (fun i s=>s.1.1=b∧s.1.2.1=(i:Int)∧s.2.1=n) (fun s=>s.1.1=false) (fun s=>s.2.1=n)
    (fun i s h hi hb=>?_) (fun i s h hi hb=>?_) (fun s h=>?_) (G52_l0_fuel ((b,(0,())),(n,()))) ((b,(0,())),(n,())) (by simp [G52_l0_fuel]) ⟨rfl,rfl,rfl⟩
  · obtain ⟨a0,a1,a2⟩:=h
    simp only [G52_l0_step,a0,a1,a2,inside_lt hi,getD_toNat,ltI hi,cond_true,o154,Option.bind_some]
    rw [show (((0,(0,())),((0,(0,())),((0,(0,())),(0,(0,(0,(0,((0,(0,())),())))))))):E123)=dP from rfl,hb]
    exact ⟨_,rfl,rfl,wr (by omega) (by omega),rfl⟩
  · obtain ⟨a0,a1,a2⟩:=h
    simp only [G52_l0_step,a0,a1,a2,inside_lt hi,getD_toNat,ltI hi,cond_true,o154,Option.bind_some]
    rw [show (((0,(0,())),((0,(0,())),((0,(0,())),(0,(0,(0,(0,((0,(0,())),())))))))):E123)=dP from rfl,hb]
    exact ⟨_,rfl,rfl⟩
  · obtain ⟨a0,a1,a2⟩:=h
    simp only [G52_l0_step,a0,a1,a2,ltN,cond_false]
    exact ⟨_,rfl,rfl⟩
theorem net_l1 {n:E40} {b:Bool} (h1:n.2.1.length≤100):∃ q,G52_l1_run ((b,(0,())),(n,()))=some q∧((q.1=0∧(q.2.1.1=false)∧(List.range n.2.1.length).all (fun i=>spB (n.2.1.getD i dF) 0 1000)=false)∨(q.1=1∧(q.2.2.1=n)∧(List.range n.2.1.length).all (fun i=>spB (n.2.1.getD i dF) 0 1000)=true)):=by
  refine iter_chk (step:=G52_l1_step) (ok:=fun i=>spB (n.2.1.getD i dF) 0 1000) (n:=n.2.1.length) (fun i s=>s.1.1=b∧s.1.2.1=(i:Int)∧s.2.1=n) (fun s=>s.1.1=false) (fun s=>s.2.1=n)
    (fun i s h hi hb=>?_) (fun i s h hi hb=>?_) (fun s h=>?_) (G52_l1_fuel ((b,(0,())),(n,()))) ((b,(0,())),(n,())) (by simp [G52_l1_fuel]) ⟨rfl,rfl,rfl⟩
  · obtain ⟨a0,a1,a2⟩:=h
    simp only [G52_l1_step,a0,a1,a2,inside_lt hi,getD_toNat,ltI hi,cond_true,o155,Option.bind_some]
    rw [show ((0,(0,())):E23)=dF from rfl,hb]
    exact ⟨_,rfl,rfl,wr (by omega) (by omega),rfl⟩
  · obtain ⟨a0,a1,a2⟩:=h
    simp only [G52_l1_step,a0,a1,a2,inside_lt hi,getD_toNat,ltI hi,cond_true,o155,Option.bind_some]
    rw [show ((0,(0,())):E23)=dF from rfl,hb]
    exact ⟨_,rfl,rfl⟩
  · obtain ⟨a0,a1,a2⟩:=h
    simp only [G52_l1_step,a0,a1,a2,ltN,cond_false]
    exact ⟨_,rfl,rfl⟩
structure NetOk (n:E40):Prop where
  loops:∀ i,i < n.1.length→okLp (n.1.getD i dP)=true
  frost:∀ i,i < n.2.1.length→spB (n.2.1.getD i dF) 0 1000=true
  rows:∀ i,i < n.2.2.1.length→okR n i=true
  many:1≤n.1.length∧n.1.length≤5
  hours:1≤n.2.1.length∧n.2.1.length≤72
  ways:n.2.2.1.length=n.1.length+1
theorem oNet {n:E40} (h1:n.1.length≤8) (h2:n.2.1.length≤100) (h3:n.2.2.1.length≤100):∃ r,G52 n=some r∧(r=true→NetOk n):=by
  have hL:IntKind.wrap .i64 ((n.1.length:Int)+1)=(n.1.length:Int)+1:=wr (by omega) (by omega)
  unfold G52
  obtain ⟨q0,a1,a2⟩:=net_l0 (n:=n) (b:=false) (by omega)
  rw [a1]
  rcases a2 with ⟨b1,b2,_⟩ | ⟨b1,b2,b3⟩
  · simp only [Option.bind_some,b1,natK,b2]
    exact ⟨_,rfl,fun h=>by cases h⟩
  · simp only [Option.bind_some,b1,natK,b2]
    obtain ⟨q1,c1,c2⟩:=net_l1 (n:=n) (b:=q0.2.1.1) h2
    rw [c1]
    rcases c2 with ⟨d1,d2,_⟩ | ⟨d1,d2,d3⟩
    · simp only [Option.bind_some,d1,natK,d2]
      exact ⟨_,rfl,fun h=>by cases h⟩
    · simp only [Option.bind_some,d1,natK,d2]
      obtain ⟨q2,e1,e2⟩:=net_l2 (n:=n) (b:=q1.2.1.1) h1 h3
      rw [e1]
      rcases e2 with ⟨f1,f2,_⟩ | ⟨f1,f2,f3⟩
      · simp only [Option.bind_some,f1,natK,f2]
        exact ⟨_,rfl,fun h=>by cases h⟩
      · simp only [Option.bind_some,f1,natK,f2,o113,hL]
        cases g1:inB (n.1.length:Int) 1 5 with
        | false=>exact ⟨_,rfl,fun h=>by cases h⟩
        | true=>
        cases g2:inB (n.2.1.length:Int) 1 72 with
        | false=>exact ⟨_,rfl,fun h=>by cases h⟩
        | true=>
        have k1:=inB_spec.1 g1
        have k2:=inB_spec.1 g2
        refine ⟨_,rfl,fun h=>⟨fun i hi=>List.all_eq_true.1 b3 i (List.mem_range.2 hi),fun i hi=>List.all_eq_true.1 d3 i (List.mem_range.2 hi),fun i hi=>List.all_eq_true.1 f3 i (List.mem_range.2 hi),by omega,by omega,?_⟩⟩
        have:(n.2.2.1.length:Int)=(n.1.length:Int)+1:=by simpa using h
        omega
end Go.Proofs.YtkeipcalbbmncaaGreat.Abs
set_option linter.unusedVariables false
set_option linter.unusedSimpArgs false
set_option maxRecDepth 100000
namespace Go.Proofs.YtkeipcalbbmncaaGreat.Abs
theorem o241 (s:E23) (lo hi:Int):G241 s lo hi=some (spB s lo hi):=by
  unfold G241 spB
  by_cases h:lo≤s.1<;>by_cases h':s.1≤s.2.1<;>simp [h,h']
theorem o239 (p:E123):G239 p=some (okLp p):=by
  unfold G239 okLp
  simp only [o241,o125,Option.bind_some]
  cases spB p.1 1 1000<;>cases spB p.2.1 0 1000<;>cases spB p.2.2.1 0 1000<;>by_cases h1:p.2.2.1.1≤p.2.1.1<;>by_cases h2:p.2.2.1.2.1≤p.2.1.2.1<;>cases inB p.2.2.2.1 0 1000000<;>cases inB p.2.2.2.2.1 1 10000<;>cases inB p.2.2.2.2.2.1 0 1000<;>cases inB p.2.2.2.2.2.2.1 0 1000<;>simp [h1,h2]
theorem dec_m1:decide ((-1:Int)≥0)=false:=by decide
theorem o237 {l:List E123} (hl:l.length≤100) (h:∀ i,i < l.length→okLp (l.getD i dP)=true):G237 l=some false:=by
  obtain ⟨q,h1,_⟩:=iter_all (step:=G345_l0_step) (n:=l.length) (k:=1) (fun i s=>s.1.1=l∧s.1.2.2.1=(l.length:Int)∧s.1.2.2.2.1=(i:Int)) (fun _=>True)
    (fun i s hs hi=>by
      obtain ⟨a1,a2,a3⟩:=hs
      simp only [G345_l0_step,a1,a2,a3,inside_lt hi,getD_toNat,ltI hi,cond_true,G238,o239,Option.bind_some]
      rw [show (((0,(0,())),((0,(0,())),((0,(0,())),(0,(0,(0,(0,((0,(0,())),())))))))):E123)=dP from rfl,h i hi]
      exact ⟨_,rfl,rfl,rfl,wr (by omega) (by omega)⟩)
    (fun s hs=>by
      obtain ⟨a1,a2,a3⟩:=hs
      simp only [G345_l0_step,a1,a2,a3,ltN,cond_false]
      exact ⟨_,rfl,trivial⟩)
    (G345_l0_fuel ((l,(0,((List.length l:Int),(0,())))),())) ((l,(0,((List.length l:Int),(0,())))),()) (by simp [G345_l0_fuel]) ⟨rfl,rfl,rfl⟩
  unfold G237 G345 G345_l0_run
  rw [h1]
  simp only [Option.bind_some,natK,dec_m1]
theorem o193 {l:List E23} (hl:l.length≤100) (h:∀ i,i < l.length→spB (l.getD i dF) 0 1000=true):G193_v2 l=some false:=by
  obtain ⟨q,h1,_⟩:=iter_all (step:=G315_v2_l0_step) (n:=l.length) (k:=1) (fun i s=>s.1.1=l∧s.1.2.2.1=(l.length:Int)∧s.1.2.2.2.1=(i:Int)) (fun _=>True)
    (fun i s hs hi=>by
      obtain ⟨a1,a2,a3⟩:=hs
      simp only [G315_v2_l0_step,a1,a2,a3,inside_lt hi,getD_toNat,ltI hi,cond_true,G240,o241,Option.bind_some]
      rw [show ((0,(0,())):E23)=dF from rfl,h i hi]
      exact ⟨_,rfl,rfl,rfl,wr (by omega) (by omega)⟩)
    (fun s hs=>by
      obtain ⟨a1,a2,a3⟩:=hs
      simp only [G315_v2_l0_step,a1,a2,a3,ltN,cond_false]
      exact ⟨_,rfl,trivial⟩)
    (G315_v2_l0_fuel ((l,(0,((List.length l:Int),(0,())))),())) ((l,(0,((List.length l:Int),(0,())))),()) (by simp [G315_v2_l0_fuel]) ⟨rfl,rfl,rfl⟩
  unfold G193_v2 G315_v2 G315_v2_l0_run
  rw [h1]
  simp only [Option.bind_some,natK,dec_m1]
theorem o106 {l:List Int} (hl:l.length≤100) (h:∀ i,i < l.length→inB (l.getD i 0) 0 72=true):G106_v1 l=some false:=by
  obtain ⟨q,h1,_⟩:=iter_all (step:=G178_v2_l0_step) (n:=l.length) (k:=1) (fun i s=>s.1.1=l∧s.1.2.2.1=(l.length:Int)∧s.1.2.2.2.1=(i:Int)) (fun _=>True)
    (fun i s hs hi=>by
      obtain ⟨a1,a2,a3⟩:=hs
      simp only [G178_v2_l0_step,a1,a2,a3,inside_lt hi,getD_toNat,ltI hi,cond_true,G236,o125,Option.bind_some,h i hi]
      exact ⟨_,rfl,rfl,rfl,wr (by omega) (by omega)⟩)
    (fun s hs=>by
      obtain ⟨a1,a2,a3⟩:=hs
      simp only [G178_v2_l0_step,a1,a2,a3,ltN,cond_false]
      exact ⟨_,rfl,trivial⟩)
    (G178_v2_l0_fuel ((l,(0,((List.length l:Int),(0,())))),())) ((l,(0,((List.length l:Int),(0,())))),()) (by simp [G178_v2_l0_fuel]) ⟨rfl,rfl,rfl⟩
  unfold G106_v1 G178_v2 G178_v2_l0_run
  rw [h1]
  simp only [Option.bind_some,natK,dec_m1]
theorem row_of {n:E40} (hn:NetOk n) {i:Nat} (hi:i < n.2.2.1.length):(n.2.2.1.getD i []).length=n.1.length+1∧(n.2.2.1.getD i []).getD i 0=0∧∀ k,k < (n.2.2.1.getD i []).length→inB ((n.2.2.1.getD i []).getD k 0) 0 72=true:=by
  have h:=hn.rows i hi
  have hw:=hn.ways
  simp only [okR,Bool.and_eq_true,Bool.not_eq_true'] at h
  obtain ⟨h1,h2⟩:=h
  have h3:(row n i).length=n.1.length+1:=by
    have:((row n i).length:Int)=(n.1.length:Int)+1:=by simpa using h1
    omega
  have h4:∀ k,k < (row n i).length→okC n i k=true:=fun k hk=>List.all_eq_true.1 h2 k (List.mem_range.2 hk)
  refine ⟨h3,?_,fun k hk=>?_⟩
  · have h5:=h4 i (by omega)
    simp only [okC,Bool.and_eq_true,Bool.not_eq_true',beq_self_eq_true,Bool.true_and] at h5
    simpa [row] using h5.2
  · have h5:=h4 k hk
    simp only [okC,Bool.and_eq_true] at h5
    exact h5.1
theorem o124 {n:E40} (hn:NetOk n):G124 n=some true:=by
  obtain ⟨k1,k2⟩:=hn.many
  obtain ⟨k3,k4⟩:=hn.hours
  have hw:=hn.ways
  have hL:IntKind.wrap .i64 ((n.1.length:Int)+1)=(n.1.length:Int)+1:=wr (by omega) (by omega)
  have hne:((n.2.2.1.length:Int) != (n.1.length:Int)+1)=false:=by rw [hw]; simp
  obtain ⟨q,h1,h2⟩:=iter_all (step:=G124_l0_step) (n:=n.2.2.1.length) (k:=1) (fun i s=>s.1.2.1=(n.1.length:Int)+1∧s.1.2.2.1=n.2.2.1∧s.1.2.2.2.1=(n.2.2.1.length:Int)∧s.1.2.2.2.2.1=(i:Int)∧s.2.1=n) (fun s=>s.2.1=n)
    (fun i s hs hi=>by
      obtain ⟨a1,a2,a3,a4,a5⟩:=hs
      obtain ⟨r1,r2,r3⟩:=row_of hn hi
      have e1:(((n.2.2.1.getD i []).length:Int) != (n.1.length:Int)+1)=false:=by rw [r1]; simp
      have e2:i < (n.2.2.1.getD i []).length:=by omega
      have e3:((n.2.2.1.getD i []).getD i 0 != 0)=false:=by rw [r2]; rfl
      simp only [G124_l0_step,a1,a2,a3,a4,a5,inside_lt hi,getD_toNat,ltI hi,cond_true,e1,cond_false,inside_lt e2,e3,o106 (show (n.2.2.1.getD i []).length≤100 by omega) r3,Option.bind_some]
      exact ⟨_,rfl,rfl,rfl,rfl,wr (by omega) (by omega),rfl⟩)
    (fun s hs=>by
      obtain ⟨a1,a2,a3,a4,a5⟩:=hs
      simp only [G124_l0_step,a1,a2,a3,a4,a5,ltN,cond_false]
      exact ⟨_,rfl,rfl⟩)
    (G124_l0_fuel ((false,((n.1.length:Int)+1,(n.2.2.1,((List.length n.2.2.1:Int),(0,()))))),(n,()))) ((false,((n.1.length:Int)+1,(n.2.2.1,((List.length n.2.2.1:Int),(0,()))))),(n,())) (by simp [G124_l0_fuel]) ⟨rfl,rfl,rfl,rfl,rfl⟩
  unfold G124
  rw [hL,hne]
  unfold G124_l0_run
  simp only [cond_false]
  rw [h1]
  have g1:inB (n.1.length:Int) 1 5=true:=inB_spec.2 ⟨by omega,by omega⟩
  have g2:inB (n.2.1.length:Int) 1 72=true:=inB_spec.2 ⟨by omega,by omega⟩
  simp only [Option.bind_some,natK,h2,o125,g1,g2,cond_true,o237 (show n.1.length≤100 by omega) hn.loops,o193 (show n.2.1.length≤100 by omega) hn.frost,Bool.not_false]
theorem okLp_spec {p:E123} (h:okLp p=true):(1≤p.1.1∧p.1.1≤p.1.2.1∧p.1.2.1≤1000)∧(0≤p.2.1.1∧p.2.1.1≤p.2.1.2.1∧p.2.1.2.1≤1000)∧(1≤p.2.2.2.2.1∧p.2.2.2.2.1≤10000)∧(0≤p.2.2.2.2.2.1∧p.2.2.2.2.2.1≤1000)∧0≤p.2.2.2.2.2.2.1∧p.2.2.2.2.2.2.1≤1000:=by
  unfold okLp at h
  simp only [Bool.and_eq_true] at h
  obtain ⟨⟨⟨⟨⟨⟨⟨⟨⟨h1,h2⟩,h3⟩,h4⟩,h5⟩,h6⟩,h7⟩,h8⟩,h9⟩,h10⟩:=h
  exact ⟨spB_spec h1,spB_spec h2,inB_spec.1 h7,inB_spec.1 h8,inB_spec.1 h9⟩
end Go.Proofs.YtkeipcalbbmncaaGreat.Abs
set_option linter.unusedVariables false
set_option linter.unusedSimpArgs false
set_option maxRecDepth 100000
namespace Go.Proofs.YtkeipcalbbmncaaGreat.Abs
def lpA (n:E40) (j:Int):E123:=n.1.getD (Int.toNat j) dP
theorem o38b (n:E40) (j:Int) (h:n.1.length≤100):G38 n j=some (inB j 0 ((n.1.length:Int) - 1)):=by
  unfold G38
  rw [wr (by omega) (by omega),o113]
  rfl
def okH (n:E40) (j:Int) (l:List E205) (h:Nat):Bool:=decide (h < n.2.1.length)&&(inB (l.getD h dR).1 (lpA n j).2.1.1 (lpA n j).2.1.2.1&&inB (l.getD h dR).2.1 (n.2.1.getD h dF).1 (n.2.1.getD h dF).2.1)
theorem o39 {n:E40} {j:Int} {l:List E205} (hj:0≤j∧j < (n.1.length:Int)) (hl:l.length≤100):G39 n j l=some ((List.range l.length).all (okH n j l)):=by
  have gj:(decide (0≤j)&&decide (j < (List.length n.1:Int)))=true:=by simp only [Bool.and_eq_true,decide_eq_true_eq]; exact hj
  obtain ⟨q,e1,e2⟩:=iter_chk (step:=G39_l0_step) (ok:=okH n j l) (n:=l.length) (fun h s=>s.1.1=j∧s.1.2.1=l∧s.1.2.2.2.1=(h:Int)∧s.2.1=n) (fun s=>s.1.2.2.1=false) (fun _=>True)
    (fun h s hs hh hb=>by
      obtain ⟨a1,a2,a3,a4⟩:=hs
      have g5:decide (0≤(h:Int))=true:=by simp
      simp only [okH,Bool.and_eq_true,decide_eq_true_eq] at hb
      obtain ⟨b1,b2,b3⟩:=hb
      have g1:decide ((h:Int)≥(n.2.1.length:Int))=false:=by simp only [decide_eq_false_iff_not]; omega
      simp only [G39_l0_step,a1,a2,a3,a4,inside_lt hh,inside_lt b1,getD_toNat,ltI hh,cond_true,g1,cond_false,gj,o113,Option.bind_some,g5,ltI b1,Bool.true_and,Bool.and_true]
      rw [show ((0,(0,(false,()))):E205)=dR from rfl,show (((0,(0,())),((0,(0,())),((0,(0,())),(0,(0,(0,(0,((0,(0,())),())))))))):E123)=dP from rfl,show ((0,(0,())):E23)=dF from rfl]
      rw [show n.1.getD (Int.toNat j) dP=lpA n j from rfl,b2,b3]
      simp only [Bool.not_true,cond_false]
      exact ⟨_,rfl,rfl,rfl,wr (by omega) (by omega),rfl⟩)
    (fun h s hs hh hb=>by
      obtain ⟨a1,a2,a3,a4⟩:=hs
      have g5:decide (0≤(h:Int))=true:=by simp
      simp only [okH] at hb
      simp only [G39_l0_step,a1,a2,a3,a4,inside_lt hh,getD_toNat,ltI hh,cond_true,g5,Bool.true_and,Bool.and_true]
      cases g1:decide ((h:Int)≥(n.2.1.length:Int)) with
      | true=>
        simp only [cond_true]
        exact ⟨_,rfl,rfl⟩
      | false=>
        have b1:h < n.2.1.length:=by simp only [decide_eq_false_iff_not] at g1; omega
        simp only [cond_false,inside_lt b1,cond_true,gj,o113,Option.bind_some,ltI b1]
        rw [show ((0,(0,(false,()))):E205)=dR from rfl,show (((0,(0,())),((0,(0,())),((0,(0,())),(0,(0,(0,(0,((0,(0,())),())))))))):E123)=dP from rfl,show ((0,(0,())):E23)=dF from rfl]
        rw [show n.1.getD (Int.toNat j) dP=lpA n j from rfl]
        rw [show decide (h < n.2.1.length)=true from by simpa using b1,Bool.true_and] at hb
        cases b2:inB (l.getD h dR).1 (lpA n j).2.1.1 (lpA n j).2.1.2.1 with
        | false=>
          simp only [Bool.not_false,cond_true]
          exact ⟨_,rfl,rfl⟩
        | true=>
          rw [b2,Bool.true_and] at hb
          rw [hb]
          simp only [Bool.not_true,cond_false,Bool.not_false,cond_true]
          exact ⟨_,rfl,rfl⟩)
    (fun s hs=>by
      obtain ⟨a1,a2,a3,a4⟩:=hs
      simp only [G39_l0_step,a1,a2,a3,a4,ltN,cond_false]
      exact ⟨_,rfl,trivial⟩)
    (G39_l0_fuel ((j,(l,(false,(0,())))),(n,()))) ((j,(l,(false,(0,())))),(n,())) (by simp [G39_l0_fuel]) ⟨rfl,rfl,rfl,rfl⟩
  unfold G39 G39_l0_run
  rw [e1]
  rcases e2 with ⟨c1,c2,c3⟩ | ⟨c1,_,c3⟩
  · simp only [Option.bind_some,c1,natK,c2,c3]
  · simp only [Option.bind_some,c1,natK,c3]
theorem hou_of {n:E40} {j:Int} {l:List E205} (hn:NetOk n) (hj:0≤j∧j < (n.1.length:Int)) (hl:l.length≤n.2.1.length) (ht:(List.range l.length).all (okH n j l)=true):Hou n (lpA n j) l:=by
  obtain ⟨k3,k4⟩:=hn.hours
  obtain ⟨p1,p2,p3,p4,p5⟩:=okLp_spec (p:=lpA n j) (hn.loops (Int.toNat j) (by omega))
  refine ⟨⟨hl,by omega⟩,p3,p4,p5,fun h hh=>?_,fun h hh=>?_⟩
  · have:=List.all_eq_true.1 ht h (List.mem_range.2 hh)
    simp only [okH,Bool.and_eq_true] at this
    have b:=inB_spec.1 this.2.1
    exact ⟨this.2.1,by omega,by omega⟩
  · have:=List.all_eq_true.1 ht h (List.mem_range.2 hh)
    simp only [okH,Bool.and_eq_true] at this
    have b:=inB_spec.1 this.2.2
    have c:=spB_spec (hn.frost h (by omega))
    exact ⟨this.2.2,by omega,by omega⟩
theorem o41 {n:E40} {j warm:Int} {l:List E205} (hn:NetOk n) (hj:0≤j∧j < (n.1.length:Int)) (hl:l.length≤n.2.1.length) (hw:(lpA n j).1.1≤warm∧warm≤(lpA n j).1.2.1) (ht:(List.range l.length).all (okH n j l)=true) :
    ∃ x,G41 n j warm l=some (x,(0,()))∧Hea (lpA n j).2.2.2.2.1 warm l.length x:=by
  obtain ⟨k1,k2⟩:=hn.many
  obtain ⟨k3,k4⟩:=hn.hours
  obtain ⟨p1,_⟩:=okLp_spec (p:=lpA n j) (hn.loops (Int.toNat j) (by omega))
  have gj:(decide (0≤j)&&decide (j < (List.length n.1:Int)))=true:=by simp only [Bool.and_eq_true,decide_eq_true_eq]; exact hj
  have g0:decide ((List.length l:Int) > (List.length n.2.1:Int))=false:=by simp only [decide_eq_false_iff_not]; omega
  have g1:inB j 0 (IntKind.wrap .i64 ((List.length n.1:Int) - 1))=true:=by rw [wr (by omega) (by omega)]; exact inB_spec.2 ⟨by omega,by omega⟩
  have g2:inB warm (lpA n j).1.1 (lpA n j).1.2.1=true:=inB_spec.2 hw
  obtain ⟨q,h1,h2⟩:=play_l0 (z:=0) (x0:=(0,(0,(0,(0,()))))) (hou_of hn hj hl ht) (warm:=warm) ⟨by omega,by omega⟩
  unfold G41
  rw [g0,o124 hn]
  simp only [cond_false,Option.bind_some,Bool.not_true,o125,g1,gj,cond_true]
  rw [show (((0,(0,())),((0,(0,())),((0,(0,())),(0,(0,(0,(0,((0,(0,())),())))))))):E123)=dP from rfl]
  rw [show n.1.getD (Int.toNat j) dP=lpA n j from rfl,g2]
  simp only [Bool.not_true,cond_false]
  rw [h1]
  exact ⟨_,rfl,h2⟩
theorem o37 (n:E40):∃ r,G37 n=some r∧(r=true→NetOk n):=by
  obtain ⟨q,e1,e2⟩:=iter_chk (step:=G37_l0_step) (ok:=fun i=>!decide (((n.2.2.1.getD i []).length:Int) > 10)) (n:=min n.2.2.1.length 10) (fun i s=>s.1.2.1=(i:Int)∧s.2.1=n) (fun s=>s.1.1=false) (fun s=>s.2.1=n)
    (fun i s hs hi hb=>by
      obtain ⟨a1,a2⟩:=hs
      have hi1:i < n.2.2.1.length:=by omega
      have g1:decide ((i:Int) < 10)=true:=by simp only [decide_eq_true_eq]; omega
      have hb':decide (((n.2.2.1.getD i []).length:Int) > 10)=false:=by simpa using hb
      simp only [G37_l0_step,a1,a2,inside_lt hi1,getD_toNat,ltI hi1,cond_true,g1,hb',cond_false]
      exact ⟨_,rfl,wr (by omega) (by omega),rfl⟩)
    (fun i s hs hi hb=>by
      obtain ⟨a1,a2⟩:=hs
      have hi1:i < n.2.2.1.length:=by omega
      have g1:decide ((i:Int) < 10)=true:=by simp only [decide_eq_true_eq]; omega
      have hb':decide (((n.2.2.1.getD i []).length:Int) > 10)=true:=by simpa using hb
      simp only [G37_l0_step,a1,a2,inside_lt hi1,getD_toNat,ltI hi1,cond_true,g1,hb']
      exact ⟨_,rfl,rfl⟩)
    (fun s hs=>by
      obtain ⟨a1,a2⟩:=hs
      simp only [G37_l0_step,a1,a2]
      cases hc:decide (((min n.2.2.1.length 10:Nat):Int) < (n.2.2.1.length:Int)) with
      | false=>exact ⟨_,rfl,rfl⟩
      | true=>
        have g1:decide (((min n.2.2.1.length 10:Nat):Int) < 10)=false:=by
          simp only [decide_eq_true_eq] at hc
          simp only [decide_eq_false_iff_not]
          omega
        simp only [cond_true,g1,cond_false]
        exact ⟨_,rfl,rfl⟩)
    (G37_l0_fuel ((false,(0,())),(n,()))) ((false,(0,())),(n,())) (by simp only [G37_l0_fuel]; omega) ⟨rfl,rfl⟩
  unfold G37 G37_l0_run
  rw [e1]
  rcases e2 with ⟨c1,c2,_⟩ | ⟨c1,c2,_⟩
  · simp only [Option.bind_some,c1,natK,c2]
    exact ⟨_,rfl,fun h=>by cases h⟩
  · simp only [Option.bind_some,c1,natK,c2]
    cases g1:decide ((List.length n.1:Int)≤8) with
    | false=>exact ⟨_,rfl,fun h=>by cases h⟩
    | true=>
    cases g2:decide ((List.length n.2.1:Int)≤80) with
    | false=>exact ⟨_,rfl,fun h=>by cases h⟩
    | true=>
    cases g3:decide ((List.length n.2.2.1:Int)≤10) with
    | false=>exact ⟨_,rfl,fun h=>by cases h⟩
    | true=>
    simp only [decide_eq_true_eq] at g1 g2 g3
    obtain ⟨r,h1,h2⟩:=oNet (n:=n) (by omega) (by omega) (by omega)
    simp only [cond_true,h1,Option.bind_some]
    exact ⟨_,rfl,h2⟩
end Go.Proofs.YtkeipcalbbmncaaGreat.Abs
set_option linter.unusedVariables false
set_option linter.unusedSimpArgs false
set_option maxRecDepth 100000
namespace Go.Proofs.YtkeipcalbbmncaaGreat.Abs
theorem ledger (t:E118) (a:Int):∀ i,Ins t i=Outs t a i+(RL t a i).2
  | 0=>rfl
  | i+1=>by
    have:=ledger t a i
    rw [RL_succ]
    show Ins t i+hea t i=Outs t a i+Ou t a i+(Lf t a i - Ou t a i)
    have h:Lf t a i=(RL t a i).2+hea t i:=rfl
    omega
def plQ (p:E25) (g:Int):E25:=(p.1,((0,((if g > p.2.1.2.1 then g else p.2.1.2.1),())),p.2.2))
def trU (t:E118) (g:Int):E118:=(t.1,(t.2.1.set 0 g,t.2.2))
theorem plQ_ok {p:E25} {g:Int} (hp:okPl p=true) (h0:0≤g) (h9:g≤1000000):okPl (plQ p g)=true:=by
  have hw:=okPl_warm hp
  unfold okPl at hp ⊢
  simp only [Bool.and_eq_true] at hp ⊢
  refine ⟨⟨hp.1.1,?_⟩,hp.2⟩
  unfold spB plQ
  simp only [Bool.and_eq_true,decide_eq_true_eq]
  split<;>omega
theorem getD_set0 (l:List Int) (g:Int) (i:Nat):(l.set 0 g).getD i 0=if 0=i∧i < l.length then g else l.getD i 0:=by
  rw [List.getD_eq_getElem?_getD,List.getElem?_set,List.getD_eq_getElem?_getD]
  by_cases h:0=i
  · subst h
    by_cases hl:0 < l.length
    · simp [hl]
    · simp [hl]
  · simp [h]
theorem trU_ok {p:E25} {l:List E73} {t:E118} {g e:Int} (hp:okPl p=true) (ht:truB p l t=true) (h0:0≤e) (h9:e≤g):truB (plQ p g) l (trU t e)=true:=by
  obtain ⟨t0,t1,t2,t3,t4⟩:=truB_spec ht
  obtain ⟨w1,w2⟩:=insI_spec t1
  have hw:=okPl_warm hp
  unfold truB
  simp only [Bool.and_eq_true]
  refine ⟨⟨⟨⟨t0,?_⟩,t2⟩,t3⟩,t4⟩
  refine insI_of (by show (t.2.1.set 0 e).length=l.length; rw [List.length_set]; exact w1) fun i hi=>?_
  have:=w2 i hi
  show 0≤(t.2.1.set 0 e).getD i 0∧(t.2.1.set 0 e).getD i 0≤(if g > p.2.1.2.1 then g else p.2.1.2.1)
  rw [getD_set0]
  split<;>split<;>omega
theorem trU_wrm {t:E118} {g:Int} {n:Nat} (h0:0≤g):Wrm (trU t 0) (trU t g) 0 0 n:=by
  refine ⟨fun i hi=>?_,fun i hi=>Int.le_refl _⟩
  show (t.2.1.set 0 0).getD i 0+t.2.2.1.getD i 0≤(t.2.1.set 0 g).getD i 0+t.2.2.1.getD i 0
  rw [getD_set0,getD_set0]
  split<;>omega
theorem trU_deeper {p:E25} {l:List E73} {t:E118} {g:Int} (hl:l.length≤12) (hp:okPl p=true) (hy:l.all okY=true) (ht:truB p l t=true) (h0:0≤g) (h9:g≤1000000) {i:Nat} (hi:i < l.length):thw (plQ p g) (trU t 0) 0 i≤thw (plQ p g) (trU t g) 0 i:=by
  have hq:=plQ_ok (g:=g) hp h0 h9
  obtain ⟨T0,L0⟩:=tru_of hl hq hy (trU_ok (e:=0) hp ht (Int.le_refl _) h0)
  obtain ⟨T1,L1⟩:=tru_of hl hq hy (trU_ok (e:=g) hp ht h0 (Int.le_refl _))
  exact thw_mono T0 T1 L0 L1 (fun _ _=>Int.le_refl _) (Int.le_refl _) (Int.le_refl _) (trU_wrm (n:=l.length) h0) (Nat.le_refl _) hi
end Go.Proofs.YtkeipcalbbmncaaGreat.Abs
