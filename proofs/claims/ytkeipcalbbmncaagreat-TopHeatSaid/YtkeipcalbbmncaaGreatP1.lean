import Derived.Test.YtkeipcalbbmncaaGreatF3
import Derived.IntWalk
set_option linter.unusedVariables false
set_option linter.unusedSimpArgs false
set_option maxRecDepth 100000
namespace Go.Proofs.YtkeipcalbbmncaaGreat.Abs
theorem wr {n:Int} (h : -9223372036854775808≤n) (h':n≤9223372036854775807):IntKind.wrap .i64 n=n:=by rw [IntKind.wrap_i64]; omega
theorem iter_one {α:Type} {step:α→Option (Nat×α)} {fuel:Nat} {s s':α} (h:step s=some (0,s')):iter step (fuel+1) s=iter step fuel s':=by
  simp only [iter,h,Option.bind_some]
theorem iter_out {α:Type} {step:α→Option (Nat×α)} {fuel n:Nat} {s s':α} (h:step s=some (n+1,s')):iter step (fuel+1) s=some (n,s'):=by
  simp only [iter,h,Option.bind_some]
theorem iter_find {α:Type} {step:α→Option (Nat×α)} {bad:Nat→Bool} {n k1 k2:Nat} (I:Nat→α→Prop) (E1:Nat→α→Prop) (E2:α→Prop)
    (hgo:∀ i s,I i s→i < n→bad i=false→∃ s',step s=some (0,s')∧I (i+1) s') (hbad:∀ i s,I i s→i < n→bad i=true→∃ s',step s=some (k1+1,s')∧E1 i s') (hend:∀ s,I n s→∃ s',step s=some (k2+1,s')∧E2 s') :
    ∀ (m i fuel:Nat) (s:α),i+m=n→m < fuel→I i s→(∃ j q,i≤j∧j < n∧bad j=true∧(∀ l,i≤l→l < j→bad l=false)∧iter step fuel s=some (k1,q)∧E1 j q)∨((∀ l,i≤l→l < n→bad l=false)∧∃ q,iter step fuel s=some (k2,q)∧E2 q)
  | 0,i,0,s,hi,hf,hs=>by omega
  | 0,i,fuel+1,s,hi,hf,hs=>by
    obtain rfl:i=n:=by omega
    obtain ⟨s',h1,h2⟩:=hend s hs
    exact .inr ⟨fun l h h'=>by omega,s',iter_out h1,h2⟩
  | m+1,i,0,s,hi,hf,hs=>by omega
  | m+1,i,fuel+1,s,hi,hf,hs=>by
    cases hb:bad i with
    | true=>
      obtain ⟨s',h1,h2⟩:=hbad i s hs (by omega) hb
      exact .inl ⟨i,s',Nat.le_refl _,by omega,hb,fun l h h'=>by omega,iter_out h1,h2⟩
    | false=>
      obtain ⟨s',h1,h2⟩:=hgo i s hs (by omega) hb
      rw [iter_one h1]
      rcases iter_find I E1 E2 hgo hbad hend m (i+1) fuel s' (by omega) (by omega) h2 with ⟨j,q,a1,a2,a3,a4,a5⟩ | ⟨a1,a2⟩
      · refine .inl ⟨j,q,by omega,a2,a3,fun l h h'=>?_,a5⟩
        rcases Nat.eq_or_lt_of_le h with rfl | h
        · exact hb
        · exact a4 l h h'
      · refine .inr ⟨fun l h h'=>?_,a2⟩
        rcases Nat.eq_or_lt_of_le h with rfl | h
        · exact hb
        · exact a1 l h h'
theorem iter_all {α:Type} {step:α→Option (Nat×α)} {n k:Nat} (I:Nat→α→Prop) (E:α→Prop)
    (hgo:∀ i s,I i s→i < n→∃ s',step s=some (0,s')∧I (i+1) s') (hend:∀ s,I n s→∃ s',step s=some (k+1,s')∧E s') (fuel:Nat) (s:α) (hf:n < fuel) (hs:I 0 s):∃ q,iter step fuel s=some (k,q)∧E q:=by
  rcases iter_find (bad:=fun _=>false) (k1:=0) I (fun _ _=>False) E (fun i s h h' _=>hgo i s h h') (fun i s _ _ h=>by cases h) hend n 0 fuel s (by omega) hf hs with ⟨j,q,_,_,h,_⟩ | ⟨_,h⟩
  · cases h
  · exact h
def inB (x lo hi:Int):Bool:=decide (lo≤x)&&decide (x≤hi)
def spB (s:E23) (lo hi:Int):Bool:=decide (lo≤s.1)&&decide (s.1≤s.2.1)&&decide (s.2.1≤hi)
def okL (x:E178):Bool:=inB x.1 1 20000&&spB x.2.1 1 1000
def okY (y:E73):Bool:=spB y.1 0 1000000&&spB y.2.1 0 1000000&&spB y.2.2.1 0 1000
def okPl (p:E25):Bool:=inB (List.length p.1:Int) 1 6&&spB p.2.1 0 1000000&&p.1.all okL
def dL:E178:=(0,((0,(0,())),()))
def dY:E73:=((0,(0,())),((0,(0,())),((0,(0,())),())))
theorem getD_toNat {α:Type} (l:List α) (i:Nat) (d:α):List.getD l (Int.toNat (i:Int)) d=l.getD i d:=by simp
theorem inside_lt {i n:Nat} (h:i < n):(decide (0≤(i:Int))&&decide ((i:Int) < (n:Int)))=true:=by simp; omega
theorem o70 (x lo hi:Int):G177 x lo hi=some (inB x lo hi):=by
  unfold G177 inB
  by_cases h:lo≤x<;>simp [h]
theorem o59 (x lo hi:Int):G69 x lo hi=some (inB x lo hi):=o70 x lo hi
theorem o73 (s:E23) (lo hi:Int):G176 s lo hi=some (spB s lo hi):=by
  unfold G176 spB
  by_cases h:lo≤s.1<;>by_cases h':s.1≤s.2.1<;>simp [h,h']
theorem o67 (s:E23) (lo hi:Int):G70 s lo hi=some (spB s lo hi):=o73 s lo hi
theorem o83 (x:E178):G279 x=some (!okL x):=by
  unfold G279 okL
  rw [o70,o73]
  simp only [Option.bind_some]
  cases inB x.1 1 20000<;>simp
theorem o72 (y:E73):G175 y=some (!okY y):=by
  unfold G175 okY
  simp only [o73,Option.bind_some]
  cases spB y.1 0 1000000<;>cases spB y.2.1 0 1000000<;>simp
theorem all_of_get {α:Type} {l:List α} {f:α→Bool} {d:α}:l.all f=true↔∀ i,i < l.length→f (l.getD i d)=true:=by
  constructor
  · intro h i hi
    rw [List.getD_eq_getElem?_getD,List.getElem?_eq_getElem hi]
    exact List.all_eq_true.1 h _ (List.getElem_mem hi)
  · intro h
    refine List.all_eq_true.2 fun x hx=>?_
    obtain ⟨i,hi,rfl⟩:=List.mem_iff_getElem.1 hx
    have:=h i hi
    rw [List.getD_eq_getElem?_getD,List.getElem?_eq_getElem hi] at this
    exact this
theorem not_all_of {α:Type} {l:List α} {f:α→Bool} {d:α} {i:Nat} (hi:i < l.length) (h:f (l.getD i d)=false):l.all f=false:=by
  cases ha:l.all f with
  | false=>rfl
  | true=>rw [all_of_get.1 ha i hi] at h; cases h
theorem o94 (l:List E178) (hl:l.length < 2^40):∃ r,G367 l=some r∧decide (r≥0)=!l.all okL:=by
  unfold G367 G367_l0_run
  rcases iter_find (step:=G367_l0_step) (bad:=fun i=>!okL (l.getD i dL)) (n:=l.length) (k1:=0) (k2:=1) (fun i s=>s.1.1=l∧s.1.2.2.1=(l.length:Int)∧s.1.2.2.2.1=(i:Int)) (fun j s=>s.1.2.1=(j:Int)) (fun _=>True)
    (fun i s h hi hb=>by
      obtain ⟨h1,h2,h3⟩:=h
      simp only [G367_l0_step,h1,h2,h3,inside_lt hi,o83,getD_toNat,show decide ((i:Int) < (l.length:Int))=true from by simp; omega,cond_true,Option.bind_some]
      rw [show (0,((0,(0,())),()))=dL from rfl,hb]
      exact ⟨_,rfl,rfl,rfl,wr (by omega) (by omega)⟩)
    (fun i s h hi hb=>by
      obtain ⟨h1,h2,h3⟩:=h
      simp only [G367_l0_step,h1,h2,h3,inside_lt hi,o83,getD_toNat,show decide ((i:Int) < (l.length:Int))=true from by simp; omega,cond_true,Option.bind_some]
      rw [show (0,((0,(0,())),()))=dL from rfl,hb]
      exact ⟨_,rfl,rfl⟩)
    (fun s h=>by
      obtain ⟨h1,h2,h3⟩:=h
      simp only [G367_l0_step,h1,h2,h3,show decide ((l.length:Int) < (l.length:Int))=false from by simp,cond_false]
      exact ⟨_,rfl,trivial⟩)
    l.length 0 (G367_l0_fuel ((l,(0,((List.length l:Int),(0,())))),())) ((l,(0,((List.length l:Int),(0,())))),()) (by omega) (by simp [G367_l0_fuel]) ⟨rfl,rfl,rfl⟩ with ⟨j,q,_,hj,hb,_,h1,h2⟩ | ⟨hb,q,h1,_⟩
  · refine ⟨(j:Int),?_,?_⟩
    · rw [h1]; simp only [Option.bind_some,natK,h2]
    · rw [not_all_of (d:=dL) hj (by simpa using hb)]; simp
  · refine ⟨-1,?_,?_⟩
    · rw [h1]; simp only [Option.bind_some,natK]
    · rw [(all_of_get (d:=dL)).2 fun i hi=>by simpa using hb i (by omega) hi]; simp
theorem o82 (l:List E178) (hl:l.length < 2^40):G278 l=some (!l.all okL):=by
  obtain ⟨r,h1,h2⟩:=o94 l hl
  unfold G278
  rw [h1]; simp only [Option.bind_some,h2]
theorem o66 (p:E25) (hl:p.1.length < 2^40):G173 p=some (okPl p):=by
  unfold G173 okPl
  simp only [o70,o73,o82 p.1 hl,Option.bind_some]
  cases inB (List.length p.1:Int) 1 6<;>cases spB p.2.1 0 1000000<;>simp
theorem o85 (l:List E73) (hl:l.length < 2^40):∃ r,G280 l=some r∧decide (r≥0)=!l.all okY:=by
  unfold G280 G280_l0_run
  rcases iter_find (step:=G280_l0_step) (bad:=fun i=>!okY (l.getD i dY)) (n:=l.length) (k1:=0) (k2:=1) (fun i s=>s.1.1=l∧s.1.2.2.1=(l.length:Int)∧s.1.2.2.2.1=(i:Int)) (fun j s=>s.1.2.1=(j:Int)) (fun _=>True)
    (fun i s h hi hb=>by
      obtain ⟨h1,h2,h3⟩:=h
      simp only [G280_l0_step,h1,h2,h3,inside_lt hi,o72,getD_toNat,show decide ((i:Int) < (l.length:Int))=true from by simp; omega,cond_true,Option.bind_some]
      rw [show ((0,(0,())),((0,(0,())),((0,(0,())),())))=dY from rfl,hb]
      exact ⟨_,rfl,rfl,rfl,wr (by omega) (by omega)⟩)
    (fun i s h hi hb=>by
      obtain ⟨h1,h2,h3⟩:=h
      simp only [G280_l0_step,h1,h2,h3,inside_lt hi,o72,getD_toNat,show decide ((i:Int) < (l.length:Int))=true from by simp; omega,cond_true,Option.bind_some]
      rw [show ((0,(0,())),((0,(0,())),((0,(0,())),())))=dY from rfl,hb]
      exact ⟨_,rfl,rfl⟩)
    (fun s h=>by
      obtain ⟨h1,h2,h3⟩:=h
      simp only [G280_l0_step,h1,h2,h3,show decide ((l.length:Int) < (l.length:Int))=false from by simp,cond_false]
      exact ⟨_,rfl,trivial⟩)
    l.length 0 (G280_l0_fuel ((l,(0,((List.length l:Int),(0,())))),())) ((l,(0,((List.length l:Int),(0,())))),()) (by omega) (by simp [G280_l0_fuel]) ⟨rfl,rfl,rfl⟩ with ⟨j,q,_,hj,hb,_,h1,h2⟩ | ⟨hb,q,h1,_⟩
  · refine ⟨(j:Int),?_,?_⟩
    · rw [h1]; simp only [Option.bind_some,natK,h2]
    · rw [not_all_of (d:=dY) hj (by simpa using hb)]; simp
  · refine ⟨-1,?_,?_⟩
    · rw [h1]; simp only [Option.bind_some,natK]
    · rw [(all_of_get (d:=dY)).2 fun i hi=>by simpa using hb i (by omega) hi]; simp
theorem o71 (l:List E73) (hl:l.length < 2^40):G174 l=some (!l.all okY):=by
  obtain ⟨r,h1,h2⟩:=o85 l hl
  unfold G174
  rw [h1]; simp only [Option.bind_some,h2]
def errOf (p:E25) (l:List E73) (fine:Bool):Int:=bif decide ((l.length:Int) > 12) then 3 else bif fine&&okPl p&&l.all okY then 0 else 2
theorem o51 (p:E25) (l:List E73) (fine:Bool) (hp:p.1.length < 2^40) (hl:l.length < 2^40):G63 p l fine=some (errOf p l fine):=by
  unfold G63 errOf
  rw [o66 p hp,o71 l hl]
  simp only [Option.bind_some]
  cases decide ((l.length:Int) > 12)<;>cases fine<;>cases okPl p<;>cases l.all okY<;>rfl
theorem o38 (p:E25) (hl:p.1.length < 2^40):G13 p=some (okPl p):=by
  unfold G13 G13_l0_run
  rcases iter_find (step:=G13_l0_step) (bad:=fun i=>!okL (p.1.getD i dL)) (n:=p.1.length) (k1:=0) (k2:=1) (fun i s=>s.2.1=p∧s.1.2.1=(i:Int)) (fun j s=>s.1.1=false) (fun s=>s.2.1=p)
    (fun i s h hi hb=>by
      obtain ⟨h1,h3⟩:=h
      simp only [G13_l0_step,h1,h3,inside_lt hi,o59,o67,getD_toNat,show decide ((i:Int) < (p.1.length:Int))=true from by simp; omega,cond_true,Option.bind_some]
      rw [show (0,((0,(0,())),()))=dL from rfl]
      unfold okL at hb
      simp only [Bool.not_eq_false',Bool.and_eq_true] at hb
      rw [hb.1,hb.2]
      exact ⟨_,rfl,rfl,wr (by omega) (by omega)⟩)
    (fun i s h hi hb=>by
      obtain ⟨h1,h3⟩:=h
      simp only [G13_l0_step,h1,h3,inside_lt hi,o59,o67,getD_toNat,show decide ((i:Int) < (p.1.length:Int))=true from by simp; omega,cond_true,Option.bind_some]
      rw [show (0,((0,(0,())),()))=dL from rfl]
      unfold okL at hb
      revert hb
      cases inB (List.getD p.1 i dL).1 1 20000 with
      | false=>intro _; exact ⟨_,rfl,rfl⟩
      | true=>
        cases spB (List.getD p.1 i dL).2.1 1 1000 with
        | false=>intro _; exact ⟨_,rfl,rfl⟩
        | true=>intro h; simp at h)
    (fun s h=>by
      obtain ⟨h1,h3⟩:=h
      simp only [G13_l0_step,h1,h3,show decide ((p.1.length:Int) < (p.1.length:Int))=false from by simp,cond_false]
      exact ⟨_,rfl,rfl⟩)
    p.1.length 0 (G13_l0_fuel ((false,(0,())),(p,()))) ((false,(0,())),(p,())) (by omega) (by simp [G13_l0_fuel]) ⟨rfl,rfl⟩ with ⟨j,q,_,hj,hb,_,h1,h2⟩ | ⟨hb,q,h1,h2⟩
  · rw [h1]
    simp only [Option.bind_some,natK,h2]
    unfold okPl
    rw [not_all_of (d:=dL) hj (by simpa using hb)]; simp
  · rw [h1]
    simp only [Option.bind_some,natK,h2,o59,o67]
    unfold okPl
    rw [(all_of_get (d:=dL)).2 fun i hi=>by simpa using hb i (by omega) hi]
    cases inB (List.length p.1:Int) 1 6<;>simp
theorem o53 (l:List E73) (hl:l.length < 2^40):G49 l=some (l.all okY):=by
  unfold G49 G49_l0_run
  rcases iter_find (step:=G49_l0_step) (bad:=fun i=>!okY (l.getD i dY)) (n:=l.length) (k1:=0) (k2:=1) (fun i s=>s.1.1=l∧s.1.2.2.1=(i:Int)) (fun j s=>s.1.2.1=false) (fun s=>True)
    (fun i s h hi hb=>by
      obtain ⟨h1,h3⟩:=h
      simp only [G49_l0_step,h1,h3,inside_lt hi,o67,getD_toNat,show decide ((i:Int) < (l.length:Int))=true from by simp; omega,cond_true,Option.bind_some]
      rw [show ((0,(0,())),((0,(0,())),((0,(0,())),())))=dY from rfl]
      unfold okY at hb
      simp only [Bool.not_eq_false',Bool.and_eq_true] at hb
      rw [hb.1.1,hb.1.2,hb.2]
      exact ⟨_,rfl,rfl,wr (by omega) (by omega)⟩)
    (fun i s h hi hb=>by
      obtain ⟨h1,h3⟩:=h
      simp only [G49_l0_step,h1,h3,inside_lt hi,o67,getD_toNat,show decide ((i:Int) < (l.length:Int))=true from by simp; omega,cond_true,Option.bind_some]
      rw [show ((0,(0,())),((0,(0,())),((0,(0,())),())))=dY from rfl]
      unfold okY at hb
      revert hb
      cases spB (List.getD l i dY).1 0 1000000 with
      | false=>intro _; exact ⟨_,rfl,rfl⟩
      | true=>
        cases spB (List.getD l i dY).2.1 0 1000000 with
        | false=>intro _; exact ⟨_,rfl,rfl⟩
        | true=>
          cases spB (List.getD l i dY).2.2.1 0 1000 with
          | false=>intro _; exact ⟨_,rfl,rfl⟩
          | true=>intro h; simp at h)
    (fun s h=>by
      obtain ⟨h1,h3⟩:=h
      simp only [G49_l0_step,h1,h3,show decide ((l.length:Int) < (l.length:Int))=false from by simp,cond_false]
      exact ⟨_,rfl,trivial⟩)
    l.length 0 (G49_l0_fuel ((l,(false,(0,()))),())) ((l,(false,(0,()))),()) (by omega) (by simp [G49_l0_fuel]) ⟨rfl,rfl⟩ with ⟨j,q,_,hj,hb,_,h1,h2⟩ | ⟨hb,q,h1,h2⟩
  · rw [h1]
    simp only [Option.bind_some,natK,h2]
    rw [not_all_of (d:=dY) hj (by simpa using hb)]
  · rw [h1]
    simp only [Option.bind_some,natK]
    rw [(all_of_get (d:=dY)).2 fun i hi=>by simpa using hb i (by omega) hi]
end Go.Proofs.YtkeipcalbbmncaaGreat.Abs
set_option linter.unusedVariables false
set_option linter.unusedSimpArgs false
set_option maxRecDepth 100000
namespace Go.Proofs.YtkeipcalbbmncaaGreat.Abs
def insI (a:List Int) (n:Nat) (f:Nat→E23):Bool:=decide (a.length=n)&&(List.range n).all fun i=>inB (a.getD i 0) (f i).1 (f i).2.1
theorem range_all {n:Nat} {f:Nat→Bool}:(List.range n).all f=true↔∀ i,i < n→f i=true:=by simp
theorem range_not {n i:Nat} {f:Nat→Bool} (hi:i < n) (h:f i=false):(List.range n).all f=false:=by
  cases ha:(List.range n).all f with
  | false=>rfl
  | true=>rw [range_all.1 ha i hi] at h; cases h
theorem s_g44_ground_inside (a:List Int) (l:List E178) (hl:a.length < 2^40):G128 a l=some (insI a l.length (fun i=>(l.getD i dL).2.1)):=by
  unfold G128 G128_l0_run
  by_cases hlen:a.length=l.length
  · rw [show ((List.length a:Int) != (List.length l:Int))=false from by simp; omega]
    simp only [cond_false]
    rcases iter_find (step:=G128_l0_step) (bad:=fun i=>!inB (a.getD i 0) ((l.getD i dL).2.1).1 ((l.getD i dL).2.1).2.1) (n:=a.length) (k1:=0) (k2:=1) (fun i s=>s.1.1=l∧s.1.2.2.1=a∧s.1.2.2.2.1=(a.length:Int)∧s.1.2.2.2.2.1=(i:Int)) (fun j s=>s.1.2.1=false) (fun s=>True)
      (fun i s h hi hb=>by
        obtain ⟨h1,h2,h3,h4⟩:=h
        simp only [G128_l0_step,h1,h2,h3,h4,inside_lt hi,inside_lt (show i < l.length by omega),G129,o70,getD_toNat,show decide ((i:Int) < (a.length:Int))=true from by simp; omega,cond_true,Option.bind_some]
        rw [show (0,((0,(0,())),()))=dL from rfl]
        rw [hb]
        exact ⟨_,rfl,rfl,rfl,rfl,wr (by omega) (by omega)⟩)
      (fun i s h hi hb=>by
        obtain ⟨h1,h2,h3,h4⟩:=h
        simp only [G128_l0_step,h1,h2,h3,h4,inside_lt hi,inside_lt (show i < l.length by omega),G129,o70,getD_toNat,show decide ((i:Int) < (a.length:Int))=true from by simp; omega,cond_true,Option.bind_some]
        rw [show (0,((0,(0,())),()))=dL from rfl]
        rw [hb]
        exact ⟨_,rfl,rfl⟩)
      (fun s h=>by
        obtain ⟨h1,h2,h3,h4⟩:=h
        simp only [G128_l0_step,h1,h2,h3,h4,show decide ((a.length:Int) < (a.length:Int))=false from by simp,cond_false]
        exact ⟨_,rfl,trivial⟩)
      a.length 0 (G128_l0_fuel ((l,(false,(a,((List.length a:Int),(0,()))))),())) ((l,(false,(a,((List.length a:Int),(0,()))))),()) (by omega) (by simp [G128_l0_fuel]) ⟨rfl,rfl,rfl,rfl⟩ with ⟨j,q,_,hj,hb,_,h1,h2⟩ | ⟨hb,q,h1,h2⟩
    · rw [h1]
      simp only [Option.bind_some,natK,h2]
      rw [show insI a l.length (fun i=>(l.getD i dL).2.1)=false from by
        unfold insI
        rw [range_not (i:=j) (by omega) (by simpa using hb)]; simp]
    · rw [h1]
      simp only [Option.bind_some,natK]
      rw [show insI a l.length (fun i=>(l.getD i dL).2.1)=true from by
        unfold insI
        rw [range_all.2 fun i hi=>by simpa using hb i (by omega) (by omega)]; simp [hlen]]
  · rw [show ((List.length a:Int) != (List.length l:Int))=true from by simp; omega]
    simp only [cond_true]
    rw [show insI a l.length (fun i=>(l.getD i dL).2.1)=false from by unfold insI; simp [hlen]]
theorem s_g46_ground_inside (a:List Int) (l:List E73) (p:E25) (hl:a.length < 2^40):G130 a l p=some (insI a l.length (fun i=>p.2.1),(p,())):=by
  unfold G130 G130_l0_run
  by_cases hlen:a.length=l.length
  · rw [show ((List.length a:Int) != (List.length l:Int))=false from by simp; omega]
    simp only [cond_false]
    rcases iter_find (step:=G130_l0_step) (bad:=fun i=>!inB (a.getD i 0) (p.2.1).1 (p.2.1).2.1) (n:=a.length) (k1:=0) (k2:=1) (fun i s=>s.1.1=l∧s.1.2.2.1=a∧s.1.2.2.2.1=(a.length:Int)∧s.1.2.2.2.2.1=(i:Int)∧s.2.1=p) (fun j s=>s.1.2.1=false∧s.2.1=p) (fun s=>s.2.1=p)
      (fun i s h hi hb=>by
        obtain ⟨h1,h2,h3,h4,h5⟩:=h
        simp only [G130_l0_step,h1,h2,h3,h4,h5,inside_lt hi,inside_lt (show i < l.length by omega),G131,o70,getD_toNat,show decide ((i:Int) < (a.length:Int))=true from by simp; omega,cond_true,Option.bind_some]
        rw [hb]
        exact ⟨_,rfl,rfl,rfl,rfl,wr (by omega) (by omega),rfl⟩)
      (fun i s h hi hb=>by
        obtain ⟨h1,h2,h3,h4,h5⟩:=h
        simp only [G130_l0_step,h1,h2,h3,h4,h5,inside_lt hi,inside_lt (show i < l.length by omega),G131,o70,getD_toNat,show decide ((i:Int) < (a.length:Int))=true from by simp; omega,cond_true,Option.bind_some]
        rw [hb]
        exact ⟨_,rfl,rfl,rfl⟩)
      (fun s h=>by
        obtain ⟨h1,h2,h3,h4,h5⟩:=h
        simp only [G130_l0_step,h1,h2,h3,h4,h5,show decide ((a.length:Int) < (a.length:Int))=false from by simp,cond_false]
        exact ⟨_,rfl,rfl⟩)
      a.length 0 (G130_l0_fuel ((l,(false,(a,((List.length a:Int),(0,()))))),(p,()))) ((l,(false,(a,((List.length a:Int),(0,()))))),(p,())) (by omega) (by simp [G130_l0_fuel]) ⟨rfl,rfl,rfl,rfl,rfl⟩ with ⟨j,q,_,hj,hb,_,h1,h2⟩ | ⟨hb,q,h1,h2⟩
    · rw [h1]
      simp only [Option.bind_some,natK,h2.1,h2.2]
      rw [show insI a l.length (fun i=>p.2.1)=false from by
        unfold insI
        rw [range_not (i:=j) (by omega) (by simpa using hb)]; simp]
    · rw [h1]
      simp only [Option.bind_some,natK,h2]
      rw [show insI a l.length (fun i=>p.2.1)=true from by
        unfold insI
        rw [range_all.2 fun i hi=>by simpa using hb i (by omega) (by omega)]; simp [hlen]]
  · rw [show ((List.length a:Int) != (List.length l:Int))=true from by simp; omega]
    simp only [cond_true]
    rw [show insI a l.length (fun i=>p.2.1)=false from by unfold insI; simp [hlen]]
theorem s_g46_ground_inside_v1 (a:List Int) (l:List E73) (hl:a.length < 2^40):G130_v1 a l=some (insI a l.length (fun i=>(l.getD i dY).1)):=by
  unfold G130_v1 G130_v1_l0_run
  by_cases hlen:a.length=l.length
  · rw [show ((List.length a:Int) != (List.length l:Int))=false from by simp; omega]
    simp only [cond_false]
    rcases iter_find (step:=G130_v1_l0_step) (bad:=fun i=>!inB (a.getD i 0) ((l.getD i dY).1).1 ((l.getD i dY).1).2.1) (n:=a.length) (k1:=0) (k2:=1) (fun i s=>s.1.1=l∧s.1.2.2.1=a∧s.1.2.2.2.1=(a.length:Int)∧s.1.2.2.2.2.1=(i:Int)) (fun j s=>s.1.2.1=false) (fun s=>True)
      (fun i s h hi hb=>by
        obtain ⟨h1,h2,h3,h4⟩:=h
        simp only [G130_v1_l0_step,h1,h2,h3,h4,inside_lt hi,inside_lt (show i < l.length by omega),G132,o70,getD_toNat,show decide ((i:Int) < (a.length:Int))=true from by simp; omega,cond_true,Option.bind_some]
        rw [show ((0,(0,())),((0,(0,())),((0,(0,())),())))=dY from rfl]
        rw [hb]
        exact ⟨_,rfl,rfl,rfl,rfl,wr (by omega) (by omega)⟩)
      (fun i s h hi hb=>by
        obtain ⟨h1,h2,h3,h4⟩:=h
        simp only [G130_v1_l0_step,h1,h2,h3,h4,inside_lt hi,inside_lt (show i < l.length by omega),G132,o70,getD_toNat,show decide ((i:Int) < (a.length:Int))=true from by simp; omega,cond_true,Option.bind_some]
        rw [show ((0,(0,())),((0,(0,())),((0,(0,())),())))=dY from rfl]
        rw [hb]
        exact ⟨_,rfl,rfl⟩)
      (fun s h=>by
        obtain ⟨h1,h2,h3,h4⟩:=h
        simp only [G130_v1_l0_step,h1,h2,h3,h4,show decide ((a.length:Int) < (a.length:Int))=false from by simp,cond_false]
        exact ⟨_,rfl,trivial⟩)
      a.length 0 (G130_v1_l0_fuel ((l,(false,(a,((List.length a:Int),(0,()))))),())) ((l,(false,(a,((List.length a:Int),(0,()))))),()) (by omega) (by simp [G130_v1_l0_fuel]) ⟨rfl,rfl,rfl,rfl⟩ with ⟨j,q,_,hj,hb,_,h1,h2⟩ | ⟨hb,q,h1,h2⟩
    · rw [h1]
      simp only [Option.bind_some,natK,h2]
      rw [show insI a l.length (fun i=>(l.getD i dY).1)=false from by
        unfold insI
        rw [range_not (i:=j) (by omega) (by simpa using hb)]; simp]
    · rw [h1]
      simp only [Option.bind_some,natK]
      rw [show insI a l.length (fun i=>(l.getD i dY).1)=true from by
        unfold insI
        rw [range_all.2 fun i hi=>by simpa using hb i (by omega) (by omega)]; simp [hlen]]
  · rw [show ((List.length a:Int) != (List.length l:Int))=true from by simp; omega]
    simp only [cond_true]
    rw [show insI a l.length (fun i=>(l.getD i dY).1)=false from by unfold insI; simp [hlen]]
theorem s_g46_ground_inside_v2 (a:List Int) (l:List E73) (hl:a.length < 2^40):G130_v2 a l=some (insI a l.length (fun i=>(l.getD i dY).2.1)):=by
  unfold G130_v2 G130_v2_l0_run
  by_cases hlen:a.length=l.length
  · rw [show ((List.length a:Int) != (List.length l:Int))=false from by simp; omega]
    simp only [cond_false]
    rcases iter_find (step:=G130_v2_l0_step) (bad:=fun i=>!inB (a.getD i 0) ((l.getD i dY).2.1).1 ((l.getD i dY).2.1).2.1) (n:=a.length) (k1:=0) (k2:=1) (fun i s=>s.1.1=l∧s.1.2.2.1=a∧s.1.2.2.2.1=(a.length:Int)∧s.1.2.2.2.2.1=(i:Int)) (fun j s=>s.1.2.1=false) (fun s=>True)
      (fun i s h hi hb=>by
        obtain ⟨h1,h2,h3,h4⟩:=h
        simp only [G130_v2_l0_step,h1,h2,h3,h4,inside_lt hi,inside_lt (show i < l.length by omega),G133,o70,getD_toNat,show decide ((i:Int) < (a.length:Int))=true from by simp; omega,cond_true,Option.bind_some]
        rw [show ((0,(0,())),((0,(0,())),((0,(0,())),())))=dY from rfl]
        rw [hb]
        exact ⟨_,rfl,rfl,rfl,rfl,wr (by omega) (by omega)⟩)
      (fun i s h hi hb=>by
        obtain ⟨h1,h2,h3,h4⟩:=h
        simp only [G130_v2_l0_step,h1,h2,h3,h4,inside_lt hi,inside_lt (show i < l.length by omega),G133,o70,getD_toNat,show decide ((i:Int) < (a.length:Int))=true from by simp; omega,cond_true,Option.bind_some]
        rw [show ((0,(0,())),((0,(0,())),((0,(0,())),())))=dY from rfl]
        rw [hb]
        exact ⟨_,rfl,rfl⟩)
      (fun s h=>by
        obtain ⟨h1,h2,h3,h4⟩:=h
        simp only [G130_v2_l0_step,h1,h2,h3,h4,show decide ((a.length:Int) < (a.length:Int))=false from by simp,cond_false]
        exact ⟨_,rfl,trivial⟩)
      a.length 0 (G130_v2_l0_fuel ((l,(false,(a,((List.length a:Int),(0,()))))),())) ((l,(false,(a,((List.length a:Int),(0,()))))),()) (by omega) (by simp [G130_v2_l0_fuel]) ⟨rfl,rfl,rfl,rfl⟩ with ⟨j,q,_,hj,hb,_,h1,h2⟩ | ⟨hb,q,h1,h2⟩
    · rw [h1]
      simp only [Option.bind_some,natK,h2]
      rw [show insI a l.length (fun i=>(l.getD i dY).2.1)=false from by
        unfold insI
        rw [range_not (i:=j) (by omega) (by simpa using hb)]; simp]
    · rw [h1]
      simp only [Option.bind_some,natK]
      rw [show insI a l.length (fun i=>(l.getD i dY).2.1)=true from by
        unfold insI
        rw [range_all.2 fun i hi=>by simpa using hb i (by omega) (by omega)]; simp [hlen]]
  · rw [show ((List.length a:Int) != (List.length l:Int))=true from by simp; omega]
    simp only [cond_true]
    rw [show insI a l.length (fun i=>(l.getD i dY).2.1)=false from by unfold insI; simp [hlen]]
theorem s_g46_ground_inside_v3 (a:List Int) (l:List E73) (hl:a.length < 2^40):G130_v3 a l=some (insI a l.length (fun i=>(l.getD i dY).2.2.1)):=by
  unfold G130_v3 G130_v3_l0_run
  by_cases hlen:a.length=l.length
  · rw [show ((List.length a:Int) != (List.length l:Int))=false from by simp; omega]
    simp only [cond_false]
    rcases iter_find (step:=G130_v3_l0_step) (bad:=fun i=>!inB (a.getD i 0) ((l.getD i dY).2.2.1).1 ((l.getD i dY).2.2.1).2.1) (n:=a.length) (k1:=0) (k2:=1) (fun i s=>s.1.1=l∧s.1.2.2.1=a∧s.1.2.2.2.1=(a.length:Int)∧s.1.2.2.2.2.1=(i:Int)) (fun j s=>s.1.2.1=false) (fun s=>True)
      (fun i s h hi hb=>by
        obtain ⟨h1,h2,h3,h4⟩:=h
        simp only [G130_v3_l0_step,h1,h2,h3,h4,inside_lt hi,inside_lt (show i < l.length by omega),G134,o70,getD_toNat,show decide ((i:Int) < (a.length:Int))=true from by simp; omega,cond_true,Option.bind_some]
        rw [show ((0,(0,())),((0,(0,())),((0,(0,())),())))=dY from rfl]
        rw [hb]
        exact ⟨_,rfl,rfl,rfl,rfl,wr (by omega) (by omega)⟩)
      (fun i s h hi hb=>by
        obtain ⟨h1,h2,h3,h4⟩:=h
        simp only [G130_v3_l0_step,h1,h2,h3,h4,inside_lt hi,inside_lt (show i < l.length by omega),G134,o70,getD_toNat,show decide ((i:Int) < (a.length:Int))=true from by simp; omega,cond_true,Option.bind_some]
        rw [show ((0,(0,())),((0,(0,())),((0,(0,())),())))=dY from rfl]
        rw [hb]
        exact ⟨_,rfl,rfl⟩)
      (fun s h=>by
        obtain ⟨h1,h2,h3,h4⟩:=h
        simp only [G130_v3_l0_step,h1,h2,h3,h4,show decide ((a.length:Int) < (a.length:Int))=false from by simp,cond_false]
        exact ⟨_,rfl,trivial⟩)
      a.length 0 (G130_v3_l0_fuel ((l,(false,(a,((List.length a:Int),(0,()))))),())) ((l,(false,(a,((List.length a:Int),(0,()))))),()) (by omega) (by simp [G130_v3_l0_fuel]) ⟨rfl,rfl,rfl,rfl⟩ with ⟨j,q,_,hj,hb,_,h1,h2⟩ | ⟨hb,q,h1,h2⟩
    · rw [h1]
      simp only [Option.bind_some,natK,h2]
      rw [show insI a l.length (fun i=>(l.getD i dY).2.2.1)=false from by
        unfold insI
        rw [range_not (i:=j) (by omega) (by simpa using hb)]; simp]
    · rw [h1]
      simp only [Option.bind_some,natK]
      rw [show insI a l.length (fun i=>(l.getD i dY).2.2.1)=true from by
        unfold insI
        rw [range_all.2 fun i hi=>by simpa using hb i (by omega) (by omega)]; simp [hlen]]
  · rw [show ((List.length a:Int) != (List.length l:Int))=true from by simp; omega]
    simp only [cond_true]
    rw [show insI a l.length (fun i=>(l.getD i dY).2.2.1)=false from by unfold insI; simp [hlen]]
def truB (p:E25) (l:List E73) (t:E118):Bool:=insI t.1 p.1.length (fun i=>(p.1.getD i dL).2.1)&&insI t.2.1 l.length (fun i=>p.2.1)&&insI t.2.2.1 l.length (fun i=>(l.getD i dY).1)&&insI t.2.2.2.1 l.length (fun i=>(l.getD i dY).2.1)&&insI t.2.2.2.2.1 l.length (fun i=>(l.getD i dY).2.2.1)
theorem o25 (n:Int) (s:E23):G221 n s=some (inB n s.1 s.2.1):=by
  unfold G221; rw [o59]; rfl
theorem o18 (p:E25) (l:List E73) (t:E118) (hp:p.1.length < 2^40) (hl:l.length < 2^40):G112 p l t=some (truB p l t):=by
  unfold G112 truB
  have ne:∀ {a b:Nat},a≠b→((a:Int) != (b:Int))=true:=fun h=>by simp; omega
  have eq:∀ {a b:Nat},a=b→((a:Int) != (b:Int))=false:=fun h=>by simp; omega
  by_cases e1:t.1.length=p.1.length
  · by_cases e2:t.2.1.length=l.length
    · by_cases e3:t.2.2.1.length=l.length
      · by_cases e4:t.2.2.2.1.length=l.length
        · by_cases e5:t.2.2.2.2.1.length=l.length
          · rw [eq e1,eq e2,eq e3,eq e4,eq e5]
            simp only [cond_false]
            unfold G112_l0_run
            rcases iter_find (step:=G112_l0_step) (bad:=fun i=>!inB (t.1.getD i 0) ((p.1.getD i dL).2.1).1 ((p.1.getD i dL).2.1).2.1) (n:=p.1.length) (k1:=0) (k2:=1) (fun i s=>s.1.1=l∧s.1.2.2.1=(i:Int)∧s.2.1=p∧s.2.2.1=t) (fun j s=>s.1.2.1=false) (fun s=>s.1.1=l∧s.2.1=p∧s.2.2.1=t)
              (fun i s h hi hb=>by
                obtain ⟨h1,h2,h3,h4⟩:=h
                simp only [G112_l0_step,h1,h2,h3,h4,inside_lt hi,inside_lt (show i < t.1.length by omega),o25,getD_toNat,show decide ((i:Int) < (p.1.length:Int))=true from by simp; omega,cond_true,Option.bind_some]
                rw [show (0,((0,(0,())),()))=dL from rfl,hb]
                exact ⟨_,rfl,rfl,wr (by omega) (by omega),rfl,rfl⟩)
              (fun i s h hi hb=>by
                obtain ⟨h1,h2,h3,h4⟩:=h
                simp only [G112_l0_step,h1,h2,h3,h4,inside_lt hi,inside_lt (show i < t.1.length by omega),o25,getD_toNat,show decide ((i:Int) < (p.1.length:Int))=true from by simp; omega,cond_true,Option.bind_some]
                rw [show (0,((0,(0,())),()))=dL from rfl,hb]
                exact ⟨_,rfl,rfl⟩)
              (fun s h=>by
                obtain ⟨h1,h2,h3,h4⟩:=h
                simp only [G112_l0_step,h1,h2,h3,h4,show decide ((p.1.length:Int) < (p.1.length:Int))=false from by simp,cond_false]
                exact ⟨_,rfl,rfl,rfl,rfl⟩)
              p.1.length 0 (G112_l0_fuel ((l,(false,(0,()))),(p,(t,())))) ((l,(false,(0,()))),(p,(t,()))) (by omega) (by simp [G112_l0_fuel]) ⟨rfl,rfl,rfl,rfl⟩ with ⟨j,q,_,hj,hb,_,h1,h2⟩ | ⟨hb,q,h1,h2⟩
            · rw [h1]
              simp only [Option.bind_some,natK,h2]
              rw [show insI t.1 p.1.length (fun i=>(p.1.getD i dL).2.1)=false from by
                unfold insI
                rw [range_not (i:=j) (by omega) (by simpa using hb)]; simp]
              simp
            · rw [h1]
              obtain ⟨k1,k2,k3⟩:=h2
              simp only [Option.bind_some,natK,k1,k2,k3]
              rw [show insI t.1 p.1.length (fun i=>(p.1.getD i dL).2.1)=true from by
                unfold insI
                rw [range_all.2 fun i hi=>by simpa using hb i (by omega) (by omega)]; simp [e1]]
              unfold G112_l1_run
              let B1:Nat→Bool:=fun i=>inB (t.2.1.getD i 0) p.2.1.1 p.2.1.2.1
              let B2:Nat→Bool:=fun i=>inB (t.2.2.1.getD i 0) ((l.getD i dY).1).1 ((l.getD i dY).1).2.1
              let B3:Nat→Bool:=fun i=>inB (t.2.2.2.1.getD i 0) ((l.getD i dY).2.1).1 ((l.getD i dY).2.1).2.1
              let B4:Nat→Bool:=fun i=>inB (t.2.2.2.2.1.getD i 0) ((l.getD i dY).2.2.1).1 ((l.getD i dY).2.2.1).2.1
              have stp:∀ (i:Nat) (s:(((List E73)×(Bool×(Int×Unit)))×(E25×(E118×Unit)))),s.1.1=l∧s.1.2.2.1=(i:Int)∧s.2.1=p∧s.2.2.1=t→i < l.length→
                  G112_l1_step s=if B1 i&&B2 i&&B3 i&&B4 i then some (0,((l,(s.1.2.1,((IntKind.wrap .i64 ((i:Int)+1)),()))),(p,(t,())))) else some (1,((l,(false,((i:Int),()))),(p,(t,())))):=fun i s h hi=>by
                obtain ⟨h1,h2,h3,h4⟩:=h
                simp only [G112_l1_step,h1,h2,h3,h4,inside_lt hi,inside_lt (show i < t.2.1.length by omega),inside_lt (show i < t.2.2.1.length by omega),inside_lt (show i < t.2.2.2.1.length by omega),inside_lt (show i < t.2.2.2.2.1.length by omega),o25,getD_toNat,show decide ((i:Int) < (l.length:Int))=true from by simp; omega,cond_true,Option.bind_some]
                rw [show ((0,(0,())),((0,(0,())),((0,(0,())),())))=dY from rfl]
                show (bif !B1 i then _ else bif !B2 i then _ else bif !B3 i then _ else bif !B4 i then _ else _)=_
                cases B1 i<;>cases B2 i<;>cases B3 i<;>cases B4 i<;>rfl
              rcases iter_find (step:=G112_l1_step) (bad:=fun i=>!(B1 i&&B2 i&&B3 i&&B4 i)) (n:=l.length) (k1:=0) (k2:=1) (fun i s=>s.1.1=l∧s.1.2.2.1=(i:Int)∧s.2.1=p∧s.2.2.1=t) (fun j s=>s.1.2.1=false) (fun s=>True)
                (fun i s h hi hb=>by
                  rw [stp i s h hi,if_pos (by simpa using hb)]
                  exact ⟨_,rfl,rfl,wr (by omega) (by omega),rfl,rfl⟩)
                (fun i s h hi hb=>by
                  rw [stp i s h hi,if_neg (fun hc=>by rw [hc] at hb; cases hb)]
                  exact ⟨_,rfl,rfl⟩)
                (fun s h=>by
                  obtain ⟨h1,h2,h3,h4⟩:=h
                  simp only [G112_l1_step,h1,h2,h3,h4,show decide ((l.length:Int) < (l.length:Int))=false from by simp,cond_false]
                  exact ⟨_,rfl,trivial⟩)
                l.length 0 (G112_l1_fuel ((l,(q.1.2.1,(0,()))),(p,(t,())))) ((l,(q.1.2.1,(0,()))),(p,(t,()))) (by omega) (by simp [G112_l1_fuel]) ⟨rfl,rfl,rfl,rfl⟩ with ⟨j,q,_,hj,hb,_,h1,h2⟩ | ⟨hb,q,h1,h2⟩
              · rw [h1]
                simp only [Option.bind_some,natK,h2]
                congr 1
                have hb':(B1 j&&B2 j&&B3 j&&B4 j)=false:=by
                  cases hx:(B1 j&&B2 j&&B3 j&&B4 j) with
                  | false=>rfl
                  | true=>rw [hx] at hb; cases hb
                unfold insI
                symm
                cases c1:B1 j with
                | false=>rw [range_not (f:=fun i=>inB (t.2.1.getD i 0) p.2.1.1 p.2.1.2.1) hj c1]; simp
                | true=>
                  cases c2:B2 j with
                  | false=>rw [range_not (f:=fun i=>inB (t.2.2.1.getD i 0) ((l.getD i dY).1).1 ((l.getD i dY).1).2.1) hj c2]; simp
                  | true=>
                    cases c3:B3 j with
                    | false=>rw [range_not (f:=fun i=>inB (t.2.2.2.1.getD i 0) ((l.getD i dY).2.1).1 ((l.getD i dY).2.1).2.1) hj c3]; simp
                    | true=>
                      cases c4:B4 j with
                      | false=>rw [range_not (f:=fun i=>inB (t.2.2.2.2.1.getD i 0) ((l.getD i dY).2.2.1).1 ((l.getD i dY).2.2.1).2.1) hj c4]; simp
                      | true=>rw [c1,c2,c3,c4] at hb'; cases hb'
              · rw [h1]
                simp only [Option.bind_some,natK]
                congr 1
                have all:∀ i,i < l.length→(B1 i=true∧B2 i=true)∧B3 i=true∧B4 i=true:=fun i hi=>by
                  have:=hb i (by omega) hi
                  simp only [Bool.not_eq_false',Bool.and_eq_true] at this
                  exact ⟨⟨this.1.1.1,this.1.1.2⟩,this.1.2,this.2⟩
                unfold insI
                rw [range_all.2 fun i hi=>(all i hi).1.1,range_all.2 fun i hi=>(all i hi).1.2,range_all.2 fun i hi=>(all i hi).2.1,range_all.2 fun i hi=>(all i hi).2.2]
                simp [e2,e3,e4,e5]
          · rw [eq e1,eq e2,eq e3,eq e4,ne e5]; simp only [cond_false,cond_true]; unfold insI; simp [e5]
        · rw [eq e1,eq e2,eq e3,ne e4]; simp only [cond_false,cond_true]; unfold insI; simp [e4]
      · rw [eq e1,eq e2,ne e3]; simp only [cond_false,cond_true]; unfold insI; simp [e3]
    · rw [eq e1,ne e2]; simp only [cond_false,cond_true]; unfold insI; simp [e2]
  · rw [ne e1]; simp only [cond_true]; unfold insI; simp [e1]
end Go.Proofs.YtkeipcalbbmncaaGreat.Abs
set_option linter.unusedVariables false
set_option linter.unusedSimpArgs false
set_option maxRecDepth 100000
namespace Go.Proofs.YtkeipcalbbmncaaGreat.Abs
abbrev UT:Type:=(Nat×(Unit×(Unit×(Unit×(Unit×(Unit×(Unit×(Unit×(Unit×(Unit×(Unit×(Unit×(Unit×(Unit×(Unit×(Unit×(Unit×(Unit×(Unit×(Unit×(Unit×(Unit×(Unit×(Unit×(Unit×(Unit×(Unit×(Unit×(Unit×(Unit×(Unit×(Unit×(Unit×(Unit×(Unit×(Unit×(Unit×(Unit×(Unit×(Unit×(Unit×(Unit×(Unit×(Unit×(Unit×(Unit×(Unit×Unit)))))))))))))))))))))))))))))))))))))))))))))))
def dep (ls:List E178) (ms:List Int):Nat→Nat→Int→Int
  | 0,_,_=>0
  | k+1,i,heat=>if k=0∨heat < (ls.getD i dL).1*ms.getD i 0 then heat / ms.getD i 0 else (ls.getD i dL).1+dep ls ms k (i+1) (heat - (ls.getD i dL).1*ms.getD i 0)
structure Lay (ls:List E178) (ms:List Int):Prop where
  len:ms.length=ls.length
  pos:1≤ls.length
  few:ls.length≤6
  thick:∀ i,i < ls.length→1≤(ls.getD i dL).1∧(ls.getD i dL).1≤20000
  melt:∀ i,i < ls.length→1≤ms.getD i 0∧ms.getD i 0≤1000
theorem mul_bd {a b A B:Int} (ha:0≤a) (hA:a≤A) (hb:0≤b) (hB:b≤B):0≤a*b∧a*b≤A*B:=
  ⟨Int.mul_nonneg ha hb,Int.mul_le_mul hA hB hb (Int.le_trans ha hA)⟩
theorem div_bd {a b:Int} (ha:0≤a) (hb:1≤b):0≤a / b∧a / b≤a:=
  ⟨Int.ediv_nonneg ha (by omega),Int.ediv_le_self b ha⟩
theorem tdiv_eq {a b:Int} (ha:0≤a):Int.tdiv a b=a / b:=Int.tdiv_eq_ediv_of_nonneg ha
theorem step_form {α:Type} {o:Option (Nat×α)} {n:Nat} {x:α} (h:o=some (n,x)):∃ y,y=x∧o=some (n,y):=⟨x,rfl,h⟩
section
variable {ls:List E178} {ms:List Int} {a0:E172}
theorem r0_last {i:Nat} {b:UT} {heat res out all:Int} (hL:Lay ls ms) (h1:a0.1.1=ls) (h2:a0.2.1.1=ms) (hb:b.1=0) (hi:i < ls.length) (h0:0≤heat) (h9:heat≤1000000000) (ho:0≤out) (ho9:out≤1000000000) (hall:all < 0∨heat < all) :
    ∃ q,G346 (i:Int) all b a0 heat res out=some q∧q.1=false∧q.2.1.1=3∧q.2.2.2.2.1=out+heat / ms.getD i 0:=by
  have hm:=hL.melt i hi
  have hd:=div_bd h0 hm.1
  have hne:(!decide (ms.getD i 0=0))=true:=by rw [Bool.not_eq_true',decide_eq_false_iff_not]; omega
  unfold G346
  simp only [hb,natK,h1,h2,getD_toNat,inside_lt (show i < ms.length by rw [hL.len]; exact hi),cond_true,hne,tdiv_eq h0,wr (show -9223372036854775808≤heat / ms.getD i 0 by omega) (by omega),wr (show -9223372036854775808≤out+heat / ms.getD i 0 by omega) (by omega)]
  by_cases h:all < 0
  · rw [show decide (all < 0)=true from by simpa using h]
    exact ⟨_,rfl,rfl,rfl,rfl⟩
  · rw [show decide (all < 0)=false from by simpa using h,show decide (heat < all)=true from by simpa using hall.resolve_left h]
    exact ⟨_,rfl,rfl,rfl,rfl⟩
theorem r0_go {i:Nat} {b:UT} {heat res out all:Int} (hL:Lay ls ms) (h1:a0.1.1=ls) (h2:a0.2.1.1=ms) (hb:b.1=0) (hi:i < ls.length) (h0:0≤heat) (h9:heat≤1000000000) (ho:0≤out) (ho9:out≤1000000000) (ha:0≤all) (hall:all≤heat) :
    ∃ q,G346 (i:Int) all b a0 heat res out=some q∧q.1=true∧q.2.1.1=0∧q.2.2.1=a0∧q.2.2.2.1=heat - all∧q.2.2.2.2.2.1=out+(ls.getD i dL).1:=by
  have ht:=hL.thick i hi
  unfold G346
  simp only [hb,natK,h1,h2,getD_toNat,inside_lt hi,cond_true,show decide (all < 0)=false from by simp; omega,show decide (heat < all)=false from by simp; omega,cond_false,wr (show -9223372036854775808≤heat - all by omega) (by omega)]
  rw [show (0,((0,(0,())),()))=dL from rfl,wr (show -9223372036854775808≤out+(ls.getD i dL).1 by omega) (by omega)]
  exact ⟨_,rfl,rfl,rfl,rfl,rfl,rfl⟩
theorem melts_loop (hL:Lay ls ms) (h1:a0.1.1=ls) (h2:a0.2.1.1=ms):∀ (k i:Nat) (heat out:Int) (s:(E172×((List E178)×(Int×(Int×Unit))))×(UT×(E172×(Int×(Int×(Int×Unit)))))) (fuel:Nat),i+k+1=ls.length→k < fuel→s.1.1=a0→s.1.2.1=ls→s.1.2.2.1=(ls.length:Int)→s.1.2.2.2.1=(i:Int)→
    s.2.1.1=0→s.2.2.1=a0→s.2.2.2.1=heat→s.2.2.2.2.2.1=out→0≤heat→heat≤1000000000→0≤out→out≤20000*(i:Int)→∃ q,iter G391_l0_step fuel s=some (0,q)∧q.2.1.1=3∧q.2.2.2.2.1=out+dep ls ms (k+1) i heat
  | k,i,heat,out,s,0,hk,hf,_,_,_,_,_,_,_,_,_,_,_,_=>by omega
  | k,i,heat,out,s,fuel+1,hk,hf,e1,e2,e3,e4,e5,e6,e7,e8,h0,h9,ho,ho9=>by
    have hi:i < ls.length:=by omega
    have hfew:=hL.few
    have ht:=hL.thick i hi
    have hm:=hL.melt i hi
    have hmul:=mul_bd (a:=(ls.getD i dL).1) (b:=ms.getD i 0) (by omega) ht.2 (by omega) hm.2
    have hw1:IntKind.wrap .i64 ((ls.length:Int) - 1)=(ls.length:Int) - 1:=wr (by omega) (by omega)
    have hw2:IntKind.wrap .i64 ((ls.getD i dL).1*ms.getD i 0)=(ls.getD i dL).1*ms.getD i 0:=wr (by omega) (by omega)
    have hw3:IntKind.wrap .i64 ((i:Int)+1)=((i+1:Nat):Int):=by rw [wr (by omega) (by omega)]; omega
    have pre:G391_l0_step s=G391_l0_step s:=rfl
    conv at pre=>rhs; unfold G391_l0_step
    simp only [e1,e2,e3,e4,e6,e7,e8,h1,h2,getD_toNat,inside_lt hi,inside_lt (show i < ms.length by rw [hL.len]; exact hi),show decide ((i:Int) < (ls.length:Int))=true from by simp; omega,cond_true,hw1,hw3] at pre
    rw [show (0,((0,(0,())),()))=dL from rfl,hw2] at pre
    cases k with
    | zero=>
      rw [show ((i:Int)==(ls.length:Int) - 1)=true from by simp; omega] at pre
      simp only [cond_true] at pre
      obtain ⟨q,q1,q2,q3,q4⟩:=r0_last (i:=i) (b:=s.2.1) (res:=s.2.2.2.2.1) (all := -1) hL h1 h2 e5 hi h0 h9 ho (by omega) (.inl (by omega))
      rw [show (s.2.1.1,_)=s.2.1 from rfl,q1] at pre
      simp only [Option.bind_some,q2,Bool.not_false,cond_true] at pre
      refine ⟨_,iter_out pre,q3,?_⟩
      rw [show dep ls ms (0+1) i heat=heat / ms.getD i 0 from by simp [dep]]
      exact q4
    | succ k=>
      rw [show ((i:Int)==(ls.length:Int) - 1)=false from by simp; omega] at pre
      simp only [cond_false] at pre
      by_cases hlt:heat < (ls.getD i dL).1*ms.getD i 0
      · obtain ⟨q,q1,q2,q3,q4⟩:=r0_last (i:=i) (b:=s.2.1) (res:=s.2.2.2.2.1) hL h1 h2 e5 hi h0 h9 ho (by omega) (.inr hlt)
        rw [show (s.2.1.1,_)=s.2.1 from rfl,q1] at pre
        simp only [Option.bind_some,q2,Bool.not_false,cond_true] at pre
        refine ⟨_,iter_out pre,q3,?_⟩
        rw [show dep ls ms (k+1+1) i heat=heat / ms.getD i 0 from by rw [dep,if_pos (.inr hlt)]]
        exact q4
      · obtain ⟨q,q1,q2,q3,q4,q5,q6⟩:=r0_go (i:=i) (b:=s.2.1) (res:=s.2.2.2.2.1) hL h1 h2 e5 hi h0 h9 ho (by omega) (by omega) (show (ls.getD i dL).1*ms.getD i 0≤heat by omega)
        rw [show (s.2.1.1,_)=s.2.1 from rfl,q1] at pre
        simp only [Option.bind_some,q2,Bool.not_true,cond_false] at pre
        obtain ⟨s',hs,pre⟩:=step_form pre
        rw [iter_one pre]
        obtain ⟨z,z1,z2,z3⟩:=melts_loop hL h1 h2 k (i+1) (heat - (ls.getD i dL).1*ms.getD i 0) (out+(ls.getD i dL).1) s' fuel (by omega) (by omega) (by rw [hs]) (by rw [hs]) (by rw [hs]) (by rw [hs]) (by rw [hs]; exact q3) (by rw [hs]; exact q4) (by rw [hs]; exact q5) (by rw [hs]; exact q6) (by omega) (by omega) (by omega) (by omega)
        refine ⟨z,z1,z2,?_⟩
        rw [z3,show dep ls ms (k+1+1) i heat=(ls.getD i dL).1+dep ls ms (k+1) (i+1) (heat - (ls.getD i dL).1*ms.getD i 0) from by rw [dep,if_neg (by omega)]]
        omega
theorem o86 (hL:Lay ls ms) (h1:a0.1.1=ls) (h2:a0.2.1.1=ms) {heat:Int} (h0:0≤heat) (h9:heat≤1000000000):g346_ground_followed_depth a0 heat=some (dep ls ms ls.length 0 heat):=by
  unfold g346_ground_followed_depth G391 G391_l0_run
  obtain ⟨k,hk⟩:∃ k,ls.length=k+1:=⟨ls.length - 1,by have:=hL.pos; omega⟩
  rw [h1]
  obtain ⟨q,q1,q2,q3⟩:=melts_loop (a0:=a0) hL h1 h2 k 0 heat 0 ((a0,(ls,((ls.length:Int),(0,())))),((0,((),((),((),((),((),((),((),((),((),((),((),((),((),((),((),((),((),((),((),((),((),((),((),((),((),((),((),((),((),((),((),((),((),((),((),((),((),((),((),((),((),((),((),((),((),((),()))))))))))))))))))))))))))))))))))))))))))))))),(a0,(heat,(0,(0,())))))) (G391_l0_fuel ((a0,(ls,((ls.length:Int),(0,())))),((0,((),((),((),((),((),((),((),((),((),((),((),((),((),((),((),((),((),((),((),((),((),((),((),((),((),((),((),((),((),((),((),((),((),((),((),((),((),((),((),((),((),((),((),((),((),((),()))))))))))))))))))))))))))))))))))))))))))))))),(a0,(heat,(0,(0,()))))))) (by omega) (by simp [G391_l0_fuel]; omega) rfl rfl rfl rfl rfl rfl rfl rfl h0 h9 (by omega) (by omega)
  rw [q1]
  simp only [Option.bind_some,natK,q2]
  rw [show ((3:Nat)==0)=false from rfl,show ((3:Nat)==3)=true from rfl]
  simp only [cond_false,cond_true,q3,hk]
  rw [Int.zero_add]
end
section
variable {ls:List E178} {ms:List Int} {p:E25}
end
end Go.Proofs.YtkeipcalbbmncaaGreat.Abs
set_option linter.unusedVariables false
set_option linter.unusedSimpArgs false
set_option maxRecDepth 100000
namespace Go.Proofs.YtkeipcalbbmncaaGreat.Abs
def hea (t:E118) (i:Nat):Int:=t.2.1.getD i 0+t.2.2.1.getD i 0
def goe (t:E118) (i:Nat):Int:=t.2.2.2.1.getD i 0*(1000 - t.2.2.2.2.1.getD i 0) / 1000
def RL (t:E118) (more:Int):Nat→Int×Int
  | 0=>(0,0)
  | i+1=>
    let lf:=(RL t more i).2+hea t i
    let rs:=if lf > (RL t more i).1 then lf else (RL t more i).1
    let out:=if goe t i+more < lf then goe t i+more else lf
    (if lf - out=0 then 0 else rs,lf - out)
def Lf (t:E118) (more:Int) (i:Nat):Int:=(RL t more i).2+hea t i
def Rs (t:E118) (more:Int) (i:Nat):Int:=if Lf t more i > (RL t more i).1 then Lf t more i else (RL t more i).1
def Ou (t:E118) (more:Int) (i:Nat):Int:=if goe t i+more < Lf t more i then goe t i+more else Lf t more i
theorem RL_succ (t:E118) (more:Int) (i:Nat):RL t more (i+1)=(if Lf t more i - Ou t more i=0 then 0 else Rs t more i,Lf t more i - Ou t more i):=rfl
def Ins (t:E118):Nat→Int
  | 0=>0
  | i+1=>Ins t i+hea t i
def Outs (t:E118) (more:Int):Nat→Int
  | 0=>0
  | i+1=>Outs t more i+Ou t more i
structure Tru (t:E118) (n:Nat):Prop where
  few:n≤12
  l1:t.2.1.length=n
  l2:t.2.2.1.length=n
  l3:t.2.2.2.1.length=n
  l4:t.2.2.2.2.1.length=n
  warm:∀ i,i < n→0≤t.2.1.getD i 0∧t.2.1.getD i 0≤1000000
  summer:∀ i,i < n→0≤t.2.2.1.getD i 0∧t.2.2.1.getD i 0≤1000000
  winter:∀ i,i < n→0≤t.2.2.2.1.getD i 0∧t.2.2.2.1.getD i 0≤1000000
  snow:∀ i,i < n→0≤t.2.2.2.2.1.getD i 0∧t.2.2.2.2.1.getD i 0≤1000
section
variable {t:E118} {n:Nat} {more:Int}
theorem hea_bd (hT:Tru t n) {i:Nat} (hi:i < n):0≤hea t i∧hea t i≤2000000:=by
  have h1:=hT.warm i hi
  have h2:=hT.summer i hi
  unfold hea
  omega
theorem goe_mul (hT:Tru t n) {i:Nat} (hi:i < n):0≤t.2.2.2.1.getD i 0*(1000 - t.2.2.2.2.1.getD i 0)∧t.2.2.2.1.getD i 0*(1000 - t.2.2.2.2.1.getD i 0)≤1000000*1000:=by
  have h1:=hT.winter i hi
  have h2:=hT.snow i hi
  exact mul_bd h1.1 h1.2 (by omega) (by omega)
theorem goe_bd (hT:Tru t n) {i:Nat} (hi:i < n):0≤goe t i∧goe t i≤1000000:=by
  have h:=goe_mul hT hi
  unfold goe
  omega
theorem RL_bd (hT:Tru t n) (h0:0≤more):∀ i,i≤n→(0≤(RL t more i).1∧(RL t more i).1≤2000000*(i:Int))∧0≤(RL t more i).2∧(RL t more i).2≤2000000*(i:Int)
  | 0,_=>by simp [RL]
  | i+1,hi=>by
    obtain ⟨⟨a1,a2⟩,a3,a4⟩:=RL_bd hT h0 i (by omega)
    have h1:=hea_bd hT (show i < n by omega)
    have h2:=goe_bd hT (show i < n by omega)
    rw [RL_succ]
    unfold Ou Rs Lf
    simp only
    refine ⟨?_,?_⟩
    · split
      · omega
      · split<;>omega
    · split<;>omega
theorem year_bd (hT:Tru t n) (h0:0≤more) {i:Nat} (hi:i < n):(0≤Lf t more i∧Lf t more i≤24000000)∧(0≤Rs t more i∧Rs t more i≤24000000)∧0≤Ou t more i∧Ou t more i≤Lf t more i:=by
  obtain ⟨⟨a1,a2⟩,a3,a4⟩:=RL_bd hT h0 i (by omega)
  have h1:=hea_bd hT hi
  have h2:=goe_bd hT hi
  have hf:=hT.few
  have hl:0≤Lf t more i∧Lf t more i≤24000000:=by unfold Lf; omega
  refine ⟨hl,?_,?_⟩
  · unfold Rs
    split
    · exact hl
    · omega
  · unfold Ou
    split<;>omega
theorem sums_bd (hT:Tru t n) (h0:0≤more):∀ i,i≤n→(0≤Ins t i∧Ins t i≤2000000*(i:Int))∧0≤Outs t more i∧Outs t more i≤24000000*(i:Int)
  | 0,_=>by simp [Ins,Outs]
  | i+1,hi=>by
    obtain ⟨⟨a1,a2⟩,a3,a4⟩:=sums_bd hT h0 i (by omega)
    have h1:=hea_bd hT (show i < n by omega)
    have h2:=year_bd hT h0 (show i < n by omega)
    unfold Ins Outs
    omega
theorem lim_ok {a b:Nat} (h:a+b≤1000000):decide (a+b≤LIM)=true:=by
  unfold LIM
  simp
  omega
variable {p:E25} {ls:List E178}
theorem o74 (hT:Tru t n) (hL:Lay p.1 t.1) (h0:0≤more) (hm9:more≤1000000) {i:Nat} (hi:i < n) {depths lefts:List Int} {inn out kept:Int} (hd:depths.length≤1000) (hin:0≤inn) (hin9:inn≤1000000000) :
    G242 (p,(t,(more,((i:Int),((RL t more i).1,((RL t more i).2,(depths,(lefts,((inn,(out,(kept,()))),()))))))))) =
      some ((),((p,(t,(more,((i:Int),(Rs t more i,(Lf t more i,(depths++[dep p.1 t.1 p.1.length 0 (Rs t more i)],(lefts,((inn+hea t i,(out,(kept,()))),()))))))))),())):=by
  obtain ⟨⟨a1,a2⟩,a3,a4⟩:=RL_bd hT h0 i (by omega)
  have hw:=hT.warm i hi
  have hs:=hT.summer i hi
  have hb:=year_bd hT h0 hi
  have hf:=hT.few
  have w1:IntKind.wrap .i64 (t.2.1.getD i 0+t.2.2.1.getD i 0)=hea t i:=wr (by omega) (by omega)
  have hh:=hea_bd hT hi
  have w2:IntKind.wrap .i64 ((RL t more i).2+hea t i)=Lf t more i:=wr (by omega) (by omega)
  have w3:IntKind.wrap .i64 (inn+hea t i)=inn+hea t i:=wr (by omega) (by omega)
  unfold G242
  simp only [getD_toNat,inside_lt (show i < t.2.1.length by rw [hT.l1]; exact hi),inside_lt (show i < t.2.2.1.length by rw [hT.l2]; exact hi),cond_true,w1,w2,w3]
  rw [show (if Lf t more i > (RL t more i).1 then Lf t more i else (RL t more i).1)=Rs t more i from rfl]
  rw [o86 (ls:=p.1) (ms:=t.1) hL rfl rfl (by omega) (by omega)]
  simp only [Option.bind_some]
  rw [lim_ok (by simp; omega)]
  rfl
theorem o75 (hT:Tru t n) (h0:0≤more) (hm9:more≤1000000) {i:Nat} (hi:i < n) {depths lefts:List Int} {inn out kept:Int} (hd:lefts.length≤1000) (hin:0≤out) (hin9:out≤1000000000) :
    G243 (p,(t,(more,((i:Int),(Rs t more i,(Lf t more i,(depths,(lefts,((inn,(out,(kept,()))),()))))))))) =
      some ((),((p,(t,(more,((i:Int),((RL t more (i+1)).1,((RL t more (i+1)).2,(depths,(lefts++[(RL t more (i+1)).2],((inn,(out+Ou t more i,((RL t more (i+1)).2,()))),()))))))))),())):=by
  have hw:=hT.winter i hi
  have hs:=hT.snow i hi
  have hb:=year_bd hT h0 hi
  have hg:=goe_mul hT hi
  have hg2:=goe_bd hT hi
  have w1:IntKind.wrap .i64 ((1000:Int) - t.2.2.2.2.1.getD i 0)=1000 - t.2.2.2.2.1.getD i 0:=wr (by omega) (by omega)
  have w2:IntKind.wrap .i64 (t.2.2.2.1.getD i 0*(1000 - t.2.2.2.2.1.getD i 0))=t.2.2.2.1.getD i 0*(1000 - t.2.2.2.2.1.getD i 0):=wr (by omega) (by omega)
  have w3:IntKind.wrap .i64 (Int.tdiv (t.2.2.2.1.getD i 0*(1000 - t.2.2.2.2.1.getD i 0)) 1000)=goe t i:=by
    rw [tdiv_eq hg.1]
    exact wr (by unfold goe at hg2; omega) (by unfold goe at hg2; omega)
  have w4:IntKind.wrap .i64 (more+goe t i)=goe t i+more:=by rw [wr (by omega) (by omega)]; omega
  have w5:IntKind.wrap .i64 (Lf t more i - Ou t more i)=Lf t more i - Ou t more i:=wr (by omega) (by omega)
  have w6:IntKind.wrap .i64 (out+Ou t more i)=out+Ou t more i:=wr (by omega) (by omega)
  unfold G243
  simp only [getD_toNat,inside_lt (show i < t.2.2.2.1.length by rw [hT.l3]; exact hi),inside_lt (show i < t.2.2.2.2.1.length by rw [hT.l4]; exact hi),cond_true,w1,w2,w3,w4]
  rw [show (if goe t i+more < Lf t more i then goe t i+more else Lf t more i)=Ou t more i from rfl]
  simp only [w5,w6]
  rw [lim_ok (by simp; omega),RL_succ]
  by_cases h:Lf t more i - Ou t more i=0
  · rw [show (Lf t more i - Ou t more i==0)=true from by simpa using h]
    simp only [h,cond_true,if_true]
  · rw [show (Lf t more i - Ou t more i==0)=false from by simpa using h]
    simp only [h,cond_false,if_false]
    rfl
def Ds (p:E25) (t:E118) (more:Int) (n:Nat):List Int:=(List.range n).map fun j=>dep p.1 t.1 p.1.length 0 (Rs t more j)
def Ls (t:E118) (more:Int) (n:Nat):List Int:=(List.range n).map fun j=>(RL t more (j+1)).2
theorem Ds_succ (p:E25) (t:E118) (more:Int) (n:Nat):Ds p t more (n+1)=Ds p t more n++[dep p.1 t.1 p.1.length 0 (Rs t more n)]:=by simp [Ds,List.range_succ]
theorem Ls_succ (t:E118) (more:Int) (n:Nat):Ls t more (n+1)=Ls t more n++[(RL t more (n+1)).2]:=by simp [Ls,List.range_succ]
theorem Ds_len (p:E25) (t:E118) (more:Int) (n:Nat):(Ds p t more n).length=n:=by simp [Ds]
theorem Ls_len (t:E118) (more:Int) (n:Nat):(Ls t more n).length=n:=by simp [Ls]
def FB (p:E25) (t:E118) (more:Int) (y:Int) (i:Nat):E172:=(p,(t,(more,(y,((RL t more i).1,((RL t more i).2,(Ds p t more i,(Ls t more i,((Ins t i,(Outs t more i,((RL t more i).2,()))),())))))))))
theorem run1 (hT:Tru t n) (hL:Lay p.1 t.1) (h0:0≤more) (hm9:more≤1000000) {i:Nat} (hi:i < n) {m:Int}:∃ q,G135_l1_run ((m,((i:Int),(((),((),())),(0,())))),(FB p t more (i:Int) i,()))=some (0,q)∧q.1.1=m∧q.1.2.1=(i:Int)∧q.2.1=FB p t more (i:Int) (i+1):=by
  have hf:=hT.few
  obtain ⟨⟨b1,b2⟩,b3,b4⟩:=sums_bd hT h0 i (by omega)
  have hh:=hea_bd hT hi
  unfold G135_l1_run
  rw [show G135_l1_fuel ((m,((i:Int),(((),((),())),(0,())))),(FB p t more (i:Int) i,()))=1+1+1 from rfl]
  have s1:G135_l1_step ((m,((i:Int),(((),((),())),(0,())))),(FB p t more (i:Int) i,()))=some (0,((m,((i:Int),(((),((),())),(1,())))),((p,(t,(more,((i:Int),(Rs t more i,(Lf t more i,(Ds p t more i++[dep p.1 t.1 p.1.length 0 (Rs t more i)],(Ls t more i,((Ins t i+hea t i,(Outs t more i,((RL t more i).2,()))),()))))))))),()))):=by
    have:=o74 (p:=p) (depths:=Ds p t more i) (lefts:=Ls t more i) (inn:=Ins t i) (out:=Outs t more i) (kept:=(RL t more i).2) hT hL h0 hm9 hi (by rw [Ds_len]; omega) b1 (by omega)
    unfold G135_l1_step
    simp only [FB,show decide ((0:Int) < 2)=true from rfl,show decide ((0:Int)=0)=true from rfl,cond_true,this,Option.bind_some]
    rfl
  have s2:G135_l1_step ((m,((i:Int),(((),((),())),(1,())))),((p,(t,(more,((i:Int),(Rs t more i,(Lf t more i,(Ds p t more i++[dep p.1 t.1 p.1.length 0 (Rs t more i)],(Ls t more i,((Ins t i+hea t i,(Outs t more i,((RL t more i).2,()))),()))))))))),()))=some (0,((m,((i:Int),(((),((),())),(2,())))),(FB p t more (i:Int) (i+1),()))):=by
    have:=o75 (p:=p) (depths:=Ds p t more i++[dep p.1 t.1 p.1.length 0 (Rs t more i)]) (lefts:=Ls t more i) (inn:=Ins t i+hea t i) (out:=Outs t more i) (kept:=(RL t more i).2) hT h0 hm9 hi (by rw [Ls_len]; omega) b3 (by omega)
    unfold G135_l1_step
    simp only [show decide ((1:Int) < 2)=true from rfl,show decide ((1:Int)=0)=false from rfl,show decide ((1:Int)=1)=true from rfl,cond_true,cond_false,this,Option.bind_some]
    unfold FB
    rw [Ds_succ,Ls_succ]
    rfl
  have s3:G135_l1_step ((m,((i:Int),(((),((),())),(2,())))),(FB p t more (i:Int) (i+1),()))=some (1,((m,((i:Int),(((),((),())),(2,())))),(FB p t more (i:Int) (i+1),()))):=by
    unfold G135_l1_step
    simp only [show decide ((2:Int) < 2)=false from rfl,cond_false]
  rw [iter_one s1,iter_one s2,iter_out s3]
  exact ⟨_,rfl,rfl,rfl,rfl⟩
theorem o52 (hT:Tru t n) (hL:Lay p.1 t.1) (h0:0≤more) (hm9:more≤1000000):∃ y u,G135 (p,(t,(more,(0,(0,(0,([],([],((0,(0,(0,()))),())))))))))=some (u,(FB p t more y n,())):=by
  have hf:=hT.few
  unfold G135 G135_l0_run
  obtain ⟨q,q1,q2,y,q3⟩:=iter_all (step:=G135_l0_step) (n:=n) (k:=0) (fun i s=>s.1.1=(n:Int)∧s.1.2.1=(i:Int)∧∃ y,s.2.1=FB p t more y i) (fun s=>s.1.1=(n:Int)∧∃ y,s.2.1=FB p t more y n)
    (fun i s h hi=>by
      obtain ⟨e1,e2,y,e3⟩:=h
      obtain ⟨q,q1,q2,q3,q4⟩:=run1 (p:=p) (m:=(n:Int)) hT hL h0 hm9 hi
      have st:G135_l0_step s=some (0,((q.1.1,((IntKind.wrap .i64 (q.1.2.1+1)),())),(q.2.1,()))):=by
        unfold G135_l0_step
        simp only [e1,e2,e3,show decide ((i:Int) < (n:Int))=true from by simp; omega,cond_true]
        exact Eq.trans (congrArg (fun z=>Option.bind z _) q1) rfl
      refine ⟨_,st,q2,?_,(i:Int),q4⟩
      rw [q3]
      exact wr (by omega) (by omega))
    (fun s h=>by
      obtain ⟨e1,e2,y,e3⟩:=h
      have st:G135_l0_step s=some (1,s):=by
        unfold G135_l0_step
        simp only [e1,e2,show decide ((n:Int) < (n:Int))=false from by simp,cond_false]
        obtain ⟨⟨s1,s2,s3⟩,s4,s5⟩:=s
        simp only at e1 e2
        subst e1 e2
        rfl
      exact ⟨_,st,e1,y,e3⟩)
    (G135_l0_fuel (((n:Int),(0,())),(FB p t more 0 0,()))) (((n:Int),(0,())),(FB p t more 0 0,())) (by simp [G135_l0_fuel]) ⟨rfl,rfl,0,rfl⟩
  refine ⟨y,(),?_⟩
  have e:(((List.length t.2.2.1:Int),(0,())),(FB p t more 0 0,()))=((((n:Int),(0,())),(FB p t more 0 0,())):(Int×(Int×Unit))×(E172×Unit)):=by rw [hT.l2]
  have q1':iter G135_l0_step (G135_l0_fuel (((List.length t.2.2.1:Int),(0,())),(FB p t more 0 0,()))) (((List.length t.2.2.1:Int),(0,())),(FB p t more 0 0,()))=some (0,q):=by rw [e]; exact q1
  refine Eq.trans (congrArg (fun z=>Option.bind z _) q1') ?_
  rw [← q3]
  rfl
end
end Go.Proofs.YtkeipcalbbmncaaGreat.Abs
set_option linter.unusedVariables false
set_option linter.unusedSimpArgs false
set_option maxRecDepth 100000
namespace Go.Proofs.YtkeipcalbbmncaaGreat.Abs
theorem errOf_false (p:E25) (l:List E73):errOf p l false=bif decide ((l.length:Int) > 12) then 3 else 2:=by
  unfold errOf
  cases decide ((l.length:Int) > 12)<;>rfl
theorem errOf_false_ne (p:E25) (l:List E73):(errOf p l false != 0)=true:=by
  rw [errOf_false]
  cases decide ((l.length:Int) > 12)<;>rfl
theorem spB_spec {s:E23} {lo hi:Int} (h:spB s lo hi=true):lo≤s.1∧s.1≤s.2.1∧s.2.1≤hi:=by
  unfold spB at h
  simp only [Bool.and_eq_true,decide_eq_true_eq] at h
  exact ⟨h.1.1,h.1.2,h.2⟩
theorem inB_spec {x lo hi:Int}:inB x lo hi=true↔lo≤x∧x≤hi:=by
  unfold inB
  simp
theorem insI_spec {a:List Int} {n:Nat} {f:Nat→E23} (h:insI a n f=true):a.length=n∧∀ i,i < n→(f i).1≤a.getD i 0∧a.getD i 0≤(f i).2.1:=by
  unfold insI at h
  simp only [Bool.and_eq_true,decide_eq_true_eq] at h
  exact ⟨h.1,fun i hi=>inB_spec.1 (range_all.1 h.2 i hi)⟩
theorem okL_spec {p:E25} (h:okPl p=true) {i:Nat} (hi:i < p.1.length):(1≤(p.1.getD i dL).1∧(p.1.getD i dL).1≤20000)∧1≤(p.1.getD i dL).2.1.1∧(p.1.getD i dL).2.1.1≤(p.1.getD i dL).2.1.2.1∧(p.1.getD i dL).2.1.2.1≤1000:=by
  unfold okPl at h
  simp only [Bool.and_eq_true] at h
  have:=(all_of_get (d:=dL)).1 h.2 i hi
  unfold okL at this
  simp only [Bool.and_eq_true] at this
  exact ⟨inB_spec.1 this.1,spB_spec this.2⟩
theorem okPl_len {p:E25} (h:okPl p=true):1≤p.1.length∧p.1.length≤6:=by
  unfold okPl at h
  simp only [Bool.and_eq_true] at h
  have:=inB_spec.1 h.1.1
  omega
theorem okPl_warm {p:E25} (h:okPl p=true):0≤p.2.1.1∧p.2.1.1≤p.2.1.2.1∧p.2.1.2.1≤1000000:=by
  unfold okPl at h
  simp only [Bool.and_eq_true] at h
  exact spB_spec h.1.2
theorem okY_spec {l:List E73} (h:l.all okY=true) {i:Nat} (hi:i < l.length):(0≤(l.getD i dY).1.1∧(l.getD i dY).1.1≤(l.getD i dY).1.2.1∧(l.getD i dY).1.2.1≤1000000)∧(0≤(l.getD i dY).2.1.1∧(l.getD i dY).2.1.1≤(l.getD i dY).2.1.2.1∧(l.getD i dY).2.1.2.1≤1000000)∧0≤(l.getD i dY).2.2.1.1∧(l.getD i dY).2.2.1.1≤(l.getD i dY).2.2.1.2.1∧(l.getD i dY).2.2.1.2.1≤1000:=by
  have:=(all_of_get (d:=dY)).1 h i hi
  unfold okY at this
  simp only [Bool.and_eq_true] at this
  exact ⟨spB_spec this.1.1,spB_spec this.1.2,spB_spec this.2⟩
theorem lay_of {p:E25} {ms:List Int} (h:okPl p=true) (hm:insI ms p.1.length (fun i=>(p.1.getD i dL).2.1)=true):Lay p.1 ms:=by
  obtain ⟨h1,h2⟩:=insI_spec hm
  have hl:=okPl_len h
  refine ⟨h1,hl.1,hl.2,fun i hi=>(okL_spec h hi).1,fun i hi=>?_⟩
  have h3:=(okL_spec h hi).2
  have h4:=h2 i hi
  omega
theorem tru_of {p:E25} {l:List E73} {t:E118} (hl:l.length≤12) (hp:okPl p=true) (hy:l.all okY=true) (ht:truB p l t=true):Tru t l.length∧Lay p.1 t.1:=by
  unfold truB at ht
  simp only [Bool.and_eq_true] at ht
  obtain ⟨⟨⟨⟨t0,t1⟩,t2⟩,t3⟩,t4⟩:=ht
  obtain ⟨a1,b1⟩:=insI_spec t1
  obtain ⟨a2,b2⟩:=insI_spec t2
  obtain ⟨a3,b3⟩:=insI_spec t3
  obtain ⟨a4,b4⟩:=insI_spec t4
  have hw:=okPl_warm hp
  refine ⟨⟨hl,a1,a2,a3,a4,fun i hi=>?_,fun i hi=>?_,fun i hi=>?_,fun i hi=>?_⟩,lay_of hp t0⟩
  · have:=b1 i hi; omega
  · have:=b2 i hi; have:=(okY_spec hy hi).1; omega
  · have:=b3 i hi; have:=(okY_spec hy hi).2.1; omega
  · have:=b4 i hi; have:=(okY_spec hy hi).2.2; omega
theorem o16_eq {p:E25} {l:List E73} {t:E118} (hp:p.1.length < 2^40) (hl:l.length < 2^40) (h1:t.1.length < 2^40) (h2:t.2.1.length < 2^40) (h3:t.2.2.1.length < 2^40) (h4:t.2.2.2.1.length < 2^40) (h5:t.2.2.2.2.1.length < 2^40) :
    G42 p l t=bif errOf p l (truB p l t) != 0 then some ([],((0,(0,(0,()))),(errOf p l (truB p l t),()))) else Option.bind (G135 (p,(t,(0,(0,(0,(0,([],([],((0,(0,(0,()))),())))))))))) fun r=>some (r.2.1.2.2.2.2.2.2.1,((r.2.1.2.2.2.2.2.2.2.2.1.1,(r.2.1.2.2.2.2.2.2.2.2.1.2.1,(r.2.1.2.2.2.2.2.2.2.2.1.2.2.1,()))),(0,()))):=by
  unfold G42 truB
  rw [s_g44_ground_inside t.1 p.1 h1,s_g46_ground_inside t.2.1 l p h2,s_g46_ground_inside_v1 t.2.2.1 l h3,s_g46_ground_inside_v2 t.2.2.2.1 l h4,s_g46_ground_inside_v3 t.2.2.2.2.1 l h5]
  simp only [Option.bind_some,o51 p l _ hp hl]
  have hne:=errOf_false_ne p l
  cases insI t.1 p.1.length (fun i=>(p.1.getD i dL).2.1)<;>cases insI t.2.1 l.length (fun i=>p.2.1)<;>cases insI t.2.2.1 l.length (fun i=>(l.getD i dY).1)<;>cases insI t.2.2.2.1 l.length (fun i=>(l.getD i dY).2.1)<;>cases insI t.2.2.2.2.1 l.length (fun i=>(l.getD i dY).2.2.1)<;>simp only [cond_true,cond_false,Bool.and_true,Bool.and_false,Bool.true_and,Bool.false_and,hne]<;>rfl
theorem o16_ok {p:E25} {l:List E73} {t:E118} (hl:l.length≤12) (hp:okPl p=true) (hy:l.all okY=true) (ht:truB p l t=true) :
    G42 p l t=some (Ds p t 0 l.length,((Ins t l.length,(Outs t 0 l.length,((RL t 0 l.length).2,()))),(0,()))):=by
  obtain ⟨hT,hL⟩:=tru_of hl hp hy ht
  have hpl:=okPl_len hp
  have hms:=hL.len
  rw [o16_eq (by omega) (by omega) (by omega) (by rw [hT.l1]; omega) (by rw [hT.l2]; omega) (by rw [hT.l3]; omega) (by rw [hT.l4]; omega)]
  have he:errOf p l (truB p l t)=0:=by
    unfold errOf
    rw [ht,hp,hy,show decide ((l.length:Int) > 12)=false from by simp; omega]
    rfl
  rw [he]
  obtain ⟨y,u,h⟩:=o52 hT hL (Int.le_refl 0) (by omega)
  rw [show ((0:Int) != 0)=false from rfl]
  simp only [cond_false,h,Option.bind_some]
  rfl
theorem map_range_getD {α:Type} {f:Nat→α} {n i:Nat} {d:α} (hi:i < n):((List.range n).map f).getD i d=f i:=by
  simp [List.getD_eq_getElem?_getD,List.getElem?_map,List.getElem?_range hi]
end Go.Proofs.YtkeipcalbbmncaaGreat.Abs
set_option linter.unusedVariables false
set_option linter.unusedSimpArgs false
set_option maxRecDepth 100000
namespace Go.Proofs.YtkeipcalbbmncaaGreat.Abs
theorem insI_of {a:List Int} {n:Nat} {f:Nat→E23} (h1:a.length=n) (h2:∀ i,i < n→(f i).1≤a.getD i 0∧a.getD i 0≤(f i).2.1):insI a n f=true:=by
  unfold insI
  simp only [Bool.and_eq_true,decide_eq_true_eq]
  exact ⟨h1,range_all.2 fun i hi=>inB_spec.2 (h2 i hi)⟩
end Go.Proofs.YtkeipcalbbmncaaGreat.Abs
set_option linter.unusedVariables false
set_option linter.unusedSimpArgs false
set_option maxRecDepth 100000
namespace Go.Proofs.YtkeipcalbbmncaaGreat.Abs
def thw (p:E25) (t:E118) (more:Int) (j:Nat):Int:=dep p.1 t.1 p.1.length 0 (Rs t more j)
theorem Ds_getD {p:E25} {t:E118} {more:Int} {n i:Nat} (hi:i < n):(Ds p t more n).getD i 0=thw p t more i:=map_range_getD hi
structure Wrm (t u:E118) (a b:Int) (n:Nat):Prop where
  hea:∀ i,i < n→hea t i≤hea u i
  goe:∀ i,i < n→goe u i+b≤goe t i+a
theorem RL_mono {t u:E118} {a b:Int} {n m:Nat} (hT:Tru t m) (hU:Tru u m) (ha:0≤a) (hb:0≤b) (hw:Wrm t u a b n) (hnm:n≤m):∀ i,i≤n→(RL t a i).1≤(RL u b i).1∧(RL t a i).2≤(RL u b i).2
  | 0,_=>⟨Int.le_refl _,Int.le_refl _⟩
  | i+1,hi=>by
    obtain ⟨h1,h2⟩:=RL_mono hT hU ha hb hw hnm i (by omega)
    have e1:=hw.hea i (by omega)
    have e2:=hw.goe i (by omega)
    have b1:=year_bd hT ha (show i < m by omega)
    have b2:=year_bd hU hb (show i < m by omega)
    rw [RL_succ,RL_succ]
    have l1:Lf t a i≤Lf u b i:=by unfold Lf; omega
    have r1:Rs t a i≤Rs u b i:=by
      unfold Rs
      split<;>split<;>omega
    have o1:Lf t a i - Ou t a i≤Lf u b i - Ou u b i:=by
      unfold Ou
      split<;>split<;>omega
    refine ⟨?_,o1⟩
    simp only
    by_cases z:Lf u b i - Ou u b i=0
    · rw [if_pos z,if_pos (by omega)]
      exact Int.le_refl _
    · rw [if_neg z]
      split
      · exact b2.2.1.1
      · exact r1
theorem Rs_mono {t u:E118} {a b:Int} {n m:Nat} (hT:Tru t m) (hU:Tru u m) (ha:0≤a) (hb:0≤b) (hw:Wrm t u a b n) (hnm:n≤m) {i:Nat} (hi:i < n):Rs t a i≤Rs u b i:=by
  obtain ⟨h1,h2⟩:=RL_mono hT hU ha hb hw hnm i (by omega)
  have e1:=hw.hea i (by omega)
  have l1:Lf t a i≤Lf u b i:=by unfold Lf; omega
  unfold Rs
  split<;>split<;>omega
theorem div_mono {a b c d:Int} (h0:0≤a) (hab:a≤b) (hc:1≤c) (hcd:c≤d):a / d≤b / c:=by
  have h1:a / d≤a / c:=by
    have h:(a / d)*d≤a:=Int.ediv_mul_le a (by omega)
    refine Int.le_ediv_of_mul_le (by omega) ?_
    have h3:0≤a / d:=Int.ediv_nonneg h0 (by omega)
    exact Int.le_trans (Int.mul_le_mul_of_nonneg_left hcd h3) h
  exact Int.le_trans h1 (Int.ediv_le_ediv (by omega) hab)
theorem dep_nonneg {ls:List E178} {ms:List Int} (hM:Lay ls ms):∀ (k i:Nat) (a:Int),i+k≤ls.length→0≤a→0≤dep ls ms k i a
  | 0,i,a,_,_=>by simp [dep]
  | k+1,i,a,hk,h0=>by
    have m1:=hM.melt i (by omega)
    have t1:=hM.thick i (by omega)
    unfold dep
    by_cases h:k=0∨a < (ls.getD i dL).1*ms.getD i 0
    · rw [if_pos h]
      exact Int.ediv_nonneg h0 (by omega)
    · rw [if_neg h]
      have:=dep_nonneg hM k (i+1) (a - (ls.getD i dL).1*ms.getD i 0) (by omega) (by omega)
      omega
theorem dep_mono {ls:List E178} {ms ns:List Int} (hM:Lay ls ms) (hN:Lay ls ns) (hle:∀ i,i < ls.length→ns.getD i 0≤ms.getD i 0):∀ (k i:Nat) (a b:Int),i+k≤ls.length→0≤a→a≤b→dep ls ms k i a≤dep ls ns k i b
  | 0,i,a,b,_,_,_=>by simp [dep]
  | k+1,i,a,b,hk,h0,hab=>by
    have hi:i < ls.length:=by omega
    have m1:=hM.melt i hi
    have n1:=hN.melt i hi
    have t1:=hM.thick i hi
    have le:=hle i hi
    have hd:=div_mono h0 hab n1.1 le
    have hmul:(ls.getD i dL).1*ns.getD i 0≤(ls.getD i dL).1*ms.getD i 0:=Int.mul_le_mul_of_nonneg_left le (by omega)
    unfold dep
    by_cases hz:k=0
    · rw [if_pos (.inl hz),if_pos (.inl hz)]
      exact hd
    · by_cases h1:a < (ls.getD i dL).1*ms.getD i 0
      · rw [if_pos (.inr h1)]
        by_cases h2:b < (ls.getD i dL).1*ns.getD i 0
        · rw [if_pos (.inr h2)]
          exact hd
        · rw [if_neg (by omega)]
          have h3:a / ms.getD i 0 < (ls.getD i dL).1:=Int.ediv_lt_of_lt_mul (by omega) h1
          have h4:=dep_mono hN hN (fun _ _=>Int.le_refl _) k (i+1) 0 (b - (ls.getD i dL).1*ns.getD i 0) (by omega) (Int.le_refl _) (by omega)
          have h5:0≤dep ls ns k (i+1) 0:=dep_nonneg hN k (i+1) 0 (by omega) (Int.le_refl _)
          omega
      · rw [if_neg (by omega),if_neg (by omega)]
        have:=dep_mono hM hN hle k (i+1) (a - (ls.getD i dL).1*ms.getD i 0) (b - (ls.getD i dL).1*ns.getD i 0) (by omega) (by omega) (by omega)
        omega
theorem thw_mono {p:E25} {t u:E118} {a b:Int} {n m:Nat} (hT:Tru t m) (hU:Tru u m) (hL:Lay p.1 t.1) (hM:Lay p.1 u.1) (hle:∀ i,i < p.1.length→u.1.getD i 0≤t.1.getD i 0) (ha:0≤a) (hb:0≤b) (hw:Wrm t u a b n) (hnm:n≤m) {i:Nat} (hi:i < n):thw p t a i≤thw p u b i:=
  dep_mono hL hM hle p.1.length 0 _ _ (by omega) (year_bd hT ha (show i < m by omega)).2.1.1 (Rs_mono hT hU ha hb hw hnm hi)
end Go.Proofs.YtkeipcalbbmncaaGreat.Abs
set_option linter.unusedVariables false
set_option linter.unusedSimpArgs false
set_option maxRecDepth 100000
namespace Go.Proofs.YtkeipcalbbmncaaGreat.Abs
section
variable {p:E25} {l:List E73} {t:E118}
theorem truB_spec (ht:truB p l t=true):insI t.1 p.1.length (fun i=>(p.1.getD i dL).2.1)=true∧insI t.2.1 l.length (fun i=>p.2.1)=true∧insI t.2.2.1 l.length (fun i=>(l.getD i dY).1)=true∧insI t.2.2.2.1 l.length (fun i=>(l.getD i dY).2.1)=true∧insI t.2.2.2.2.1 l.length (fun i=>(l.getD i dY).2.2.1)=true:=by
  unfold truB at ht
  simp only [Bool.and_eq_true] at ht
  exact ⟨ht.1.1.1.1,ht.1.1.1.2,ht.1.1.2,ht.1.2,ht.2⟩
end
end Go.Proofs.YtkeipcalbbmncaaGreat.Abs
