import Derived.Test.YtkeipcalbbmncaaGreatA1
import Derived.Laws.StructEq
import Derived.MapKept
import Derived.Laws.MakeOwn
import Derived.Laws.BytesString
set_option linter.unusedVariables false
set_option linter.unusedSimpArgs false
namespace Go.Proofs.YtkeipcalbbmncaaGreat.Abs
def eqD:(T:DTy)→T.El→T.El→Bool
  | .int _,a,b=>(a:Int)==b
  | .bool,a,b=>(a:Bool)==b
  | .str,a,b=>(ByteArray.toList a)==ByteArray.toList b
  | .cons h t,x,y=>eqD h x.1 y.1&&eqD t x.2 y.2
  | .nil,_,_=>true
  | .list _,_,_=>true
  | .mapr,_,_=>true
  | .opq,_,_=>true
  | .arr n e,x,y=>(List.range' 0 n).all fun i=>eqD e (List.getD x i e.dflt) (List.getD y i e.dflt)
def fitD (P:Program) (t:TypeId) (T:DTy):Bool:=
  match P.info? t,aggT P t with
  | some i,some b=>i.size==T.sz&&b==T.agg
  | _,_=>false
theorem fitD_spec {P:Program} {t:TypeId} {T:DTy} (h:fitD P t T=true):∃ i,P.info? t=some i∧i.size=T.sz∧aggT P t=some T.agg:=by
  unfold fitD at h
  split at h
  · rename_i i b h1 h2
    simp only [Bool.and_eq_true,beq_iff_eq] at h
    exact ⟨i,h1,h.1,by rw [h2,h.2]⟩
  · cases h
def eqFs (P:Program) (rec:TypeId→DTy→Bool):List Field→DTy→Nat→Bool
  | [],.nil,_=>true
  | f :: fs, .cons h t, o => decide (f.name ≠ "_") && f.offset == o && fitD P f.type h && rec f.type h && eqFs P rec fs t (o + h.sz)
  | _,_,_=>false
def eqT (P:Program):Nat→TypeId→DTy→Bool
  | 0,_,_=>false
  | d+1,t,T=>match P.underlying t with
    | some .bool=>match T with
      | .bool=>true
      | _=>false
    | some (.int _)=>match T with
      | .int _=>true
      | _=>false
    | some .string=>match T with
      | .str=>true
      | _=>false
    | some (.struct fs)=>!P.stoodInHeld t&&T.agg&&eqFs P (eqT P d) fs.toList T 0
    | _=>false
def eqU (P:Program):Nat→TypeId→DTy→Bool
  | 0,_,_=>false
  | d+1,t,T=>match P.underlying t with
    | some .bool=>match T with
      | .bool=>true
      | _=>false
    | some (.int _)=>match T with
      | .int _=>true
      | _=>false
    | some .string=>match T with
      | .str=>true
      | _=>false
    | some (.struct fs)=>!P.stoodInHeld t&&T.agg&&eqFs P (eqU P d) fs.toList T 0
    | some (.array m e)=>match T with
      | .arr m' e'=>m==m'&&fitD P e e'&&eqU P d e e'
      | _=>false
    | _=>false
theorem run_partD {P:Program} {t:TypeId} {T:DTy} (h:fitD P t T=true) {imm:Nat→Option (List Value)} {x:T.El} {cs:List Value} (o:Nat) (hle:o+T.sz≤cs.length) (hr:RD imm T x ((cs.drop o).take T.sz)) (w:World) :
    ∃ v,(part t cs.toArray o).run P w=.ok v w∧VD imm T x v:=by
  obtain ⟨i,hi,hsz,hag⟩:=fitD_spec h
  unfold part
  rw [Sem.run_bind,run_isAgg' hag]
  simp only [Result.andThen_ok]
  cases hT:T.agg with
  | true=>
    refine ⟨.agg ((cs.drop o).take T.sz).toArray,?_,_,hr,.inl ⟨hT,rfl⟩⟩
    simp only [if_true,Sem.run_bind,run_sizeOf' hi,Sem.run_pure,Result.andThen_ok]
    congr 2
    apply Array.ext'
    simp [List.extract_eq_take_drop,hsz]
  | false=>
    have h1:T.sz=1:=by cases T<;>simp [DTy.agg] at hT<;>rfl
    have hlt:o < cs.length:=by omega
    have hone:(cs.drop o).take T.sz=[cs[o]]:=by
      rw [h1,List.drop_eq_getElem_cons hlt]; rfl
    rw [hone] at hr
    refine ⟨cs[o],?_,_,hr,.inr ⟨hT,rfl⟩⟩
    simp [hlt]
theorem eqFs_run {P:Program} {imm:Nat→Option (List Value)} {D:Nat} {rec:TypeId→DTy→Bool} {w:World}
    (ih:∀ t T,rec t T=true→∀ (x y:T.El) (v u:Value),VD imm T x v→VD imm T y u→(Op.equalIn D t v u).run P w=.ok (eqD T x y) w) :
    (fs:List Field)→(T:DTy)→(o:Nat)→eqFs P rec fs T o=true→(x y:T.El)→(cs ds:List Value)→o+T.sz≤cs.length→o+T.sz≤ds.length→RD imm T x ((cs.drop o).take T.sz)→RD imm T y ((ds.drop o).take T.sz)→
      (Op.eqFields D cs.toArray ds.toArray fs).run P w=.ok (eqD T x y) w
  | [],.nil,o,_,x,y,cs,ds,_,_,_,_=>rfl
  | f::fs,.cons h t,o,hq,x,y,cs,ds,l1,l2,r1,r2=>by
    simp only [eqFs,Bool.and_eq_true,beq_iff_eq,decide_eq_true_eq] at hq
    obtain ⟨⟨⟨⟨hn,rfl⟩,hf⟩,hrec⟩,hrest⟩:=hq
    have split:∀ (cs:List Value) (z:(DTy.cons h t).El),f.offset+(DTy.cons h t).sz≤cs.length→RD imm (.cons h t) z ((cs.drop f.offset).take (DTy.cons h t).sz)→
        (f.offset+h.sz≤cs.length∧RD imm h z.1 ((cs.drop f.offset).take h.sz))∧(f.offset+h.sz+t.sz≤cs.length∧RD imm t z.2 ((cs.drop (f.offset+h.sz)).take t.sz)):=fun cs z hl hr=>by
      obtain ⟨c1,c2,e,k1,k2⟩:=hr
      have g1:=RD.len k1
      have g2:=RD.len k2
      have hs:(DTy.cons h t).sz=h.sz+t.sz:=rfl
      rw [hs] at e hl
      have e1:(cs.drop f.offset).take h.sz=c1:=by
        have:=congrArg (List.take h.sz) e
        rw [List.take_take,Nat.min_eq_left (by omega),← g1,List.take_left'] at this
        · rw [← g1]; exact this
        · rfl
      have e2:(cs.drop (f.offset+h.sz)).take t.sz=c2:=by
        have:=congrArg (List.drop h.sz) e
        rw [List.drop_take,List.drop_drop,Nat.add_sub_cancel_left,← g1,List.drop_left'] at this
        · rw [← g1]; exact this
        · rfl
      exact ⟨⟨by omega,by rw [e1]; exact k1⟩,⟨by omega,by rw [e2]; exact k2⟩⟩
    obtain ⟨⟨a1,a2⟩,a3,a4⟩:=split cs x l1 r1
    obtain ⟨⟨b1,b2⟩,b3,b4⟩:=split ds y l2 r2
    obtain ⟨v,hv,vd⟩:=run_partD hf (o:=f.offset) a1 a2 w
    obtain ⟨u,hu,ud⟩:=run_partD hf (o:=f.offset) b1 b2 w
    have he:=ih _ _ hrec x.1 y.1 v u vd ud
    simp only [Op.eqFields]
    rw [if_pos hn]
    simp only [Sem.run_bind,hv,hu,he,Result.andThen_ok]
    cases hb:eqD h x.1 y.1 with
    | false=>
      simp only [Bool.not_false,if_true,Sem.run_pure,eqD,hb,Bool.false_and]
    | true=>
      simp only [Bool.not_true,Bool.false_eq_true,if_false]
      rw [eqFs_run ih fs t (f.offset+h.sz) hrest x.2 y.2 cs ds a3 b3 a4 b4]
      simp only [eqD,hb,Bool.true_and]
  | [],.mapr,_,h,_,_,_,_,_,_,_,_ | [],.opq,_,h,_,_,_,_,_,_,_,_ | [],.int _,_,h,_,_,_,_,_,_,_,_ | [],.bool,_,h,_,_,_,_,_,_,_,_ | [],.str,_,h,_,_,_,_,_,_,_,_ | [],.list _,_,h,_,_,_,_,_,_,_,_ | [],.cons _ _,_,h,_,_,_,_,_,_,_,_ | [],.arr _ _,_,h,_,_,_,_,_,_,_,_=>by simp [eqFs] at h
  | _::_,.mapr,_,h,_,_,_,_,_,_,_,_ | _::_,.opq,_,h,_,_,_,_,_,_,_,_ | _::_,.int _,_,h,_,_,_,_,_,_,_,_ | _::_,.bool,_,h,_,_,_,_,_,_,_,_ | _::_,.str,_,h,_,_,_,_,_,_,_,_ | _::_,.list _,_,h,_,_,_,_,_,_,_,_ | _::_,.nil,_,h,_,_,_,_,_,_,_,_ | _::_,.arr _ _,_,h,_,_,_,_,_,_,_,_=>by simp [eqFs] at h
theorem VD.leaf {imm:Nat→Option (List Value)} {T:DTy} {x:T.El} {v u:Value} (hT:T.agg=false) (h:VD imm T x v) (hr:∀ cs,RD imm T x cs→cs=[u]):v=u:=by
  obtain ⟨cs,hc,h | h⟩:=h
  · rw [hT] at h; cases h.1
  · have:=hr cs hc
    rw [h.2] at this
    simpa using this
theorem run_equalIn_array {P:Program} {w:World} {D:Nat} {t e:TypeId} {m:Nat} {ti:TypeInfo} {xs ys:Array Value} (ht:P.underlying t=some (.array m e)) (hn:P.info? e=some ti) (f:Nat→Bool)
    (h:∀ i,i < m→∃ v u,(part e xs (i*ti.size)).run P w=.ok v w∧(part e ys (i*ti.size)).run P w=.ok u w∧(Op.equalIn D e v u).run P w=.ok (f i) w) :
    (Op.equalIn (D+1) t (.agg xs) (.agg ys)).run P w=.ok ((List.range' 0 m).all f) w:=by
  simp only [Op.equalIn,Sem.run_bind,run_underlying' ht,Result.andThen_ok,run_sizeOf' hn,Std.Legacy.Range.forIn_eq_forIn_range',Std.Legacy.Range.size,Nat.sub_zero,Nat.add_sub_cancel,Nat.div_one]
  have h':∀ i,0≤i→i < 0+m→∃ v u,(part e xs (i*ti.size)).run P w=.ok v w∧(part e ys (i*ti.size)).run P w=.ok u w∧(Op.equalIn D e v u).run P w=.ok (f i) w:=fun i _ hi=>h i (by omega)
  clear h ht
  generalize 0=s at *
  induction m generalizing s with
  | zero=>simp
  | succ m ih=>
    obtain ⟨v,u,h1,h2,h3⟩:=h' s (Nat.le_refl _) (by omega)
    have ih':=ih (s+1) (fun i h4 h5=>h' i (by omega) (by omega))
    simp only [List.range'_succ,List.forIn_cons,List.all_cons,Sem.run_bind,h1,h2,h3,Result.andThen_ok]
    cases hf:f s with
    | false=>simp
    | true=>
      simp only [Bool.not_true,Bool.false_eq_true,if_false,Sem.run_pure,Result.andThen_ok,Bool.true_and]
      exact ih'
theorem eqT_run {P:Program} {imm:Nat→Option (List Value)} {w:World}:(d D:Nat)→d≤D→(t:TypeId)→(T:DTy)→eqT P d t T=true→(x y:T.El)→(v u:Value)→VD imm T x v→VD imm T y u→(Op.equalIn D t v u).run P w=.ok (eqD T x y) w
  | 0,_,_,_,_,h,_,_,_,_,_,_=>by simp [eqT] at h
  | d+1,0,hd,_,_,_,_,_,_,_,_,_=>by omega
  | d+1,D+1,hd,t,T,h,x,y,v,u,hv,hu=>by
    simp only [eqT] at h
    split at h
    · rename_i ht
      cases T<;>simp only [Bool.false_eq_true] at h
      have e1:=VD.leaf (u:=.bool x) rfl hv (fun cs hc=>hc)
      have e2:=VD.leaf (u:=.bool y) rfl hu (fun cs hc=>hc)
      subst e1; subst e2
      exact run_equalIn_bool' w D t x y ht
    · rename_i k ht
      cases T<;>simp only [Bool.false_eq_true] at h
      rename_i k'
      have e1:=VD.leaf (u:=.int k' x) rfl hv (fun cs hc=>hc)
      have e2:=VD.leaf (u:=.int k' y) rfl hu (fun cs hc=>hc)
      subst e1; subst e2
      exact run_equalIn_int w D t _ _ x y ht
    · rename_i ht
      cases T<;>simp only [Bool.false_eq_true] at h
      have e1:=VD.leaf (u:=.string x) rfl hv (fun cs hc=>hc)
      have e2:=VD.leaf (u:=.string y) rfl hu (fun cs hc=>hc)
      subst e1; subst e2
      exact run_equalIn_string w D t x y ht
    · rename_i fs ht
      simp only [Bool.and_eq_true,Bool.not_eq_true'] at h
      obtain ⟨⟨hs,hT⟩,hf⟩:=h
      obtain ⟨cs,hc,hcv | hcv⟩:=hv
      · obtain ⟨ds,hd',hdv | hdv⟩:=hu
        · rw [hcv.2,hdv.2]
          have hfo:P.fieldsOf t=fs:=by unfold Program.fieldsOf; rw [ht]
          rw [run_equalIn_struct w D t _ _ (by rw [hfo]; exact ht) hs,hfo]
          have g1:=RD.len hc
          have g2:=RD.len hd'
          exact eqFs_run (fun t T hq x y v u hv hu=>eqT_run d D (by omega) t T hq x y v u hv hu) fs.toList T 0 hf x y cs ds (by omega) (by omega) (by rw [List.drop_zero,List.take_of_length_le (by omega)]; exact hc) (by rw [List.drop_zero,List.take_of_length_le (by omega)]; exact hd')
        · rw [hT] at hdv; cases hdv.1
      · rw [hT] at hcv; cases hcv.1
    · cases h
theorem eqU_run {P:Program} {imm:Nat→Option (List Value)} {w:World}:(d D:Nat)→d≤D→(t:TypeId)→(T:DTy)→eqU P d t T=true→(x y:T.El)→(v u:Value)→VD imm T x v→VD imm T y u→(Op.equalIn D t v u).run P w=.ok (eqD T x y) w
  | 0,_,_,_,_,h,_,_,_,_,_,_=>by simp [eqU] at h
  | d+1,0,hd,_,_,_,_,_,_,_,_,_=>by omega
  | d+1,D+1,hd,t,T,h,x,y,v,u,hv,hu=>by
    simp only [eqU] at h
    split at h
    · rename_i ht
      cases T<;>simp only [Bool.false_eq_true] at h
      have e1:=VD.leaf (u:=.bool x) rfl hv (fun cs hc=>hc)
      have e2:=VD.leaf (u:=.bool y) rfl hu (fun cs hc=>hc)
      subst e1; subst e2
      exact run_equalIn_bool' w D t x y ht
    · rename_i k ht
      cases T<;>simp only [Bool.false_eq_true] at h
      rename_i k'
      have e1:=VD.leaf (u:=.int k' x) rfl hv (fun cs hc=>hc)
      have e2:=VD.leaf (u:=.int k' y) rfl hu (fun cs hc=>hc)
      subst e1; subst e2
      exact run_equalIn_int w D t _ _ x y ht
    · rename_i ht
      cases T<;>simp only [Bool.false_eq_true] at h
      have e1:=VD.leaf (u:=.string x) rfl hv (fun cs hc=>hc)
      have e2:=VD.leaf (u:=.string y) rfl hu (fun cs hc=>hc)
      subst e1; subst e2
      exact run_equalIn_string w D t x y ht
    · rename_i fs ht
      simp only [Bool.and_eq_true,Bool.not_eq_true'] at h
      obtain ⟨⟨hs,hT⟩,hf⟩:=h
      obtain ⟨cs,hc,hcv | hcv⟩:=hv
      · obtain ⟨ds,hd',hdv | hdv⟩:=hu
        · rw [hcv.2,hdv.2]
          have hfo:P.fieldsOf t=fs:=by unfold Program.fieldsOf; rw [ht]
          rw [run_equalIn_struct w D t _ _ (by rw [hfo]; exact ht) hs,hfo]
          have g1:=RD.len hc
          have g2:=RD.len hd'
          exact eqFs_run (fun t T hq x y v u hv hu=>eqU_run d D (by omega) t T hq x y v u hv hu) fs.toList T 0 hf x y cs ds (by omega) (by omega) (by rw [List.drop_zero,List.take_of_length_le (by omega)]; exact hc) (by rw [List.drop_zero,List.take_of_length_le (by omega)]; exact hd')
        · rw [hT] at hdv; cases hdv.1
      · rw [hT] at hcv; cases hcv.1
    · rename_i m e ht
      cases T with
      | arr m' e'=>
        simp only [Bool.and_eq_true,beq_iff_eq] at h
        obtain ⟨⟨rfl,hf⟩,hq⟩:=h
        obtain ⟨cs,hc,hcv | hcv⟩:=hv
        · obtain ⟨ds,hd',hdv | hdv⟩:=hu
          · rw [hcv.2,hdv.2]
            obtain ⟨ti,hti,hsz,_⟩:=fitD_spec hf
            refine run_equalIn_array ht hti (fun i=>eqD e' (List.getD x i e'.dflt) (List.getD y i e'.dflt)) fun i hi=>?_
            have hm:=mul_room (s:=e'.sz) hi
            have elem:∀ (z:List e'.El) (zs:List Value),RD imm (.arr m e') z zs→∃ v,(part e zs.toArray (i*ti.size)).run P w=.ok v w∧VD imm e' (List.getD z i e'.dflt) v:=fun z zs hz=>by
              obtain ⟨z1,z2,z3⟩:=hz
              rw [hsz]
              exact run_partD hf (i*e'.sz) (by omega) (z3 i _ (getD_some (by omega))) w
            obtain ⟨v',k1,k2⟩:=elem x cs hc
            obtain ⟨u',k3,k4⟩:=elem y ds hd'
            exact ⟨v',u',k1,k3,eqU_run d D (by omega) e e' hq _ _ v' u' k2 k4⟩
          · cases hdv.1
        · cases hcv.1
      | _=>cases h
    · cases h
def tyOf:AVal→Option DTy
  | .d T _=>some T
  | .nil=>some .nil
  | .cons a b=>match tyOf a,tyOf b with
    | some h,some t=>some (.cons h t)
    | _,_=>none
  | _=>none
def eqA (P:Program) (t:TypeId) (x y:AVal):Option Bool:=
  bif x.agg&&y.agg then match tyOf x with
    | some T=>match asData x T,asData y T with
      | some a,some b=>bif eqU P 100 t T&&!P.eqGuardType P.depth t then some (eqD T a b) else none
      | _,_=>none
    | none=>none
  else none
theorem asData_agg {a:AVal} {T:DTy} {x:T.El} (h:asData a T=some x):T.agg=a.agg:=by
  cases a with
  | d T' y=>
    simp only [asData] at h
    split at h
    · rename_i hT; subst hT; rfl
    · cases h
  | nil=>
    cases T with
    | nil=>rfl
    | arr n e=>rfl
    | _=>simp [asData] at h
  | cons a b=>cases T<;>first | rfl | simp [asData] at h
  | own t T' xs=>cases T<;>first | rfl | simp [asData] at h
  | snil=>cases T<;>first | rfl | simp [asData] at h
  | mref _=>cases T<;>first | rfl | simp [asData] at h
  | mnil=>cases T<;>first | rfl | simp [asData] at h
  | inil=>cases T<;>first | rfl | simp [asData] at h
  | iface _ _=>cases T<;>first | rfl | simp [asData] at h
  | _=>simp [asData] at h
theorem eqA_run {P:Program} {t:TypeId} {x y:AVal} {b:Bool} (h:eqA P t x y=some b) {G:Gh} {dead:List Nat} {v u:Value} (hv:Rv G dead x v) (hu:Rv G dead y u) (op:BinOp) (xo yo:Operand) (w:World) :
    (eqGuard op t xo yo v u).run P w=.ok () w∧(binOp .eql t v u).run P w=.ok (.bool b) w∧(binOp .neq t v u).run P w=.ok (.bool (!b)) w:=by
  unfold eqA at h
  cases hb:x.agg&&y.agg with
  | false=>rw [hb] at h; cases h
  | true=>
    rw [hb] at h
    simp only [cond_true] at h
    simp only [Bool.and_eq_true] at hb
    split at h
    · rename_i T hT
      split at h
      · rename_i a c ha hc
        cases hq:eqU P 100 t T&&!P.eqGuardType P.depth t with
        | false=>rw [hq] at h; cases h
        | true=>
          rw [hq] at h
          simp only [cond_true,Option.some.injEq] at h
          subst h
          simp only [Bool.and_eq_true,Bool.not_eq_true'] at hq
          have conv:∀ {z:AVal} {e:T.El} {s:Value},asData z T=some e→z.agg=true→Rv G dead z s→VD G.imm T e s∧∃ cs:List Value,s=.agg cs.toArray:=fun {z e s} hz hag hs=>by
            obtain ⟨cs,hcs,hh | hh⟩:=hs
            · have hTa:T.agg=true:=by rw [asData_agg hz]; exact hag
              exact ⟨⟨cs,asData_spec hz cs hcs,.inl ⟨hTa,hh.2⟩⟩,cs,hh.2⟩
            · rw [hag] at hh; cases hh.1
          obtain ⟨v1,c1,rfl⟩:=conv ha hb.1 hv
          obtain ⟨v2,c2,rfl⟩:=conv hc hb.2 hu
          have hr:=eqU_run (w:=w) 100 10000 (by omega) t T hq.1 a c _ _ v1 v2
          exact ⟨run_eqGuard_agg w op t xo yo _ _ hq.2,by rw [run_eql_struct,hr]; rfl,by rw [run_neq_struct,hr]; rfl⟩
      · cases h
    · cases h
theorem eqA_sound {P:Program} {o:Oper} {ρ:Operand→AVal} {op:BinOp} {t t':TypeId} {x y:Operand} {b:Bool} (ho:o.op=.binOp op t x y t') (hop:op=.eql∨op=.neq) (h:eqA P t (ρ x) (ρ y)=some b) (B:Bx) :
    OpD P o ρ B (.d .bool (if op=.eql then b else !b)) B:=by
  refine OpD.value (fun G dead a ha=>?_) B
  have hx:=ha x (by rw [ho]; simp [Op.operands])
  have hy:=ha y (by rw [ho]; simp [Op.operands])
  refine ⟨.bool (if op=.eql then b else !b),fun w=>?_,leaf_v rfl rfl⟩
  obtain ⟨g1,g2,g3⟩:=eqA_run h hx hy op x y w
  rcases hop with rfl | rfl
  · simp only [execOp,ho,Sem.run_bind,g1,Result.andThen_ok,g2]; rfl
  · simp only [execOp,ho,Sem.run_bind,g1,Result.andThen_ok,g3]; rfl
end Go.Proofs.YtkeipcalbbmncaaGreat.Abs
set_option linter.unusedVariables false
set_option linter.unusedSimpArgs false
namespace Go.Proofs.YtkeipcalbbmncaaGreat.Abs
def posD {α:Type} (K:DTy) (k:K.El):List (K.El×α)→Option Nat
  | []=>none
  | x::xs=>bif eqD K k x.1 then some 0 else match posD K k xs with
    | some i=>some (i+1)
    | none=>none
def findD {α:Type} (K:DTy) (k:K.El):List (K.El×α)→Option α
  | []=>none
  | x::xs=>bif eqD K k x.1 then some x.2 else findD K k xs
def putD {α:Type} (K:DTy) (k:K.El) (v:α):List (K.El×α)→List (K.El×α)
  | []=>[(k,v)]
  | x::xs=>bif eqD K k x.1 then (k,v)::xs else x::putD K k v xs
theorem putD_len {α:Type} {K:DTy} {k:K.El} {v:α}:{xs:List (K.El×α)}→posD K k xs=none→putD K k v xs=xs++[(k,v)]
  | [],_=>rfl
  | x::xs,h=>by
    simp only [posD] at h
    cases hb:eqD K k x.1 with
    | true=>simp [hb] at h
    | false=>
      simp only [hb,cond_false] at h
      split at h
      · cases h
      · rename_i h1
        simp [putD,hb,putD_len h1]
theorem putD_set {α:Type} {K:DTy} {k:K.El} {v:α}:{xs:List (K.El×α)}→{i:Nat}→posD K k xs=some i→putD K k v xs=xs.set i (k,v)
  | x::xs,i,h=>by
    simp only [posD] at h
    cases hb:eqD K k x.1 with
    | true=>
      simp only [hb,cond_true,Option.some.injEq] at h
      subst h
      simp [putD,hb]
    | false=>
      simp only [hb,cond_false] at h
      split at h
      · rename_i j hj
        simp only [Option.some.injEq] at h
        subst h
        simp [putD,hb,putD_set hj]
      · cases h
  | [],i,h=>by simp [posD] at h
theorem findD_pos {α:Type} {K:DTy} {k:K.El}:{xs:List (K.El×α)}→findD K k xs=(match posD K k xs with | some i=>(xs[i]?).map (·.2) | none=>none)
  | []=>rfl
  | x::xs=>by
    simp only [findD,posD]
    cases hb:eqD K k x.1 with
    | true=>simp
    | false=>
      simp only [cond_false]
      rw [findD_pos (xs:=xs)]
      cases posD K k xs<;>simp
theorem posD_at {α:Type} {K:DTy} {k:K.El}:{xs:List (K.El×α)}→{i:Nat}→posD K k xs=some i→∃ x,xs[i]?=some x∧eqD K k x.1=true
  | x::xs,i,h=>by
    simp only [posD] at h
    cases hb:eqD K k x.1 with
    | true=>
      simp only [hb,cond_true,Option.some.injEq] at h
      subst h
      exact ⟨x,rfl,hb⟩
    | false=>
      simp only [hb,cond_false] at h
      split at h
      · rename_i j hj
        simp only [Option.some.injEq] at h
        subst h
        obtain ⟨y,h1,h2⟩:=posD_at hj
        exact ⟨y,by simpa using h1,h2⟩
      · cases h
  | [],i,h=>by simp [posD] at h
def RE (imm:Nat→Option (List Value)) (K V:DTy):List (K.El×V.El)→List MapEntry→Prop
  | [],es=>es=[]
  | x::xs,es=>∃ e l,es=e::l∧VD imm K x.1 e.key∧VD imm V x.2 e.val∧RE imm K V xs l
theorem RM_RE {imm:Nat→Option (List Value)} {K V:DTy}:{xs:List (K.El×V.El)}→{es:List MapEntry}→RM imm K V xs (es.flatMap fun e=>[e.key,e.val])→RE imm K V xs es
  | [],es,h=>by
    have h:(es.flatMap fun e=>[e.key,e.val])=[]:=h
    cases es with
    | nil=>rfl
    | cons e es=>simp at h
  | x::xs,es,h=>by
    obtain ⟨k,v,l,e,h1,h2,h3⟩:=h
    cases es with
    | nil=>simp at e
    | cons a es=>
      simp only [List.flatMap_cons,List.cons_append,List.nil_append,List.cons.injEq] at e
      obtain ⟨rfl,rfl,rfl⟩:=e
      exact ⟨a,es,rfl,h1,h2,RM_RE h3⟩
theorem RE_RM {imm:Nat→Option (List Value)} {K V:DTy}:{xs:List (K.El×V.El)}→{es:List MapEntry}→RE imm K V xs es→RM imm K V xs (es.flatMap fun e=>[e.key,e.val])
  | [],es,h=>by
    have h:es=[]:=h
    subst h; rfl
  | x::xs,es,h=>by
    obtain ⟨e,l,rfl,h1,h2,h3⟩:=h
    exact ⟨e.key,e.val,_,by simp,h1,h2,RE_RM h3⟩
theorem RE_get {imm:Nat→Option (List Value)} {K V:DTy}:{xs:List (K.El×V.El)}→{es:List MapEntry}→RE imm K V xs es→{i:Nat}→{x:K.El×V.El}→xs[i]?=some x→∃ e,es[i]?=some e∧VD imm K x.1 e.key∧VD imm V x.2 e.val
  | y::ys,es,h,i,x,hx=>by
    obtain ⟨e,l,rfl,h1,h2,h3⟩:=h
    cases i with
    | zero=>
      simp only [List.getElem?_cons_zero,Option.some.injEq] at hx
      subst hx
      exact ⟨e,rfl,h1,h2⟩
    | succ i=>
      obtain ⟨e',g1,g2⟩:=RE_get h3 (by simpa using hx)
      exact ⟨e',by simpa using g1,g2⟩
  | [],es,h,i,x,hx=>by simp at hx
theorem RE_append {imm:Nat→Option (List Value)} {K V:DTy} {k:K.El} {v:V.El} {e:MapEntry} (h1:VD imm K k e.key) (h2:VD imm V v e.val):{xs:List (K.El×V.El)}→{es:List MapEntry}→RE imm K V xs es→RE imm K V (xs++[(k,v)]) (es++[e])
  | [],es,h=>by
    have h:es=[]:=h
    subst h
    exact ⟨e,[],rfl,h1,h2,rfl⟩
  | x::xs,es,h=>by
    obtain ⟨a,l,rfl,g1,g2,g3⟩:=h
    exact ⟨a,l++[e],rfl,g1,g2,RE_append h1 h2 g3⟩
theorem RE_empty {imm:Nat→Option (List Value)} {K V:DTy} {xs:List (K.El×V.El)} {es:List MapEntry} (h:RE imm K V xs es):es.length=xs.length:=by
  induction xs generalizing es with
  | nil=>have h:es=[]:=h; subst h; rfl
  | cons x xs ih=>
    obtain ⟨e,l,rfl,_,_,h3⟩:=h
    simp [ih h3]
theorem VD.scal {imm:Nat→Option (List Value)} {K:DTy} {x:K.El} {v:Value} (h:VD imm K x v) (hk:K.agg=false):RD imm K x [v]:=by
  obtain ⟨cs,h1,h2 | h2⟩:=h
  · rw [hk] at h2; cases h2.1
  · rw [← h2.2]; exact h1
def scalT (P:Program) (t:TypeId):Bool:=match P.underlying t with
  | some .bool | some (.int _) | some .string=>true
  | _=>false
theorem same_now {P:Program} {imm:Nat→Option (List Value)} {d:Nat} {t:TypeId} {K:DTy} (hq:eqT P d t K=true) {x y:K.El} {v u:Value} (hv:VD imm K x v) (hu:VD imm K y u) {kind:TypeDesc} (hkd:P.underlying t=some kind) (hs:scalT P t=true) :
    Instr.sameNow kind v u=some (eqD K x y):=by
  cases d with
  | zero=>simp [eqT] at hq
  | succ d=>
    simp only [eqT,hkd] at hq
    simp only [scalT,hkd] at hs
    cases kind<;>simp only [Bool.false_eq_true] at hs
    · cases K<;>simp only [Bool.false_eq_true] at hq
      have e1:=hv.scal rfl
      have e2:=hu.scal rfl
      have e1:[v]=[Value.bool x]:=e1
      have e2:[u]=[Value.bool y]:=e2
      simp only [List.cons.injEq,and_true] at e1 e2
      subst e1; subst e2
      rfl
    · cases K<;>simp only [Bool.false_eq_true] at hq
      rename_i k1 k2
      have e1:=hv.scal rfl
      have e2:=hu.scal rfl
      have e1:[v]=[Value.int k2 x]:=e1
      have e2:[u]=[Value.int k2 y]:=e2
      simp only [List.cons.injEq,and_true] at e1 e2
      subst e1; subst e2
      simp [Instr.sameNow,eqD]
    · cases K<;>simp only [Bool.false_eq_true] at hq
      have e1:=hv.scal rfl
      have e2:=hu.scal rfl
      have e1:[v]=[Value.string x]:=e1
      have e2:[u]=[Value.string y]:=e2
      simp only [List.cons.injEq,and_true] at e1 e2
      subst e1; subst e2
      simp only [Instr.sameNow,eqD,beq_toListBytes]
theorem find_now {P:Program} {imm:Nat→Option (List Value)} {d:Nat} {t:TypeId} {K V:DTy} (hq:eqT P d t K=true) {x:K.El} {v:Value} (hv:VD imm K x v) {kind:TypeDesc} (hkd:P.underlying t=some kind) (hs:scalT P t=true):{xs:List (K.El×V.El)}→{es:List MapEntry}→RE imm K V xs es→(i:Nat)→
    Instr.findNow kind v es i=some (match posD K x xs with | some j=>(es[j]?).map (fun e=>(i+j,e.val)) | none=>none)
  | [],es,h,i=>by
    have h:es=[]:=h
    subst h; rfl
  | y::ys,es,h,i=>by
    obtain ⟨e,l,rfl,h1,h2,h3⟩:=h
    simp only [Instr.findNow,same_now hq hv h1 hkd hs,posD]
    cases hb:eqD K x y.1 with
    | true=>simp
    | false=>
      simp only [cond_false]
      rw [find_now hq hv hkd hs h3 (i+1)]
      cases posD K x ys with
      | none=>rfl
      | some j=>simp [Nat.add_assoc,Nat.add_comm 1 j]
theorem find_asking {P:Program} {imm:Nat→Option (List Value)} {w:World} {d:Nat} (hd:d≤10000) {t:TypeId} {K V:DTy} (hq:eqT P d t K=true) {x:K.El} {v:Value} (hv:VD imm K x v):{xs:List (K.El×V.El)}→{es:List MapEntry}→RE imm K V xs es→(i:Nat)→
    (Instr.findAsking t v es i).run P w=.ok (match posD K x xs with | some j=>(es[j]?).map (fun e=>(i+j,e.val)) | none=>none) w
  | [],es,h,i=>by
    have h:es=[]:=h
    subst h; rfl
  | y::ys,es,h,i=>by
    obtain ⟨e,l,rfl,h1,h2,h3⟩:=h
    have he:(Op.equal t v e.key).run P w=.ok (eqD K x y.1) w:=eqT_run d 10000 hd t K hq x y.1 v e.key hv h1
    simp only [Instr.findAsking,Sem.run_bind,he,Result.andThen_ok,posD]
    cases hb:eqD K x y.1 with
    | true=>simp
    | false=>
      simp only [Bool.false_eq_true,if_false,cond_false]
      rw [find_asking hd hq hv h3 (i+1)]
      cases posD K x ys with
      | none=>rfl
      | some j=>simp [Nat.add_assoc,Nat.add_comm 1 j]
theorem find_key {P:Program} {imm:Nat→Option (List Value)} {w:World} {d:Nat} (hd:d≤10000) {t:TypeId} {K V:DTy} (hq:eqT P d t K=true) {x:K.El} {v:Value} (hv:VD imm K x v) {xs:List (K.El×V.El)} {es:List MapEntry} (h:RE imm K V xs es) :
    (Instr.findKey t v es).run P w=.ok (match posD K x xs with | some j=>(es[j]?).map (fun e=>(j,e.val)) | none=>none) w:=by
  have hu:∃ kind,P.underlying t=some kind:=by
    cases d with
    | zero=>simp [eqT] at hq
    | succ d=>
      simp only [eqT] at hq
      cases hk:P.underlying t with
      | none=>simp [hk] at hq
      | some kind=>exact ⟨kind,rfl⟩
  obtain ⟨kind,hk⟩:=hu
  unfold Instr.findKey
  rw [Sem.run_bind,run_underlying' hk,Result.andThen_ok]
  cases hs:scalT P t with
  | true=>
    rw [find_now hq hv hk hs h 0]
    simp
  | false=>
    have ha:=find_asking (w:=w) hd hq hv h 0
    simp only [Nat.zero_add] at ha
    cases hf:Instr.findNow kind v es 0 with
    | none=>exact ha
    | some r=>
      cases d with
      | zero=>simp [eqT] at hq
      | succ d=>
        simp only [eqT,hk] at hq
        simp only [scalT,hk] at hs
        cases kind<;>simp only [Bool.false_eq_true,Bool.true_eq_false] at hq hs
        cases es with
        | nil=>
          have:xs=[]:=by
            have:=RE_empty h
            simpa using this.symm
          subst this
          simp [Instr.findNow] at hf
          subst hf
          rfl
        | cons e es=>simp [Instr.findNow,Instr.sameNow] at hf
theorem check_key {P:Program} {imm:Nat→Option (List Value)} {w:World} (em:Bool):(d D:Nat)→d≤D→(t:TypeId)→(K:DTy)→eqT P d t K=true→(x:K.El)→(v:Value)→VD imm K x v→(Instr.checkKey em D t v).run P w=.ok () w
  | 0,_,_,_,_,h,_,_,_=>by simp [eqT] at h
  | d+1,0,hd,_,_,_,_,_,_=>by omega
  | d+1,D+1,hd,t,K,h,x,v,hv=>by
    simp only [eqT] at h
    split at h
    · rename_i ht
      unfold Instr.checkKey
      rw [Sem.run_bind,run_underlying' ht]
      rfl
    · rename_i k ht
      unfold Instr.checkKey
      rw [Sem.run_bind,run_underlying' ht]
      rfl
    · rename_i ht
      unfold Instr.checkKey
      rw [Sem.run_bind,run_underlying' ht]
      rfl
    · rename_i fs ht
      simp only [Bool.and_eq_true,Bool.not_eq_true'] at h
      obtain ⟨⟨hs,hT⟩,hf⟩:=h
      obtain ⟨cs,hc,hcv | hcv⟩:=hv
      · rw [hcv.2]
        unfold Instr.checkKey
        rw [Sem.run_bind,run_underlying' ht,Result.andThen_ok]
        simp only
        rw [← Array.forIn_toList]
        have g1:=RD.len hc
        have main:∀ (l:List Field) (T:DTy) (o:Nat),eqFs P (eqT P d) l T o=true→∀ (z:T.El),o+T.sz≤cs.length→RD imm T z ((cs.drop o).take T.sz)→
            (forIn l PUnit.unit fun f _ => (if f.name ≠ "_" then (do let u ← part f.type cs.toArray f.offset; Instr.checkKey em D f.type u; pure (ForInStep.yield PUnit.unit)) else pure (ForInStep.yield PUnit.unit) : Sem (ForInStep PUnit))).run P w = .ok PUnit.unit w := by
          intro l
          induction l with
          | nil=>intro T o _ z _ _; rfl
          | cons f fs ih=>
            intro T o hq z hl hr
            cases T with
            | cons hh tt=>
              simp only [eqFs,Bool.and_eq_true,beq_iff_eq,decide_eq_true_eq] at hq
              obtain ⟨⟨⟨⟨hn,rfl⟩,hfd⟩,hrec⟩,hrest⟩:=hq
              obtain ⟨c1,c2,e,k1,k2⟩:=hr
              have q1:=RD.len k1
              have q2:=RD.len k2
              have hs:(DTy.cons hh tt).sz=hh.sz+tt.sz:=rfl
              rw [hs] at e hl
              have e1:(cs.drop f.offset).take hh.sz=c1:=by
                have:=congrArg (List.take hh.sz) e
                rw [List.take_take,Nat.min_eq_left (by omega),← q1,List.take_left'] at this
                · rw [← q1]; exact this
                · rfl
              have e2:(cs.drop (f.offset+hh.sz)).take tt.sz=c2:=by
                have:=congrArg (List.drop hh.sz) e
                rw [List.drop_take,List.drop_drop,Nat.add_sub_cancel_left,← q1,List.drop_left'] at this
                · rw [← q1]; exact this
                · rfl
              obtain ⟨u,hu,ud⟩:=run_partD (imm:=imm) hfd (o:=f.offset) (cs:=cs) (by omega) (x:=z.1) (by rw [e1]; exact k1) w
              have hck:=check_key em d D (by omega) f.type hh hrec z.1 u ud (w:=w)
              simp only [List.forIn_cons,Sem.run_bind,if_pos hn,hu,hck,Result.andThen_ok,Sem.run_pure]
              exact ih tt (f.offset+hh.sz) hrest z.2 (by omega) (by rw [e2]; exact k2)
            | _=>simp [eqFs] at hq
        have:=main fs.toList K 0 hf x (by omega) (by rw [List.drop_zero,List.take_of_length_le (by omega)]; exact hc)
        rw [Sem.run_bind,this]; rfl
      · rw [hT] at hcv; cases hcv.1
    · cases h
def aggV:Value→Bool
  | .agg _=>true
  | _=>false
def zeroD (P:Program) (t:TypeId) (V:DTy):Option V.El:=
  match zeroT P 8 t,P.info? t with
  | some c,some i=>match zcells c,i.zero with
    | some cs,some z=>bif eqZs cs z.cells.toList&&aggV z==V.agg then asData c V else none
    | _,_=>none
  | _,_=>none
theorem zeroD_run {P:Program} {t:TypeId} {V:DTy} {x:V.El} (h:zeroD P t V=some x) (imm:Nat→Option (List Value)) (w:World):∃ z,(zeroValue t).run P w=.ok z w∧VD imm V x z:=by
  unfold zeroD at h
  split at h
  · rename_i c i hc hi
    split at h
    · rename_i cs z hcs hz
      cases hb:eqZs cs z.cells.toList&&aggV z==V.agg with
      | false=>rw [hb] at h; cases h
      | true=>
        rw [hb] at h
        simp only [cond_true] at h
        simp only [Bool.and_eq_true,beq_iff_eq] at hb
        have e:=eqZs_eq hb.1
        have hrd:RD imm V x cs:=asData_spec (G:=⟨imm,fun _=>none,[]⟩) (dead:=[]) h cs (zcells_rc hcs)
        refine ⟨z,?_,cs,hrd,?_⟩
        · unfold zeroValue
          rw [Sem.run_bind,run_typeInfo' hi,Result.andThen_ok]
          simp only [hz]
          rfl
        · cases hV:V.agg with
          | true=>
            rw [hV] at hb
            left
            cases z<;>simp [aggV] at hb
            rw [e]
            exact ⟨rfl,rfl⟩
          | false=>
            rw [hV] at hb
            right
            cases z<;>simp [aggV] at hb<;>exact ⟨rfl,e⟩
    · cases h
  · cases h
def mapAt (B:Bx):AVal→Option (Nat×AVal)
  | .mref b=>match B.box[b]? with
    | some (.mobj K V xs)=>some (b,.mobj K V xs)
    | _=>none
  | _=>none
def lookupK (P:Program) {X:Type} (t:TypeId) (m i:AVal) (ok:Bool) (B:Bx) (k:AVal→Bx→Option X):Option X:=
  match mapAt B m with
  | some (_,.mobj K V xs)=>match P.underlying t with
    | some (.map kt vt)=>match asData i K,zeroD P vt V with
      | some x,some z=>bif eqT P 100 kt K&&i.plain then
          bif ok then k (.tuple (chain [.d V ((findD K x xs).getD z),.d .bool (findD K x xs).isSome])) B else k (.d V ((findD K x xs).getD z)) B
        else none
      | _,_=>none
    | _=>none
  | _=>none
def updateA (P:Program) (t:TypeId) (m i v:AVal) (B:Bx):Option Bx:=
  match mapAt B m with
  | some (b,.mobj K V xs)=>match P.underlying t with
    | some (.map kt vt)=>match asData i K,asData v V with
      | some x,some y=>bif eqT P 100 kt K&&i.plain&&v.plain then some { B with box:=B.box.set b (.mobj K V (putD K x y xs)) } else none
      | _,_=>none
    | _=>none
  | _=>none
def makeMapA (P:Program) (t:TypeId) (B:Bx):Option (AVal×Bx):=
  match P.underlying t with
  | some (.map kt vt)=>match dtyT P 8 kt,dtyT P 8 vt with
    | some K,some V=>some (.mref B.box.length,B.push (.mobj K V []))
    | _,_=>none
  | _=>none
theorem makeMapA_sound {P:Program} {o:Oper} {ρ:Operand→AVal} {v:AVal} {t:TypeId} {B B':Bx} (ho:o.op=.makeMap t none) (h:makeMapA P t B=some (v,B')):OpD P o ρ B v B':=by
  intro G a w ha hw next Q hn
  unfold makeMapA at h
  split at h
  · split at h
    · rename_i K V _ _
      simp only [Option.some.injEq,Prod.mk.injEq] at h
      obtain ⟨rfl,rfl⟩:=h
      obtain ⟨G',h0,h1,h2,h3⟩:=new_obj (o:=.map #[] 0) (c:=.mobj K V []) (cs:=[]) hw rfl ⟨#[],0,rfl,rfl⟩ rfl
      refine wp_of_run (v:=.map (some w.heap.size)) (w':=w.alloc (.map #[] 0)) ?_ (hn _ G' _ (leaf_v rfl ⟨w.heap.size,h0,rfl⟩) h1 h2 h3)
      simp only [execOp,ho]
      rfl
    · cases h
  · cases h
theorem mapAt_spec {B:Bx} {m c:AVal} {b:Nat} (h:mapAt B m=some (b,c)):m=.mref b∧B.box[b]?=some c∧c.isM=true:=by
  unfold mapAt at h
  split at h
  · split at h
    · rename_i hb
      simp only [Option.some.injEq,Prod.mk.injEq] at h
      obtain ⟨rfl,rfl⟩:=h
      exact ⟨rfl,hb,rfl⟩
    · cases h
  · cases h
theorem map_obj {G:Gh} {B:Bx} {w:World} {m:AVal} {K V:DTy} {xs:List (K.El×V.El)} {b:Nat} {cv:Value} (hw:WOk G B w) (h:mapAt B m=some (b,.mobj K V xs)) (hv:Rv G B.dead m cv) :
    ∃ blk es clock,cv=.map (some blk)∧G.addr[b]?=some blk∧B.box[b]?=some (.mobj K V xs)∧w.heap[blk]?=some (.map es clock)∧RE G.imm K V xs es.toList:=by
  obtain ⟨rfl,hb,_⟩:=mapAt_spec h
  obtain ⟨cs,⟨blk,ha,rfl⟩,hh | hh⟩:=hv
  · cases hh.1
  · obtain ⟨o,cs,h1,⟨es,clock,rfl,rfl⟩,h3⟩:=hw.boxes b blk _ ha hb
    exact ⟨blk,es,clock,by simpa using hh.2.symm,ha,hb,h1,RM_RE h3⟩
theorem data_v {G:Gh} {dead:List Nat} {a:AVal} {T:DTy} {x:T.El} {v:Value} (h:asData a T=some x) (hv:Rv G dead a v):VD G.imm T x v:=by
  obtain ⟨cs,hc,hh⟩:=hv
  exact ⟨cs,asData_spec h cs hc,by rw [asData_agg h]; exact hh⟩
theorem VD.rv {G:Gh} {dead:List Nat} {T:DTy} {x:T.El} {v:Value} (h:VD G.imm T x v):Rv G dead (.d T x) v:=h
theorem lookupK_spec {P:Program} {X:Type} {o:Oper} {ρ:Operand→AVal} {t:TypeId} {m i:Operand} {ok:Bool} {B:Bx} {k:AVal→Bx→Option X} {r:X} (ho:o.op=.lookup t m i ok) (h:lookupK P t (ρ m) (ρ i) ok B k=some r):∃ v,k v B=some r∧OpD P o ρ B v B:=by
  unfold lookupK at h
  split at h
  · rename_i b K V xs hm
    split at h
    · rename_i kt vt ht
      split at h
      · rename_i x z hx hz
        cases hb:eqT P 100 kt K&&(ρ i).plain with
        | false=>rw [hb] at h; cases h
        | true=>
          rw [hb] at h
          simp only [cond_true] at h
          simp only [Bool.and_eq_true] at hb
          have run:∀ (G:Gh) (a:Act) (w:World),(∀ q∈o.op.operands,Rv G B.dead (ρ q) (a.eval q))→WOk G B w→∃ u,VD G.imm V ((findD K x xs).getD z) u∧
              (Instr.lookup t (a.eval m) (a.eval i) ok).run P w=.ok (if ok then .tuple #[u,.bool (findD K x xs).isSome] else u) w:=fun G a w ha hw=>by
            have hmv:=ha m (by rw [ho]; simp [Op.operands])
            have hiv:=ha i (by rw [ho]; simp [Op.operands])
            obtain ⟨blk,es,clock,e1,_,_,e2,hre⟩:=map_obj hw hm hmv
            have hxd:=data_v hx hiv
            have hck:=check_key (w:=w) es.isEmpty 100 10000 (by omega) kt K hb.1 x _ hxd
            have hfk:=find_key (w:=w) (by omega) hb.1 hxd hre
            obtain ⟨zv,hzr,hzd⟩:=zeroD_run hz G.imm w
            have hgo:(getObj blk).run P w=.ok (.map es clock) w:=by simp [getObj,Sem.run,e2]
            unfold Instr.lookup
            rw [Sem.run_bind,run_underlying' ht,Result.andThen_ok,e1]
            simp only [Sem.run_bind,hgo,Result.andThen_ok,Sem.run_pure,hck,hfk]
            rw [findD_pos]
            cases hp:posD K x xs with
            | none=>
              refine ⟨zv,hzd,?_⟩
              simp only [Sem.run_bind,hzr,Result.andThen_ok,Sem.run_pure,Option.isSome_none]
            | some j=>
              obtain ⟨y,hy,_⟩:=posD_at hp
              obtain ⟨e,he,hk,hv⟩:=RE_get hre hy
              refine ⟨e.val,by simpa [hy] using hv,?_⟩
              simp only [he,hy,Option.map_some,Sem.run_bind,Sem.run_pure,Result.andThen_ok,Option.isSome_some]
          cases ok with
          | true=>
            simp only [cond_true] at h
            refine ⟨_,h,fun G a w ha hw next Q hn=>?_⟩
            obtain ⟨u,hu,hr⟩:=run G a w ha hw
            refine wp_of_run (v:=.tuple #[u,.bool (findD K x xs).isSome]) (w':=w) ?_ (hn _ G w ?_ hw (GLe.refl _ _) (Ext.refl _ _))
            · simp only [execOp,ho,Sem.run_bind,hr,if_true,Result.andThen_ok]; rfl
            · exact leaf_v rfl ⟨[u,.bool (findD K x xs).isSome],rfl,u,_,rfl,hu,_,[],rfl,leaf_v rfl rfl,rfl⟩
          | false=>
            simp only [cond_false] at h
            refine ⟨_,h,fun G a w ha hw next Q hn=>?_⟩
            obtain ⟨u,hu,hr⟩:=run G a w ha hw
            refine wp_of_run (v:=u) (w':=w) ?_ (hn _ G w hu hw (GLe.refl _ _) (Ext.refl _ _))
            simp only [execOp,ho,Sem.run_bind,hr,Result.andThen_ok]; rfl
      · cases h
    · cases h
  · cases h
theorem lookupK_at {P:Program} {X:Type} {t:TypeId} {m i:AVal} {ok:Bool} {B:Bx} {k:AVal→Bx→Option X} {r:X} (h:lookupK P t m i ok B k=some r) :
    ∃ v,k v B=some r∧∀ B0,mapAt B0 m=mapAt B m→lookupK P t m i ok B0 (fun v _=>some v)=some v:=by
  unfold lookupK at h ⊢
  split at h
  · rename_i b K V xs hm
    split at h
    · rename_i kt vt hu
      split at h
      · rename_i x z hx hz
        cases hb:eqT P 100 kt K&&i.plain with
        | false=>rw [hb] at h; cases h
        | true=>
          rw [hb] at h
          simp only [cond_true] at h
          cases ok with
          | true=>
            refine ⟨_,h,fun B0 h0=>?_⟩
            rw [h0,hm]
            simp only [hu,hx,hz,hb,cond_true]
          | false=>
            refine ⟨_,h,fun B0 h0=>?_⟩
            rw [h0,hm]
            simp only [hu,hx,hz,hb,cond_true,cond_false]
      · cases h
    · cases h
  · cases h
end Go.Proofs.YtkeipcalbbmncaaGreat.Abs
set_option linter.unusedVariables false
set_option linter.unusedSimpArgs false
namespace Go.Proofs.YtkeipcalbbmncaaGreat.Abs
def plainD:DTy→Bool
  | .int _ | .bool | .str | .nil=>true
  | .cons h t=>plainD h&&plainD t
  | _=>false
theorem eqT_plain {P:Program}:(d:Nat)→(t:TypeId)→(T:DTy)→eqT P d t T=true→plainD T=true
  | 0,_,_,h=>by simp [eqT] at h
  | d+1,t,T,h=>by
    simp only [eqT] at h
    split at h
    · cases T<;>simp only [Bool.false_eq_true] at h; rfl
    · cases T<;>simp only [Bool.false_eq_true] at h; rfl
    · cases T<;>simp only [Bool.false_eq_true] at h; rfl
    · rename_i fs ht
      simp only [Bool.and_eq_true] at h
      have main:∀ (l:List Field) (T:DTy) (o:Nat),eqFs P (eqT P d) l T o=true→plainD T=true:=by
        intro l
        induction l with
        | nil=>intro T o h; cases T<;>simp [eqFs] at h; rfl
        | cons f fs ih=>
          intro T o h
          cases T with
          | cons a b=>
            simp only [eqFs,Bool.and_eq_true] at h
            simp only [plainD,Bool.and_eq_true]
            exact ⟨eqT_plain d _ _ h.1.2,ih _ _ h.2⟩
          | _=>simp [eqFs] at h
      exact main _ _ _ h.2
    · cases h
theorem bytes_eq {a b:ByteArray} (h:(a.toList==b.toList)=true):a=b:=by
  have h:=eq_of_beq h
  rw [ByteArray.toList_eq,ByteArray.toList_eq] at h
  cases a; cases b
  congr 1
  exact Array.toList_inj.1 h
theorem eqD_eq {imm:Nat→Option (List Value)}:{T:DTy}→plainD T=true→{x y:T.El}→eqD T x y=true→{cs ds:List Value}→RD imm T x cs→RD imm T y ds→cs=ds∧∀ c∈cs,Instr.sameBits 9999 c c=true
  | .int k,_,x,y,h,cs,ds,hc,hd=>by
    have hc:cs=[.int k x]:=hc
    have hd:ds=[.int k y]:=hd
    have:x=y:=eq_of_beq (α:=Int) h
    subst hc; subst hd; subst this
    simp [Instr.sameBits]
  | .bool,_,x,y,h,cs,ds,hc,hd=>by
    have hc:cs=[.bool x]:=hc
    have hd:ds=[.bool y]:=hd
    have:x=y:=eq_of_beq (α:=Bool) h
    subst hc; subst hd; subst this
    simp [Instr.sameBits]
  | .str,_,x,y,h,cs,ds,hc,hd=>by
    have hc:cs=[.string x]:=hc
    have hd:ds=[.string y]:=hd
    have:x=y:=bytes_eq h
    subst hc; subst hd; subst this
    simp [Instr.sameBits]
    rw [beq_toListBytes]; simp
  | .nil,_,x,y,h,cs,ds,hc,hd=>by
    have hc:cs=[]:=hc
    have hd:ds=[]:=hd
    subst hc; subst hd; simp
  | .cons a b,hp,x,y,h,cs,ds,hc,hd=>by
    simp only [plainD,Bool.and_eq_true] at hp
    simp only [eqD,Bool.and_eq_true] at h
    obtain ⟨c1,c2,rfl,k1,k2⟩:=hc
    obtain ⟨d1,d2,rfl,l1,l2⟩:=hd
    obtain ⟨rfl,s1⟩:=eqD_eq hp.1 h.1 k1 l1
    obtain ⟨rfl,s2⟩:=eqD_eq hp.2 h.2 k2 l2
    refine ⟨rfl,fun c hc=>?_⟩
    rcases List.mem_append.1 hc with hc | hc
    · exact s1 c hc
    · exact s2 c hc
  | .list _,hp,_,_,_,_,_,_,_ | .arr _ _,hp,_,_,_,_,_,_,_ | .mapr,hp,_,_,_,_,_,_,_ | .opq,hp,_,_,_,_,_,_,_=>by simp [plainD] at hp
theorem zip_self {l:List Value} (h:∀ c∈l,Instr.sameBits 9999 c c=true):((l.zip l).all fun (x,y)=>Instr.sameBits 9999 x y)=true:=by
  induction l with
  | nil=>rfl
  | cons a l ih=>
    simp only [List.zip_cons_cons,List.all_cons,Bool.and_eq_true]
    exact ⟨h a (by simp),ih fun c hc=>h c (by simp [hc])⟩
theorem same_bits {P:Program} {imm:Nat→Option (List Value)} {d:Nat} {t:TypeId} {K:DTy} (hq:eqT P d t K=true) {x y:K.El} (h:eqD K x y=true) {v u:Value} (hv:VD imm K x v) (hu:VD imm K y u):Instr.sameBits 10000 u v=true:=by
  obtain ⟨cs,h1,h2⟩:=hv
  obtain ⟨ds,g1,g2⟩:=hu
  have hpl:=eqT_plain _ _ _ hq
  obtain ⟨rfl,hs⟩:=eqD_eq hpl h h1 g1
  rcases h2 with ⟨a1,a2⟩ | ⟨a1,a2⟩<;>rcases g2 with ⟨b1,b2⟩ | ⟨b1,b2⟩
  · rw [a2,b2]
    show Instr.sameBits (9999+1) _ _=true
    simp only [Instr.sameBits,beq_self_eq_true,Bool.true_and]
    exact zip_self hs
  · rw [a1] at b1; cases b1
  · rw [a1] at b1; cases b1
  · rw [a2] at b2
    simp only [List.cons.injEq,and_true] at b2
    subst b2
    have:=hs v (by rw [a2]; simp)
    cases v<;>first | (simp [Instr.sameBits] at this ⊢; try exact this) | skip
    all_goals (rw [a2] at h1; cases K<;>first | exact absurd rfl (by simpa using a1) | (simp [plainD] at hpl; done) | skip)
    all_goals first | (have h1:[_]=[_]:=h1; simp at h1) | (obtain ⟨_,_,e,_⟩:=h1; simp at e) | (obtain ⟨_,e⟩:=h1; simp at e) | skip
    all_goals simp [DTy.agg] at a1
theorem RE_modify {imm:Nat→Option (List Value)} {K V:DTy} {k:K.El} {v:V.El} {kv vv:Value} (h1:VD imm K k kv) (h2:VD imm V v vv) (f:MapEntry→MapEntry) (hf:∀ e,(f e).key=kv∧(f e).val=vv):{xs:List (K.El×V.El)}→{es:List MapEntry}→RE imm K V xs es→{i:Nat}→RE imm K V (xs.set i (k,v)) (es.modify i f)
  | [],es,h,i=>by
    have h:es=[]:=h
    subst h; simp; rfl
  | x::xs,es,h,i=>by
    obtain ⟨a,l,rfl,g1,g2,g3⟩:=h
    cases i with
    | zero=>exact ⟨f a,l,by simp,by rw [(hf a).1]; exact h1,by rw [(hf a).2]; exact h2,g3⟩
    | succ i=>exact ⟨a,l.modify i f,by simp,g1,g2,RE_modify h1 h2 f hf g3⟩
theorem updateA_sound {P:Program} {o:Oper} {ρ:Operand→AVal} {t:TypeId} {m i x:Operand} {B B':Bx} (ho:o.op=.mapUpdate t m i x) (h:updateA P t (ρ m) (ρ i) (ρ x) B=some B'):OpD P o ρ B .any B':=by
  intro G a w ha hw next Q hn
  have hmv:=ha m (by rw [ho]; simp [Op.operands])
  have hiv:=ha i (by rw [ho]; simp [Op.operands])
  have hxv:=ha x (by rw [ho]; simp [Op.operands])
  unfold updateA at h
  split at h
  · rename_i b K V xs hm
    split at h
    · rename_i kt vt ht
      split at h
      · rename_i kd vd hk hv
        cases hb:eqT P 100 kt K&&(ρ i).plain&&(ρ x).plain with
        | false=>rw [hb] at h; cases h
        | true=>
          rw [hb] at h
          simp only [cond_true,Option.some.injEq] at h
          subst h
          simp only [Bool.and_eq_true] at hb
          obtain ⟨blk,es,clock,e1,haddr,hbox,e2,hre⟩:=map_obj hw hm hmv
          have hkd:=data_v hk hiv
          have hvd:=data_v hv hxv
          have hck:=check_key (w:=w) false 100 10000 (by omega) kt K hb.1.1 kd _ hkd
          have hfk:=find_key (w:=w) (by omega) hb.1.1 hkd hre
          have hgo:(getObj blk).run P w=.ok (.map es clock) w:=by simp [getObj,Sem.run,e2]
          have hset:∀ es' c',(setObj blk (.map es' c')).run P w=.ok () (putO w blk (.map es' c')):=fun es' c'=>by simp [setObj,Sem.run,e2,putO]
          have fin:∀ (es':Array MapEntry) (c':Nat),RE G.imm K V (putD K kd vd xs) es'.toList→(Instr.mapUpdate t (a.eval m) (a.eval i) (a.eval x)).run P w=.ok () (putO w blk (.map es' c'))→∀ r,o.wpIn (Fr r) 0 P a w next Q:=fun es' c' hre' hr=>by
            obtain ⟨g1,g2⟩:=upd_obj (c':=.mobj K V (putD K kd vd xs)) (o':=.map es' c') hw haddr hbox rfl rfl e2 ⟨es',c',rfl,rfl⟩ (RE_RM hre')
            have hrun:(execOp a.eval o).run P w=.ok .skip (putO w blk (.map es' c')):=by
              simp only [execOp,ho,Sem.run_bind,hr,Result.andThen_ok]; rfl
            exact wp_of_skip hrun (hn undef G _ (any_v _) g1 (GLe.refl _ _) g2)
          have start:(Instr.mapUpdate t (a.eval m) (a.eval i) (a.eval x)).run P w=(match (match posD K kd xs with | some j=>(es.toList[j]?).map (fun (e:MapEntry)=>(j,e.val)) | none=>none) with
              | some (j,_)=>do
                let key ← Instr.keyThatStays (((es[j]?).map (fun (e:MapEntry)=>e.key)).getD (a.eval i)) (a.eval i)
                setObj blk (.map (es.modify j fun e=>{ e with key,val:=a.eval x }) clock)
              | none=>setObj blk (.map (es.push { key:=a.eval i,val:=a.eval x,born:=clock }) (clock+1)):Sem Unit).run P w:=by
            unfold Instr.mapUpdate
            rw [Sem.run_bind,run_underlying' ht,Result.andThen_ok,e1]
            simp only [Sem.run_bind,hgo,Result.andThen_ok,hck,hfk]
            rfl
          cases hp:posD K kd xs with
          | none=>
            rw [hp] at start
            refine fin (es.push { key:=a.eval i,val:=a.eval x,born:=clock }) (clock+1) ?_ (start.trans (hset _ _))
            rw [putD_len hp,Array.toList_push]
            exact RE_append hkd hvd hre
          | some j=>
            obtain ⟨y,hy,hyk⟩:=posD_at hp
            obtain ⟨e,he,hke,hve⟩:=RE_get hre hy
            rw [hp] at start
            simp only [he,Option.map_some] at start
            have he':es[j]?=some e:=by simpa using he
            have hks:(Instr.keyThatStays (((es[j]?).map (fun (e:MapEntry)=>e.key)).getD (a.eval i)) (a.eval i)).run P w=.ok (a.eval i) w:=by
              unfold Instr.keyThatStays
              rw [he',Option.map_some,Option.getD_some,same_bits hb.1.1 hyk hkd hke]
              rfl
            refine fin (es.modify j fun e=>{ e with key:=a.eval i,val:=a.eval x }) clock ?_ (start.trans ?_)
            · rw [putD_set hp,Array.toList_modify]
              exact RE_modify hkd hvd _ (fun e=>⟨rfl,rfl⟩) hre
            · rw [Sem.run_bind,hks,Result.andThen_ok,hset]
      · cases h
    · cases h
  · cases h
end Go.Proofs.YtkeipcalbbmncaaGreat.Abs
set_option linter.unusedVariables false
set_option linter.unusedSimpArgs false
namespace Go.Proofs.YtkeipcalbbmncaaGreat.Abs
def parted:List PStep→List PStep→Bool
  | .fld k _::p,.fld k' _::q=>bif k==k' then parted p q else true
  | _,_=>false
theorem setD_child {T:DTy}:{x:T.El}→{k j:Nat}→{o:Nat}→{c v b:AVal}→childA (.d T x) k=some (o,c)→v.size=c.size→setC0 (.d T x) k v=some b→childA b j=if j=k then some (o,v) else childA (.d T x) j:=by
  induction T with
  | cons h t ih1 ih2=>
    intro x k j o c v b hc hv hs
    cases k with
    | zero=>
      simp only [setC0,Option.some.injEq] at hs
      subst hs
      simp only [childA,fldD,Option.some.injEq,Prod.mk.injEq] at hc
      obtain ⟨rfl,rfl⟩:=hc
      cases j with
      | zero=>simp [childA]
      | succ j=>
        have hv':v.size=h.sz:=hv
        simp only [childA,fldD,hv']
        cases fldD t x.2 j<;>simp
    | succ k=>
      simp only [setC0] at hs
      split at hs
      · rename_i b' hb'
        simp only [Option.some.injEq] at hs
        subst hs
        simp only [childA,fldD] at hc
        split at hc
        · rename_i o1 a1 h1
          simp only [Option.some.injEq,Prod.mk.injEq] at hc
          obtain ⟨rfl,rfl⟩:=hc
          cases j with
          | zero=>simp [childA,fldD]
          | succ j=>
            have:=ih2 (x:=x.2) (k:=k) (j:=j) (o:=o1) (c:=a1) (v:=v) (b:=b') h1 hv hb'
            simp only [childA,this]
            by_cases hjk:j=k
            · subst hjk; simp [AVal.size]
            · simp only [hjk,if_false,childA,fldD,AVal.size,Nat.add_right_cancel_iff]
              try (cases fldD t x.2 j<;>simp)
        · cases hc
      · cases hs
  | _=>intro x k j o c v b hc hv hs; simp [childA,fldD] at hc
theorem setC0_child:{a:AVal}→{k j:Nat}→{o:Nat}→{c v b:AVal}→childA a k=some (o,c)→v.size=c.size→setC0 a k v=some b→childA b j=if j=k then some (o,v) else childA a j
  | .d T x,k,j,o,c,v,b,hc,hv,hs=>setD_child hc hv hs
  | .cons h t,0,j,o,c,v,b,hc,hv,hs=>by
    simp only [setC0,Option.some.injEq] at hs
    subst hs
    simp only [childA,Option.some.injEq,Prod.mk.injEq] at hc
    obtain ⟨rfl,rfl⟩:=hc
    cases j with
    | zero=>simp [childA]
    | succ j=>simp [childA,hv]
  | .cons h t,k+1,j,o,c,v,b,hc,hv,hs=>by
    simp only [setC0] at hs
    split at hs
    · rename_i b' hb'
      simp only [Option.some.injEq] at hs
      subst hs
      simp only [childA] at hc
      split at hc
      · rename_i o1 a1 h1
        simp only [Option.some.injEq,Prod.mk.injEq] at hc
        obtain ⟨rfl,rfl⟩:=hc
        cases j with
        | zero=>simp [childA]
        | succ j=>
          have:=setC0_child (j:=j) h1 hv hb'
          simp only [childA,this]
          by_cases hjk:j=k
          · subst hjk; simp
          · simp [hjk]
      · cases hc
    · cases hs
  | .tbox ..,k,_,_,_,_,_,hc,_,hs=>by cases k<;>simp [setC0] at hs
  | .own ..,k,_,_,_,_,_,hc,_,_ | .nil,k,_,_,_,_,_,hc,_,_ | .pnil,k,_,_,_,_,_,hc,_,_ | .bptr ..,k,_,_,_,_,_,hc,_,_ | .iptr ..,k,_,_,_,_,_,hc,_,_ | .func ..,k,_,_,_,_,_,hc,_,_ | .fnil,k,_,_,_,_,_,hc,_,_ | .snil,k,_,_,_,_,_,hc,_,_ | .iface ..,k,_,_,_,_,_,hc,_,_ | .inil,k,_,_,_,_,_,hc,_,_ | .tuple ..,k,_,_,_,_,_,hc,_,_ | .any,k,_,_,_,_,_,hc,_,_ | .mnil,k,_,_,_,_,_,hc,_,_ | .mref _,k,_,_,_,_,_,hc,_,_ | .mobj ..,k,_,_,_,_,_,hc,_,_ | .yref _,k,_,_,_,_,_,hc,_,_ | .lobj ..,k,_,_,_,_,_,hc,_,_=>by
    cases k<;>simp [childA] at hc
theorem setC_child {a:AVal} {k j o:Nat} {c v b:AVal} (hc:childA a k=some (o,c)) (hv:v.size=c.size) (hs:setC a k v=some b):childA b j=if j=k then some (o,v) else childA a j:=by
  cases a with
  | tbox t a=>
    simp only [setC] at hs
    split at hs
    · rename_i b1 hb1
      simp only [Option.some.injEq] at hs
      subst hs
      have:=setC0_child (a:=a) (j:=j) (by simpa [childA] using hc) hv hb1
      simpa [childA] using this
    · cases hs
  | _=>exact setC0_child hc hv (by simpa [setC] using hs)
theorem getP_setP:{p q:List PStep}→{a v b:AVal}→setP a p v=some b→parted p q=true→getP b q=getP a q
  | .fld k o::p,.fld k' o'::q,a,v,b,hs,hp=>by
    simp only [setP] at hs
    split at hs
    · rename_i o1 c hc
      split at hs
      · rename_i c' hc'
        cases hb:o1==o&&c'.size==c.size with
        | false=>rw [hb] at hs; cases hs
        | true=>
          rw [hb] at hs
          simp only [cond_true] at hs
          simp only [Bool.and_eq_true,beq_iff_eq] at hb
          have hch:=setC_child (j:=k') hc hb.2 hs
          simp only [getP,hch]
          by_cases hk:k'=k
          · subst hk
            simp only [parted,beq_self_eq_true,cond_true] at hp
            simp only [if_true,hc]
            rw [getP_setP hc' hp]
          · simp only [hk,if_false]
      · cases hs
    · cases hs
  | [],_,_,_,_,_,hp=>by simp [parted] at hp
  | .ix ..::_,_,_,_,_,_,hp=>by simp [parted] at hp
  | .fld ..::_,[],_,_,_,_,hp=>by simp [parted] at hp
  | .fld ..::_,.ix ..::_,_,_,_,_,hp=>by simp [parted] at hp
end Go.Proofs.YtkeipcalbbmncaaGreat.Abs
set_option linter.unusedVariables false
set_option linter.unusedSimpArgs false
namespace Go.Proofs.YtkeipcalbbmncaaGreat.Abs
theorem new_rowD {G:Gh} {B:Bx} {w:World} {T:DTy} {xs:List T.El} {row:List Value} {cells:Array Value} {e:TypeId} (hw:WOk G B w) (hp:row <+: cells.toList) (hl:row.length=xs.length*T.sz)
    (hx:∀ (i:Nat) (x:T.El),xs[i]?=some x→RD G.imm T x ((row.drop (i*T.sz)).take T.sz)) :
    ∃ G',Rv G' B.dead (.d (.list T) xs) (.slice (some ⟨w.heap.size,0,none⟩) xs.length xs.length)∧WOk G' B (w.alloc (.cells cells e))∧GLe G B.dead G' B.dead∧Ext G w G' (w.alloc (.cells cells e)):=by
  have hno:G.imm w.heap.size=none:=by
    cases hi:G.imm w.heap.size with
    | none=>rfl
    | some row=>have:=hw.imm_lt hi; omega
  let G':Gh:={ G with imm:=fun b=>if b=w.heap.size then some row else G.imm b }
  have himm:ImmLe G.imm G'.imm:=fun b r hb=>by
    refine ⟨r,?_,List.prefix_refl _⟩
    show (if b=w.heap.size then some row else G.imm b)=some r
    rw [if_neg (fun h=>by subst h; rw [hno] at hb; cases hb)]
    exact hb
  have hle:GLe G B.dead G' B.dead:=by
    refine ⟨himm,List.prefix_refl _,fun _ h=>h,fun t b n ht h1=>⟨h1,fun r h2=>?_⟩⟩
    show (if b=w.heap.size then some row else G.imm b)=some r
    rw [if_neg (fun h=>by subst h; rw [hno] at h2; cases h2)]
    exact h2
  have hself:G'.imm w.heap.size=some row:=by simp [G']
  have hext:Ext G w G' (w.alloc (.cells cells e)):=by
    refine ⟨rfl,rfl,rfl,by simp,fun b hb _ _=>heap_push_lt hb,himm,fun b hb _=>?_,fun _ h=>.inl h,fun t b n ht=>.inl ⟨t,ht⟩⟩
    show (if b=w.heap.size then some row else G.imm b)=G.imm b
    rw [if_neg (by omega)]
  refine ⟨G',?_,?_,hle,hext⟩
  · exact leaf_v rfl ⟨_,xs.length,rfl,Nat.le_refl _,fun _=>⟨w.heap.size,0,row,rfl,hself,by omega,fun i x hi=>by rw [Nat.zero_add]; exact (hx i x hi).mono himm⟩⟩
  · refine ⟨hw.len,hw.nodup,fun i b c hb hc=>?_,fun b r hb=>?_,fun b hb=>?_,fun t b n ht=>?_,hw.inj,hw.tab.ext hext,?_⟩
    · have hbo:=hw.boxes i b c hb hc
      obtain ⟨_,_,hh,_⟩:=id hbo
      exact hbo.mono hle (heap_push_lt (heap_lt hh))
    · by_cases hbs:b=w.heap.size
      · subst hbs
        rw [hself] at hb
        cases hb
        exact ⟨cells,e,(0,0),heap_push_eq,hp⟩
      · have hb':G.imm b=some r:=by
          have:(if b=w.heap.size then some row else G.imm b)=some r:=hb
          rwa [if_neg hbs] at this
        obtain ⟨cs,e',fr,hh,hpp⟩:=hw.imm b r hb'
        exact ⟨cs,e',fr,by rw [heap_push_lt (heap_lt hh)]; exact hh,hpp⟩
    · have:=hw.addr_lt hb
      show (if b=w.heap.size then some row else G.imm b)=none
      rw [if_neg (by omega)]
      exact hw.disj b hb
    · obtain ⟨h1,h2,cs,e',h3,h4⟩:=hw.own t b n ht
      have hlt:=heap_lt h3
      refine ⟨h1,h2.of ?_ fun i c k1 k2=>.inr ⟨i,c,k1,k2,fun h=>h⟩,cs,e',by rw [heap_push_lt hlt]; exact h3,h4.1,by show ByR (if b=w.heap.size then some row else G.imm b) e'; rw [if_neg (by omega)]; exact h4.2⟩
      show (if b=w.heap.size then some row else G.imm b)=G.imm b
      rw [if_neg (by omega)]
    · refine hw.vec.mono (fun _ _ _ _ hx=>hx) (fun _ h=>.inl h) (fun t b n _ h1 h2=>?_) himm
      obtain ⟨_,_,cs,e',h3,_⟩:=hw.own t b n h1
      have hlt:=heap_lt h3
      refine ⟨h1,?_,heap_push_lt hlt⟩
      show (if b=w.heap.size then some row else G.imm b)=none
      rw [if_neg (by omega)]
      exact h2
def buildSliceD (P:Program) (t:TypeId) (len:Nat) (parts:Array (Nat×Operand)) (ρ:Operand→AVal):Option AVal:=
  match P.underlying t with
  | some (.slice e)=>match dtyT P 6 e,szT P e,zeroV P e with
    | some T,some n,some _=>bif n==T.sz&&parts.toList.length==len&&decide (len*n≤2^24) then
        match datasA T ρ parts.toList 0 with
        | some xs=>some (.d (.list T) xs)
        | none=>none
      else none
    | _,_,_=>none
  | _=>none
theorem buildSliceD_sound {P:Program} {o:Oper} {ρ:Operand→AVal} {v:AVal} {t:TypeId} {len:Nat} {parts:Array (Nat×Operand)} (ho:o.op=.buildSlice t len parts) (h:buildSliceD P t len parts ρ=some v) (B:Bx):OpD P o ρ B v B:=by
  intro G a w ha hw next Q hn
  unfold buildSliceD at h
  split at h
  · rename_i e hu
    split at h
    · rename_i T n zs hT hn2 hz
      cases hb:n==T.sz&&parts.toList.length==len&&decide (len*n≤2^24) with
      | false=>rw [hb] at h; cases h
      | true=>
        simp only [hb,cond_true] at h
        simp only [Bool.and_eq_true,beq_iff_eq,decide_eq_true_eq] at hb
        obtain ⟨⟨rfl,hlen⟩,hbig⟩:=hb
        split at h
        · rename_i xs hxs
          simp only [Option.some.injEq] at h
          subst h
          obtain ⟨ti,hti,hsz⟩:=szT_spec hn2
          obtain ⟨d1,d2,d3,d4,d5⟩:=datasA_spec (G:=G) (dead:=B.dead) (ev:=a.eval) hxs (fun p hp=>ha p.2 (by
            rw [ho]
            simp only [Op.operands,List.mem_toArray,List.mem_map]
            exact ⟨p,hp,rfl⟩))
          obtain ⟨z,hzr,hzc⟩:=run_zeroValue' hz w
          let init:Array Value:=(Array.range (len*T.sz)).map (fun i=>(if len*T.sz=0 then (#[]:Array Value) else z.cells)[i % (if len*T.sz=0 then (#[]:Array Value) else z.cells).size]!)
          have hinit:init.size=len*T.sz:=by simp [init]
          obtain ⟨out,f1,f2⟩:=fill_seq (size:=T.sz) (parts.toList.map fun p=>a.eval p.2) 0 init d3 (by rw [hinit]; simp [hlen])
          simp only [Nat.zero_mul,List.take_zero,List.nil_append] at f2
          have hol:out.size=xs.length*T.sz:=by
            have:=congrArg List.length f2
            rw [d4] at this
            simpa using this
          have hxl:xs.length=len:=by rw [d1,hlen]
          obtain ⟨G',g1,g2,g3,g4⟩:=new_rowD (e:=e) (cells:=out) (row:=out.toList) (xs:=xs) hw (List.prefix_refl _) (by simp [hol]) (by rw [f2]; exact d5)
          refine wp_of_run (v:=.slice (some ⟨w.heap.size,0,none⟩) xs.length xs.length) (w':=w.alloc (.cells out e)) ?_ (hn _ G' _ g1 g2 g3 g4)
          simp only [execOp,ho]
          rw [Sem.run_bind]
          unfold Instr.buildSlice
          have hnb:¬ len*T.sz > 2^24:=by omega
          have hparts:(parts.map fun p=>(p.1,a.eval p.2)).toList=(parts.toList.map fun p=>a.eval p.2).zipIdx.map fun p=>(p.2,p.1):=by
            rw [Array.toList_map]
            exact d2
          rw [Sem.run_bind,run_underlying' hu,Result.andThen_ok,Sem.run_bind,run_sizeOf' hti,Result.andThen_ok,hsz,if_neg hnb]
          simp only [pure_bind,Sem.run_bind]
          by_cases h0:len*T.sz=0
          · simp only [h0,if_true,Sem.run_pure,Result.andThen_ok] at f1 ⊢
            simp only [init,h0,if_true] at f1
            simp only [hparts,f1,Sem.run_bind]
            simp only [hxl]
            rfl
          · simp only [h0,if_false,Sem.run_bind,hzr,Sem.run_pure,Result.andThen_ok]
            simp only [init,h0,if_false] at f1
            simp only [hparts,f1,Sem.run_bind]
            simp only [hxl]
            rfl
        · cases h
    · cases h
  · cases h
end Go.Proofs.YtkeipcalbbmncaaGreat.Abs
set_option linter.unusedVariables false
set_option linter.unusedSimpArgs false
namespace Go.Proofs.YtkeipcalbbmncaaGreat.Abs
theorem vec_form {G:Gh} {dead:List Nat} {t b n:Nat} {T:DTy} {v:Value} (h:Rv G dead (.vec t b T n) v):∃ blk cap,v=.slice (some ⟨blk,0,none⟩) n cap∧(t∈dead∨(G.own t=some (blk,cap*T.sz)∧n≤cap)):=by
  obtain ⟨cs,⟨blk,cap,rfl,h1⟩,h2 | h2⟩:=h
  · cases h2.1
  · exact ⟨blk,cap,by simpa using h2.2.symm,h1⟩
theorem vptr_form {G:Gh} {dead:List Nat} {t b i:Nat} {T:DTy} {p:List PStep} {v:Value} (h:Rv G dead (.vptr t b T i p) v):∃ blk off,v=.pointer (some ⟨blk,off,none⟩)∧(t∈dead∨(∃ n,G.own t=some (blk,n))∧okP p∧off=i*T.sz+offP p):=by
  obtain ⟨cs,⟨blk,off,rfl,h1⟩,h2 | h2⟩:=h
  · cases h2.1
  · exact ⟨blk,off,by simpa using h2.2.symm,h1⟩
theorem vec_row {G:Gh} {B:Bx} {w:World} (hw:WOk G B w) {b t:Nat} {T:DTy} {xs:List T.El} (hb:B.box[b]?=some (.vrow t T xs)) {i:Nat} (hi:i < xs.length) {blk n:Nat} (ho:G.own t=some (blk,n)) :
    t ∉ B.dead∧∃ cells e,w.heap[blk]?=some (.cells cells e (0,0))∧xs.length*T.sz≤cells.size∧cells.size=n∧G.imm blk=none∧RD G.imm (.arr xs.length T) xs (cells.toList.take (xs.length*T.sz))∧(i+1)*T.sz≤cells.size∧
      RD G.imm T (xs.getD i T.dflt) ((cells.toList.drop (i*T.sz)).take T.sz):=by
  obtain ⟨h1,_,blk',n',cells,e,h2,h3,h4,h5,h6,h7⟩:=hw.vec b t T xs hb
  rw [ho] at h2
  obtain ⟨rfl,rfl⟩:blk=blk'∧n=n':=by simpa using h2
  have hm:(i+1)*T.sz≤xs.length*T.sz:=Nat.mul_le_mul_right _ hi
  have hm2:i*T.sz+T.sz≤xs.length*T.sz:=by rw [Nat.add_mul,Nat.one_mul] at hm; exact hm
  refine ⟨h1,cells,e,h3,by omega,h5,h6,h7,by omega,?_⟩
  have:=h7.2.2 i _ (getD_some hi (d:=T.dflt))
  rw [List.drop_take,List.take_take,Nat.min_eq_left (by omega)] at this
  exact this
def indexV (P:Program) (ty:TypeId) (x ix:AVal):Option (Bool×AVal):=
  match x,ix with
  | .vec t b T n,.d (.int _) i=>match P.underlying ty with
    | some (.slice e)=>match szT P e with
      | some m=>bif m==T.sz then some (decide (0≤i)&&decide (i < (n:Int)),.vptr t b T i.toNat []) else none
      | none=>none
    | _=>none
  | _,_=>none
theorem indexV_sound {P:Program} {o:Oper} {ρ:Operand→AVal} {v:AVal} {ty:TypeId} {x ix:Operand} (ho:o.op=.indexAddr ty x ix) (h:indexV P ty (ρ x) (ρ ix)=some (true,v)) (B:Bx):OpD P o ρ B v B:=by
  refine OpD.value (fun G dead a ha=>?_) B
  have hx:=ha x (by rw [ho]; simp [Op.operands])
  have hix:=ha ix (by rw [ho]; simp [Op.operands])
  unfold indexV at h
  split at h
  · rename_i t b T n k i hxe hie
    rw [hxe] at hx
    rw [hie] at hix
    have hiv:=int_form hix
    split at h
    · rename_i e hu
      split at h
      · rename_i m hm
        obtain ⟨ti,hti,rfl⟩:=szT_spec hm
        cases hb:ti.size==T.sz with
        | false=>simp [hb] at h
        | true=>
          simp only [hb,cond_true,Option.some.injEq,Prod.mk.injEq,Bool.and_eq_true,decide_eq_true_eq] at h
          obtain ⟨⟨h0,h1⟩,rfl⟩:=h
          have hb':ti.size=T.sz:=by simpa using hb
          obtain ⟨blk,cap,hv,hd⟩:=vec_form hx
          refine ⟨_,fun w=>?_,leaf_v rfl ⟨blk,i.toNat*T.sz,rfl,?_⟩⟩
          · simp only [execOp,ho,hv,hiv]
            rw [Sem.run_bind,run_indexAt_slice hu hti h0 h1,hb',Nat.zero_add]
            rfl
          · rcases hd with hd | ⟨h2,h3⟩
            · exact .inl hd
            · exact .inr ⟨⟨_,h2⟩,trivial,by simp [offP]⟩
      · cases h
    · cases h
  · cases h
def loadV (P:Program) (ty:TypeId) (x:AVal) (B:Bx):Option (Bool×AVal):=
  match x with
  | .vptr t b T i p=>match B.box[b]? with
    | some (.vrow t' T' xs)=>if h:T'=T then bif t'==t then match getP (.d T ((h ▸ xs).getD i T.dflt)) p with
        | some c=>bif fitT P ty c then some (decide (i < xs.length),c) else none
        | none=>none else none
      else none
    | _=>none
  | _=>none
theorem loadV_sound {P:Program} {o:Oper} {ρ:Operand→AVal} {v:AVal} {ty:TypeId} {x:Operand} {B:Bx} (ho:o.op=.load ty x) (h:loadV P ty (ρ x) B=some (true,v)):OpD P o ρ B v B:=by
  intro G a w ha hw next Q hn
  have hx:=ha x (by rw [ho]; simp [Op.operands])
  unfold loadV at h
  split at h
  · rename_i t b T i p hxe
    rw [hxe] at hx
    split at h
    · rename_i t' T' xs hb
      split at h
      · rename_i hT
        subst hT
        cases ht:t'==t with
        | false=>simp [ht] at h
        | true=>
          have ht':t'=t:=by simpa using ht
          subst ht'
          simp only [ht,cond_true] at h
          split at h
          · rename_i c hc
            cases hf:fitT P ty c with
            | false=>simp [hf] at h
            | true=>
              simp only [hf,cond_true,Option.some.injEq,Prod.mk.injEq,decide_eq_true_eq] at h
              obtain ⟨hi,rfl⟩:=h
              obtain ⟨blk,off,hv,hd⟩:=vptr_form hx
              obtain ⟨hnd,_⟩:=hw.vec b t' T' xs hb
              obtain ⟨⟨n,ho1⟩,hp,rfl⟩:=hd.resolve_left hnd
              obtain ⟨_,cells,e,k1,k2,k3,k4,k5,k6,k7⟩:=vec_row hw hb hi ho1
              obtain ⟨hle,hr⟩:=getP_spec (G:=G) (dead:=B.dead) hc hp _ k7
              have hlen:=Rc.len hr
              have hcl:((cells.toList.drop (i*T'.sz)).take T'.sz).length=T'.sz:=RD.len k7
              obtain ⟨cv,hrun,hcv⟩:=run_loadAt' (P:=P) (w:=w) (b:=blk) (off:=i*T'.sz+offP p) hf hr (fun j hj=>by
                rw [hlen] at hj
                rw [cell_of_heap k1,List.getElem?_take_of_lt hj,List.getElem?_drop,List.getElem?_take_of_lt (by omega),List.getElem?_drop,← Array.getElem?_toList]
                congr 1; omega)
              rw [← hv] at hrun
              exact wp_of_run (by simp only [execOp,ho]; rw [Sem.run_bind,hrun]; rfl) (hn cv G w hcv hw (GLe.refl _ _) (Ext.refl _ _))
          · cases h
      · cases h
    · cases h
  · cases h
theorem upd_vec {G:Gh} {B:Bx} {w:World} (hw:WOk G B w) {b t blk n:Nat} {T:DTy} {xs ys:List T.El} (hb:B.box[b]?=some (.vrow t T xs)) (ho:G.own t=some (blk,n)) {cells cells':Array Value} {e:TypeId} (hh:w.heap[blk]?=some (.cells cells e (0,0)))
    (hs:cells'.size=cells.size) (hl:ys.length*T.sz≤n) (hr:RD G.imm (.arr ys.length T) ys (cells'.toList.take (ys.length*T.sz))) :
    WOk G { B with box:=B.box.set b (.vrow t T ys) } (putRow w blk cells' e)∧Ext G w G (putRow w blk cells' e):=by
  obtain ⟨v1,v2,blk0,n0,cells0,e0,v3,v4,v5,v6,v7,v8⟩:=hw.vec b t T xs hb
  rw [ho] at v3
  obtain ⟨rfl,rfl⟩:blk=blk0∧n=n0:=by simpa using v3
  rw [hh] at v4
  simp only [Option.some.injEq,Obj.cells.injEq] at v4
  obtain ⟨rfl,rfl,_⟩:=v4
  have hlt:=heap_lt hh
  have hbl:b < B.box.length:=(List.getElem?_eq_some_iff.1 hb).1
  have name:∀ (j bb:Nat) (d:AVal),G.addr[j]?=some bb→B.box[j]?=some d→bb=blk→j=b:=fun j bb d h1 h2 h3=>by
    subst h3
    rcases (hw.own t bb n ho).2.1 with ⟨row,h⟩ | ⟨_,h⟩
    · rw [v7] at h; cases h
    · obtain ⟨T',zs,rfl⟩:=isT_form (h j d h1 h2)
      exact v2 j T' zs h2
  have hext:Ext G w G (putRow w blk cells' e):=⟨rfl,rfl,rfl,by simp [putRow_size],fun c _ _ hno=>putRow_other (fun h=>hno t _ (h ▸ ho)),ImmLe.refl _,fun _ _ _=>rfl,fun _ h=>.inl h,fun t b n h=>.inl ⟨t,h⟩⟩
  refine ⟨⟨by simp [hw.len],hw.nodup,fun j bb d hjb hd=>?_,fun bb row hbb=>?_,hw.disj,fun t2 bb n2 h2=>?_,hw.inj,hw.tab.ext hext,?_⟩,hext⟩
  · simp only [List.getElem?_set] at hd
    by_cases hij:b=j
    · subst hij
      simp only [if_true,hbl,Option.some.injEq] at hd
      subst hd
      obtain ⟨o,cs,k1,_,_⟩:=hw.boxes b bb _ hjb hb
      by_cases hbk:blk=bb
      · subst hbk
        exact ⟨_,[],putRow_same hlt,rfl,rfl⟩
      · exact ⟨o,[],by rw [putRow_other hbk]; exact k1,rfl,rfl⟩
    · simp only [hij,if_false] at hd
      have hne:bb≠blk:=fun h=>hij (name j bb d hjb hd h).symm
      exact (hw.boxes j bb d hjb hd).mono (GLe.refl _ _) (putRow_other (Ne.symm hne))
  · obtain ⟨cs,e',fr,k1,k2⟩:=hw.imm bb row hbb
    have hne:bb≠blk:=fun h=>by subst h; rw [v7] at hbb; cases hbb
    exact ⟨cs,e',fr,by rw [putRow_other (Ne.symm hne)]; exact k1,k2⟩
  · obtain ⟨k1,k2,cs,e',k3,k4⟩:=hw.own t2 bb n2 h2
    have row:RowOk G { B with box:=B.box.set b (.vrow t T ys) } t2 bb:=k2.of rfl fun j d e1 e2=>by
      simp only [List.getElem?_set] at e2
      by_cases hij:b=j
      · subst hij
        simp only [if_true,hbl,Option.some.injEq] at e2
        subst e2
        exact .inr ⟨b,_,e1,hb,fun h=>by simpa [AVal.isT] using h⟩
      · simp only [hij,if_false] at e2
        exact .inr ⟨j,d,e1,e2,fun h=>h⟩
    by_cases hbk:bb=blk
    · subst hbk
      have:=hw.inj t2 t bb n2 n h2 ho
      subst this
      rw [h2] at ho
      obtain rfl:n2=n:=by simpa using ho
      have he:e'=e:=by
        rw [hh] at k3
        simp only [Option.some.injEq,Obj.cells.injEq] at k3
        exact k3.2.1.symm
      exact ⟨k1,row,cells',e,putRow_same hlt,by omega,he ▸ k4.2⟩
    · exact ⟨k1,row,cs,e',by rw [putRow_other (Ne.symm hbk)]; exact k3,k4⟩
  · intro i t2 T2 zs hx
    simp only [List.getElem?_set] at hx
    by_cases hij:b=i
    · subst hij
      simp only [if_true,hbl,Option.some.injEq,AVal.vrow.injEq] at hx
      obtain ⟨rfl,rfl,hx⟩:=hx
      obtain rfl:=eq_of_heq hx
      refine ⟨v1,fun j T' us hj=>?_,blk,n,cells',e,ho,putRow_same hlt,hl,by omega,v7,hr⟩
      simp only [List.getElem?_set] at hj
      by_cases hjb:b=j
      · exact hjb.symm
      · simp only [hjb,if_false] at hj
        exact v2 j T' us hj
    · simp only [hij,if_false] at hx
      obtain ⟨w1,w2,blk2,n2,c2,e2,w3,w4,w5,w6,w7,w8⟩:=hw.vec i t2 T2 zs hx
      have hne:t2≠t:=fun h=>by
        subst h
        exact hij (v2 i T2 zs hx).symm
      have hbne:blk2≠blk:=fun h=>by
        subst h
        exact hne (hw.inj t2 t blk2 _ _ w3 ho)
      refine ⟨w1,fun j T' us hj=>?_,blk2,n2,c2,e2,w3,by rw [putRow_other (Ne.symm hbne)]; exact w4,w5,w6,w7,w8⟩
      simp only [List.getElem?_set] at hj
      by_cases hjb:b=j
      · subst hjb
        simp only [if_true,hbl,Option.some.injEq,AVal.vrow.injEq] at hj
        exact absurd hj.1.symm hne
      · simp only [hjb,if_false] at hj
        exact w2 j T' us hj
def storeV (P:Program) (ty:TypeId) (x v:AVal) (B:Bx):Option (Bool×Bx):=
  match x with
  | .vptr t b T i p=>match B.box[b]? with
    | some (.vrow t' T' xs)=>if h:T'=T then bif t'==t then match szT P ty with
        | some m=>bif v.plain&&m==v.size then match setP (.d T ((h ▸ xs).getD i T.dflt)) p v with
          | some c=>match asData c T with
            | some y=>some (decide (i < xs.length),{ B with box:=B.box.set b (.vrow t T ((h ▸ xs).set i y)) })
            | none=>none
          | none=>none else none
        | none=>none else none
      else none
    | _=>none
  | _=>none
theorem putCells_take {cs vs:List Value} {o L:Nat} (h:o+vs.length≤L) (hL:L≤cs.length):(putCells cs o vs).take L=putCells (cs.take L) o vs:=by
  unfold putCells
  have hl:(cs.take o++vs).length=o+vs.length:=by simp; omega
  rw [List.take_append,List.take_of_length_le (by omega),hl,List.take_take,Nat.min_eq_left (by omega),List.drop_take]
theorem storeV_sound {P:Program} {o:Oper} {ρ:Operand→AVal} {ty:TypeId} {x y:Operand} {B B':Bx} (ho:o.op=.store ty x y) (h:storeV P ty (ρ x) (ρ y) B=some (true,B')):OpD P o ρ B .any B':=by
  intro G a w ha hw next Q hn
  have hx:=ha x (by rw [ho]; simp [Op.operands])
  have hy:=ha y (by rw [ho]; simp [Op.operands])
  unfold storeV at h
  split at h
  · rename_i t b T i p hxe
    rw [hxe] at hx
    split at h
    · rename_i t' T' xs hb
      split at h
      · rename_i hT
        subst hT
        cases ht:t'==t with
        | false=>simp [ht] at h
        | true=>
          have ht':t'=t:=by simpa using ht
          subst ht'
          simp only [ht,cond_true] at h
          split at h
          · rename_i m hm
            cases hpl:(ρ y).plain&&m==(ρ y).size with
            | false=>simp [hpl] at h
            | true=>
              simp only [hpl,cond_true] at h
              simp only [Bool.and_eq_true,beq_iff_eq] at hpl
              split at h
              · rename_i c hc
                split at h
                · rename_i z hz
                  simp only [Option.some.injEq,Prod.mk.injEq,decide_eq_true_eq] at h
                  obtain ⟨hi,rfl⟩:=h
                  obtain ⟨ti,hti,hsz⟩:=szT_spec hm
                  obtain ⟨blk,off,hv,hd⟩:=vptr_form hx
                  obtain ⟨hnd,_⟩:=hw.vec b t' T' xs hb
                  obtain ⟨⟨n,ho1⟩,hp,rfl⟩:=hd.resolve_left hnd
                  obtain ⟨_,cells,e,k1,k2,k3,k4,k5,k6,k7⟩:=vec_row hw hb hi ho1
                  have hvc:=cells_of_v hpl.1 hy
                  have hset:setP (.d (.arr xs.length T') xs) (.ix i T'.sz xs.length::p) (ρ y)=some (.d (.arr xs.length T') (xs.set i z)):=by
                    simp only [setP,hc,hz,beq_self_eq_true,Bool.and_self,cond_true]
                  obtain ⟨hle,hr⟩:=setP_spec (G:=G) (dead:=B.dead) hset ⟨hi,hp⟩ _ _ k5 hvc
                  have hoff:offP (PStep.ix i T'.sz xs.length::p)=i*T'.sz+offP p:=rfl
                  rw [hoff] at hle hr
                  have hle':i*T'.sz+offP p+(a.eval y).cells.toList.length≤xs.length*T'.sz:=by
                    have:(cells.toList.take (xs.length*T'.sz)).length≤xs.length*T'.sz:=by simp; omega
                    omega
                  have hcl:cells.toList.length=cells.size:=by simp
                  have hlen:(putCells cells.toList (i*T'.sz+offP p) (a.eval y).cells.toList).length=cells.toList.length:=putCells_len (by omega)
                  have hxl:(xs.set i z).length=xs.length:=List.length_set
                  obtain ⟨h1,h2⟩:=upd_vec (ys:=xs.set i z) (cells':=(putCells cells.toList (i*T'.sz+offP p) (a.eval y).cells.toList).toArray) hw hb ho1 k1 (by rw [List.size_toArray,hlen,hcl]) (by rw [hxl]; omega) (by
                    have e1:(putCells cells.toList (i*T'.sz+offP p) (a.eval y).cells.toList).toArray.toList.take ((xs.set i z).length*T'.sz)=putCells (cells.toList.take (xs.length*T'.sz)) (i*T'.sz+offP p) (a.eval y).cells.toList:=by
                      rw [hxl]
                      exact putCells_take hle' (by omega)
                    rw [e1]
                    have:∀ q,q=xs.length→RD G.imm (.arr q T') (xs.set i z:List T'.El) (putCells (cells.toList.take (xs.length*T'.sz)) (i*T'.sz+offP p) (a.eval y).cells.toList):=fun q hq=>by rw [hq]; exact hr
                    exact this _ hxl)
                  have hrun:(execOp a.eval o).run P w=.ok .skip (putRow w blk (putCells cells.toList (i*T'.sz+offP p) (a.eval y).cells.toList).toArray e):=by
                    simp only [execOp,ho,hv]
                    rw [Sem.run_bind]
                    unfold Instr.storeAt
                    simp only [Instr.sureAddr,Sem.run_bind,Sem.run_pure,Result.andThen_ok]
                    unfold storeVar
                    rw [Sem.run_bind,run_sizeOf' hti,Result.andThen_ok]
                    have hl:=Rc.len hvc
                    have:¬ (a.eval y).cells.size≠ti.size:=by
                      simp only [Array.length_toList] at hl
                      rw [hsz,hpl.2,hl]; simp
                    rw [if_neg this]
                    have hs:=run_storeCells (P:=P) (b:=blk) (off:=i*T'.sz+offP p) (e:=e) (a.eval y).cells.toList 0 w cells k1 (by omega) (Rc.leaf hpl.1 hvc)
                    simp only [Nat.add_zero] at hs
                    simp only [Sem.run_pure,Sem.run_bind,Result.andThen_ok,pure_bind,hs]
                  exact wp_of_skip hrun (hn undef G _ (any_v _) h1 (GLe.refl _ _) h2)
                · cases h
              · cases h
          · cases h
      · cases h
    · cases h
  · cases h
def lenV (P:Program) (ty:TypeId) (x:AVal):Option AVal:=
  match P.underlying ty,x with
  | some (.slice _),.vec _ _ _ n=>some (.d (.int .i64) (n:Int))
  | _,_=>none
theorem lenV_sound {P:Program} {o:Oper} {ρ:Operand→AVal} {v:AVal} {c:Call} {t:TypeId} {x:Operand} (ho:o.op=.call c) (hcal:c.callee=.builtin .len) (hargs:c.args=#[x]) (hty:c.argTypes=#[t]) (h:lenV P t (ρ x)=some v) (B:Bx):OpD P o ρ B v B:=by
  refine OpD.value (fun G dead a ha=>?_) B
  have hx:=ha x (by rw [ho]; simp [Op.operands,Call.operands,hcal,hargs])
  unfold lenV at h
  split at h
  · rename_i e tk b T n hu hxe
    rw [hxe] at hx
    obtain ⟨blk,cap,hv,_⟩:=vec_form hx
    simp only [Option.some.injEq] at h
    subst h
    refine ⟨.int .i64 (n:Int),fun w=>?_,leaf_v rfl rfl⟩
    have hrun:(Builtin.len_ #[t] o.type #[a.eval x]).run P w=.ok (.int .i64 (n:Int)) w:=by
      rw [hv]
      unfold Builtin.len_
      simp [run_underlying' hu,goInt]
    simp only [execOp,ho]
    unfold resolve
    simp only [hcal,hargs,Sem.run_bind,Sem.run_pure,Result.andThen_ok,invoke,builtin,hty]
    have:(#[x]:Array Operand).map a.eval=#[a.eval x]:=by simp
    simp only [this,hrun,Result.andThen_ok]
  · cases h
def dz:DTy→List Value
  | .int k=>[.int k 0]
  | .bool=>[.bool false]
  | .str=>[.string (⟨#[]⟩:ByteArray)]
  | .list _=>[.slice none 0 0]
  | .nil=>[]
  | .cons h t=>dz h++dz t
  | .arr n e=>(List.replicate n (dz e)).flatten
  | .mapr=>[.map none]
  | .opq=>[.nilIface]
theorem rep_flat {α:Type} {l:List α}:∀ {n i:Nat},i < n→(((List.replicate n l).flatten).drop (i*l.length)).take l.length=l
  | n+1,0,_=>by simp [List.replicate_succ]
  | n+1,i+1,h=>by
    rw [List.replicate_succ,List.flatten_cons,Nat.add_mul,Nat.one_mul,Nat.add_comm,← List.drop_drop,List.drop_left]
    exact rep_flat (by omega)
theorem rep_len {α:Type} {l:List α} {n:Nat}:((List.replicate n l).flatten).length=n*l.length:=by
  induction n with
  | zero=>simp
  | succ n ih=>rw [List.replicate_succ,List.flatten_cons,List.length_append,ih,Nat.add_mul,Nat.one_mul,Nat.add_comm]
theorem dz_arr {imm:Nat→Option (List Value)} {e:DTy} {cs:List Value} (h:RD imm e e.dflt cs) (n:Nat):RD imm (.arr n e) (List.replicate n e.dflt) ((List.replicate n cs).flatten):=by
  have hl:=RD.len h
  refine ⟨by simp,by rw [rep_len,hl],fun i x hx=>?_⟩
  have hi:i < n:=by
    have:=(List.getElem?_eq_some_iff.1 hx).1
    simpa using this
  have hxe:x=e.dflt:=by
    rw [List.getElem?_replicate,if_pos hi] at hx
    exact (Option.some.inj hx).symm
  rw [hxe,← hl,rep_flat hi]
  exact h
theorem dz_spec (imm:Nat→Option (List Value)):(T:DTy)→RD imm T T.dflt (dz T)
  | .int _=>rfl
  | .bool=>rfl
  | .str=>rfl
  | .list _=>⟨none,0,rfl,Nat.le_refl _,fun h=>absurd rfl h⟩
  | .nil=>rfl
  | .cons h t=>⟨_,_,rfl,dz_spec imm h,dz_spec imm t⟩
  | .arr n e=>dz_arr (dz_spec imm e) n
  | .mapr=>⟨_,rfl⟩
  | .opq=>⟨_,rfl,rfl⟩
theorem new_vec {G:Gh} {B:Bx} {w:World} {T:DTy} {xs:List T.El} {cells:Array Value} {e:TypeId} {cap:Nat} (hw:WOk G B w) (hd:B.nt ∉ B.dead) (hs:cells.size=cap*T.sz) (hl:xs.length≤cap) (hr:RD G.imm (.arr xs.length T) xs (cells.toList.take (xs.length*T.sz))) :
    ∃ G',Rv G' B.dead (.vec B.nt B.box.length T xs.length) (.slice (some ⟨w.heap.size,0,none⟩) xs.length cap)∧WOk G' { B.push (.vrow B.nt T xs) with nt:=B.nt+1 } (w.alloc (.cells cells e))∧GLe G B.dead G' B.dead∧Ext G w G' (w.alloc (.cells cells e)):=by
  have hno:G.imm w.heap.size=none:=by
    cases hi:G.imm w.heap.size with
    | none=>rfl
    | some row=>have:=hw.imm_lt hi; omega
  have hnt:G.own B.nt=none:=by
    cases hi:G.own B.nt with
    | none=>rfl
    | some p=>have:=(hw.own B.nt p.1 p.2 hi).1; omega
  have lt:∀ t b n,G.own t=some (b,n)→b < w.heap.size:=fun t b n ho=>by
    obtain ⟨_,_,cs,e',hh,_⟩:=hw.own t b n ho
    exact heap_lt hh
  let G':Gh:={ G with addr:=G.addr++[w.heap.size],own:=fun t=>if t=B.nt then some (w.heap.size,cells.size) else G.own t }
  have hold:∀ t b n,G.own t=some (b,n)→G'.own t=some (b,n):=fun t b n h=>by
    show (if t=B.nt then some (w.heap.size,cells.size) else G.own t)=_
    rw [if_neg (fun he=>by subst he; rw [hnt] at h; cases h)]
    exact h
  have hle:GLe G B.dead G' B.dead:=⟨ImmLe.refl _,List.prefix_append _ _,fun _ h=>h,fun t b n _ h=>⟨hold t b n h,fun _ h=>h⟩⟩
  have hext:Ext G w G' (w.alloc (.cells cells e)):=by
    refine ⟨rfl,rfl,rfl,by simp,fun b hb _ _=>heap_push_lt hb,ImmLe.refl _,fun _ _ _=>rfl,fun b hb=>?_,fun t b n ht=>?_⟩
    · rcases List.mem_append.1 hb with hb | hb
      · exact .inl hb
      · exact .inr (by simp at hb; omega)
    · have ht':(if t=B.nt then some (w.heap.size,cells.size) else G.own t)=some (b,n):=ht
      by_cases htn:t=B.nt
      · rw [if_pos htn] at ht'
        simp only [Option.some.injEq,Prod.mk.injEq] at ht'
        exact .inr (by omega)
      · rw [if_neg htn] at ht'
        exact .inl ⟨t,ht'⟩
  have box:∀ (i:Nat) (c:AVal),(B.box++[AVal.vrow B.nt T xs])[i]?=some c→(i < B.box.length∧B.box[i]?=some c)∨(i=B.box.length∧c=.vrow B.nt T xs):=fun i c h=>by
    by_cases hi:i < B.box.length
    · rw [List.getElem?_append_left hi] at h
      exact .inl ⟨hi,h⟩
    · rw [List.getElem?_append_right (by omega)] at h
      have h2:=(List.getElem?_eq_some_iff.1 h).1
      simp at h2
      have h3:i=B.box.length:=by omega
      subst h3
      simp at h
      exact .inr ⟨rfl,h.symm⟩
  have adr:∀ (i b:Nat),(G.addr++[w.heap.size])[i]?=some b→(i < B.box.length∧G.addr[i]?=some b)∨(i=B.box.length∧b=w.heap.size):=fun i b h=>by
    by_cases hi:i < B.box.length
    · rw [List.getElem?_append_left (by rw [hw.len]; exact hi)] at h
      exact .inl ⟨hi,h⟩
    · rw [List.getElem?_append_right (by rw [hw.len]; omega)] at h
      have h2:=(List.getElem?_eq_some_iff.1 h).1
      rw [hw.len] at h h2
      simp at h2
      have h3:i=B.box.length:=by omega
      subst h3
      simp at h
      exact .inr ⟨rfl,h.symm⟩
  refine ⟨G',leaf_v rfl ⟨w.heap.size,cap,rfl,.inr ⟨by simp [G',hs],hl⟩⟩,⟨by simp [G',Bx.push,hw.len],?_,fun i b c hb hc=>?_,fun b row hb=>?_,fun b hb=>?_,fun t b n ht=>?_,fun t t' b n n' h h'=>?_,hw.tab.ext hext,?_⟩,hle,hext⟩
  · refine List.nodup_append.2 ⟨hw.nodup,by simp,fun a ha b hb=>?_⟩
    have:=hw.addr_lt ha
    simp only [List.mem_singleton] at hb
    omega
  · rcases adr i b hb with ⟨h1,h2⟩ | ⟨h1,rfl⟩<;>rcases box i c hc with ⟨g1,g2⟩ | ⟨g1,rfl⟩
    · have hbo:=hw.boxes i b c h2 g2
      obtain ⟨_,_,hh,_⟩:=id hbo
      exact hbo.mono hle (heap_push_lt (heap_lt hh))
    · omega
    · omega
    · exact ⟨_,[],heap_push_eq,rfl,rfl⟩
  · obtain ⟨cs,e',fr,hh,hp⟩:=hw.imm b row hb
    exact ⟨cs,e',fr,by rw [heap_push_lt (heap_lt hh)]; exact hh,hp⟩
  · rcases List.mem_append.1 hb with hb | hb
    · exact hw.disj b hb
    · simp only [List.mem_singleton] at hb
      subst hb
      exact hno
  · have ht':(if t=B.nt then some (w.heap.size,cells.size) else G.own t)=some (b,n):=ht
    by_cases htn:t=B.nt
    · rw [if_pos htn] at ht'
      simp only [Option.some.injEq,Prod.mk.injEq] at ht'
      obtain ⟨rfl,rfl⟩:=ht'
      refine ⟨by subst htn; exact Nat.lt_succ_self _,.inr ⟨hno,fun i c e1 e2=>?_⟩,cells,e,heap_push_eq,rfl,fun r x hr _=>by rw [show G'.imm w.heap.size=none from hno] at hr; cases hr⟩
      rcases adr i _ e1 with ⟨h1,h2⟩ | ⟨h1,_⟩
      · have:=hw.addr_lt (List.mem_of_getElem? h2)
        omega
      · rcases box i c e2 with ⟨g1,_⟩ | ⟨_,rfl⟩
        · omega
        · rw [htn]; exact isT_self _ _ _
    · rw [if_neg htn] at ht'
      obtain ⟨h1,h2,cs,e',hh,hsz⟩:=hw.own t b n ht'
      refine ⟨Nat.lt_succ_of_lt h1,h2.of rfl fun i c e1 e2=>?_,cs,e',by rw [heap_push_lt (heap_lt hh)]; exact hh,hsz⟩
      rcases adr i b e1 with ⟨g1,g2⟩ | ⟨_,rfl⟩
      · rcases box i c e2 with ⟨_,g4⟩ | ⟨g3,_⟩
        · exact .inr ⟨i,c,g2,g4,fun h=>h⟩
        · omega
      · have:=heap_lt hh
        omega
  · have h1:(if t=B.nt then some (w.heap.size,cells.size) else G.own t)=some (b,n):=h
    have h2:(if t'=B.nt then some (w.heap.size,cells.size) else G.own t')=some (b,n'):=h'
    by_cases a1:t=B.nt<;>by_cases a2:t'=B.nt
    · rw [a1,a2]
    · rw [if_pos a1] at h1; rw [if_neg a2] at h2
      simp only [Option.some.injEq,Prod.mk.injEq] at h1
      have:=lt _ _ _ h2; omega
    · rw [if_neg a1] at h1; rw [if_pos a2] at h2
      simp only [Option.some.injEq,Prod.mk.injEq] at h2
      have:=lt _ _ _ h1; omega
    · rw [if_neg a1] at h1; rw [if_neg a2] at h2
      exact hw.inj t t' b n n' h1 h2
  · intro i t T2 zs hx
    rcases box i _ hx with ⟨g1,g2⟩ | ⟨g1,g2⟩
    · obtain ⟨w1,w2,blk2,n2,c2,e2,w3,w4,w5⟩:=hw.vec i t T2 zs g2
      have htl:=(hw.own t blk2 n2 w3).1
      refine ⟨w1,fun j T' us hj=>?_,blk2,n2,c2,e2,hold _ _ _ w3,by rw [heap_push_lt (heap_lt w4)]; exact w4,w5⟩
      rcases box j _ hj with ⟨_,k2⟩ | ⟨_,k2⟩
      · exact w2 j T' us k2
      · simp only [AVal.vrow.injEq] at k2
        omega
    · simp only [AVal.vrow.injEq] at g2
      obtain ⟨rfl,rfl,g3⟩:=g2
      obtain rfl:=eq_of_heq g3
      refine ⟨hd,fun j T' us hj=>?_,w.heap.size,cells.size,cells,e,by simp [G'],heap_push_eq,by rw [hs]; exact Nat.mul_le_mul_right _ hl,rfl,hno,hr⟩
      rcases box j _ hj with ⟨_,k2⟩ | ⟨k1,_⟩
      · obtain ⟨_,_,b2,n2,_,_,q3,_⟩:=hw.vec j _ T' us k2
        have:=(hw.own _ b2 n2 q3).1
        omega
      · omega
def makeV (P:Program) (ty:TypeId) (x y:AVal) (B:Bx):Option (Bool×AVal×Bx):=
  match x,y with
  | .d (.int _) l,.d (.int _) c=>match P.underlying ty with
    | some (.slice e)=>match dtyT P 6 e,P.info? e with
      | some T,some ti=>match ti.zero with
        | some z=>bif ti.size==T.sz&&eqZs (dz T) z.cells.toList&&decide (ti.bytes≤1024)&&!B.dead.contains B.nt then
            some (decide ((0:Int)≤l)&&decide ((l:Int)≤(LIM:Int))&&decide ((c:Int)=l),.vec B.nt B.box.length T (Int.toNat l),{ B.push (.vrow B.nt T (List.replicate (Int.toNat l) T.dflt)) with nt:=B.nt+1 })
          else none
        | none=>none
      | _,_=>none
    | _=>none
  | _,_=>none
theorem made_at {z:Array Value} {n i:Nat} (hi:i < n):(((madeCells z (n*z.size)).toList.drop (i*z.size)).take z.size)=z.toList:=by
  have hm:(i+1)*z.size≤n*z.size:=Nat.mul_le_mul_right _ hi
  rw [Nat.add_mul,Nat.one_mul] at hm
  apply List.ext_getElem
  · simp [size_madeCells]; omega
  · intro j h1 h2
    have hj:j < z.size:=by simpa using h2
    simp only [List.getElem_take,List.getElem_drop,madeCells,Array.toList_map,List.getElem_map,Array.getElem_toList,Array.getElem_range]
    have:(i*z.size+j) % z.size=j:=by rw [Nat.mul_comm,Nat.mul_add_mod]; exact Nat.mod_eq_of_lt hj
    rw [this,getElem!_pos z j hj]
theorem makeV_sound {P:Program} {o:Oper} {ρ:Operand→AVal} {v:AVal} {ty:TypeId} {x y:Operand} {B B':Bx} (ho:o.op=.makeSlice ty x y) (h:makeV P ty (ρ x) (ρ y) B=some (true,v,B')):OpD P o ρ B v B':=by
  intro G a w ha hw next Q hn
  have hx:=ha x (by rw [ho]; simp [Op.operands])
  have hy:=ha y (by rw [ho]; simp [Op.operands])
  unfold makeV at h
  split at h
  · rename_i kl l kc c hxe hye
    rw [hxe] at hx
    rw [hye] at hy
    have hxv:=int_form hx
    have hyv:=int_form hy
    split at h
    · rename_i e hu
      split at h
      · rename_i T ti hT hti
        split at h
        · rename_i z hz
          cases hb:ti.size==T.sz&&eqZs (dz T) z.cells.toList&&decide (ti.bytes≤1024)&&!B.dead.contains B.nt with
          | false=>rw [hb] at h; cases h
          | true=>
            rw [hb] at h
            simp only [cond_true,Option.some.injEq,Prod.mk.injEq,Bool.and_eq_true,decide_eq_true_eq] at h
            simp only [Bool.and_eq_true,beq_iff_eq,decide_eq_true_eq,Bool.not_eq_true'] at hb
            obtain ⟨⟨⟨hsz,hez⟩,hbytes⟩,hdead⟩:=hb
            obtain ⟨⟨⟨h0,h9⟩,rfl⟩,rfl,rfl⟩:=h
            have hze:=eqZs_eq hez
            have hd:B.nt ∉ B.dead:=fun hm=>by
              rw [List.contains_iff_mem.2 hm] at hdead
              cases hdead
            have hzs:z.cells.size=T.sz:=by
              have:=RD.len (dz_spec G.imm T)
              rw [hze] at this
              simpa using this
            have hL:LIM=68719476736:=rfl
            rw [hL] at h9
            obtain ⟨l0,rfl⟩:∃ n:Nat,c=(n:Int):=⟨Int.toNat c,(Int.toNat_of_nonneg h0).symm⟩
            have h9':(l0:Int)≤68719476736:=h9
            have h0':(0:Int)≤(l0:Int):=h0
            have hrun:=run_make (P:=P) w ty e ti z hu hti hz kl kc (l0:Int) (l0:Int) h0 (Int.le_refl _) (by
              have:ti.bytes*l0≤1024*l0:=Nat.mul_le_mul_right _ hbytes
              have h2:((ti.bytes*l0:Nat):Int)≤((1024*l0:Nat):Int):=Int.ofNat_le.2 this
              rw [Int.natCast_mul,Int.natCast_mul] at h2
              omega) (by omega)
            simp only [Int.toNat_natCast] at hrun
            have hlen:(List.replicate l0 T.dflt).length=l0:=List.length_replicate
            have hrd:∀ q,q=l0→RD G.imm (.arr q T) (List.replicate l0 T.dflt:List T.El) ((madeCells z.cells (l0*ti.size)).toList.take (q*T.sz)):=fun q hq=>by
              subst hq
              rw [hsz,← hzs,List.take_of_length_le (by simp [size_madeCells])]
              refine ⟨by simp,by simp [size_madeCells,hzs],fun i x hx=>?_⟩
              have hi:i < q:=by
                have:=(List.getElem?_eq_some_iff.1 hx).1
                simpa using this
              have hxe:x=T.dflt:=by
                rw [List.getElem?_replicate,if_pos hi] at hx
                exact (Option.some.inj hx).symm
              rw [← hzs,made_at hi,← hze,hxe]
              exact dz_spec G.imm T
            obtain ⟨G',g1,g2,g3,g4⟩:=new_vec (T:=T) (xs:=List.replicate l0 T.dflt) (cells:=madeCells z.cells (l0*ti.size)) (e:=e) (cap:=l0) hw hd (by rw [size_madeCells,hsz]) (by rw [hlen]; exact Nat.le_refl _) (hrd _ hlen)
            rw [hlen] at g1
            refine wp_of_run (v:=.slice (some ⟨w.heap.size,0,none⟩) l0 l0) (w':=w.alloc (.cells (madeCells z.cells (l0*ti.size)) e)) ?_ (hn _ G' _ g1 g2 g3 g4)
            simp only [execOp,ho,hxv,hyv]
            rw [Sem.run_bind,hrun]
            rfl
        · cases h
      · cases h
    · cases h
  · cases h
end Go.Proofs.YtkeipcalbbmncaaGreat.Abs
set_option linter.unusedVariables false
set_option linter.unusedSimpArgs false
namespace Go.Proofs.YtkeipcalbbmncaaGreat.Abs
theorem move_vec {G:Gh} {B:Bx} {w w':World} (hw:WOk G B w) {b t blk n blk' n':Nat} {T:DTy} {xs ys:List T.El} {cells':Array Value} {e:TypeId} (hb:B.box[b]?=some (.vrow t T xs)) (ho:G.own t=some (blk,n)) (hd:B.nt ∉ B.dead)
    (hos:w'.os=w.os) (htape:w'.tape=w.tape) (hout:w'.output=w.output) (hsz:w.heap.size≤w'.heap.size) (hfr:∀ c,c < w.heap.size→c≠blk'→w'.heap[c]?=w.heap[c]?) (hk:(blk'=blk∧n'=n)∨blk'=w.heap.size)
    (hh:w'.heap[blk']?=some (.cells cells' e (0,0))) (hs:cells'.size=n') (hl:ys.length*T.sz≤n') (hr:RD G.imm (.arr ys.length T) ys (cells'.toList.take (ys.length*T.sz))) :
    ∃ G',G'.own B.nt=some (blk',n')∧WOk G' { box:=B.box.set b (.vrow B.nt T ys),dead:=t::B.dead,nt:=B.nt+1 } w'∧GLe G B.dead G' (t::B.dead)∧Ext G w G' w':=by
  obtain ⟨v1,v2,blk0,n0,cells0,e0,v3,v4,v5,v6,v7,v8⟩:=hw.vec b t T xs hb
  rw [ho] at v3
  obtain ⟨rfl,rfl⟩:blk=blk0∧n=n0:=by simpa using v3
  have hbl:b < B.box.length:=(List.getElem?_eq_some_iff.1 hb).1
  have hnt:G.own B.nt=none:=by
    cases hi:G.own B.nt with
    | none=>rfl
    | some p=>have:=(hw.own B.nt p.1 p.2 hi).1; omega
  have htlt:=(hw.own t blk n ho).1
  have htn:t≠B.nt:=by omega
  have lt:∀ u c m,G.own u=some (c,m)→c < w.heap.size:=fun u c m h=>by
    obtain ⟨_,_,cs,e',hh,_⟩:=hw.own u c m h
    exact heap_lt hh
  have himm':G.imm blk'=none:=by
    rcases hk with ⟨rfl,_⟩ | rfl
    · exact v7
    · cases hi:G.imm w.heap.size with
      | none=>rfl
      | some row=>have:=hw.imm_lt hi; omega
  have other:∀ u c m,G.own u=some (c,m)→u≠t→c≠blk':=fun u c m h hne he=>by
    subst he
    rcases hk with ⟨rfl,_⟩ | rfl
    · exact hne (hw.inj u t _ _ _ h ho)
    · have:=lt _ _ _ h; omega
  have name:∀ (j:Nat) (d:AVal),G.addr[j]?=some blk'→B.box[j]?=some d→j=b:=fun j d h1 h2=>by
    rcases hk with ⟨rfl,_⟩ | rfl
    · rcases (hw.own t _ n ho).2.1 with ⟨row,h⟩ | ⟨_,h⟩
      · rw [v7] at h; cases h
      · obtain ⟨T',zs,rfl⟩:=isT_form (h j d h1 h2)
        exact v2 j T' zs h2
    · have:=hw.addr_lt (List.mem_of_getElem? h1); omega
  let G':Gh:={ G with own:=fun u=>if u=B.nt then some (blk',n') else if u=t then none else G.own u }
  have inv:∀ u c m,G'.own u=some (c,m)→(u=B.nt∧c=blk'∧m=n')∨(u≠B.nt∧u≠t∧G.own u=some (c,m)):=fun u c m h=>by
    have h':(if u=B.nt then some (blk',n') else if u=t then none else G.own u)=some (c,m):=h
    by_cases h1:u=B.nt
    · rw [if_pos h1] at h'
      simp only [Option.some.injEq,Prod.mk.injEq] at h'
      exact .inl ⟨h1,h'.1.symm,h'.2.symm⟩
    · rw [if_neg h1] at h'
      by_cases h2:u=t
      · rw [if_pos h2] at h'; cases h'
      · rw [if_neg h2] at h'
        exact .inr ⟨h1,h2,h'⟩
  have hold:∀ u c m,u≠t→G.own u=some (c,m)→G'.own u=some (c,m):=fun u c m h1 h=>by
    show (if u=B.nt then some (blk',n') else if u=t then none else G.own u)=_
    rw [if_neg (fun he=>by subst he; rw [hnt] at h; cases h),if_neg h1]
    exact h
  have hle:GLe G B.dead G' (t::B.dead):=⟨ImmLe.refl _,List.prefix_refl _,fun _ h=>List.mem_cons_of_mem _ h,fun u c m hu h=>⟨hold u c m (fun he=>hu (he ▸ List.mem_cons_self)) h,fun _ h=>h⟩⟩
  have hext:Ext G w G' w':=by
    refine ⟨hos,htape,hout,hsz,fun c hc _ hno=>hfr c hc fun he=>?_,ImmLe.refl _,fun _ _ _=>rfl,fun _ h=>.inl h,fun u c m h=>?_⟩
    · subst he
      rcases hk with ⟨rfl,_⟩ | rfl
      · exact hno t _ ho
      · omega
    · rcases inv u c m h with ⟨_,rfl,rfl⟩ | ⟨_,_,h3⟩
      · rcases hk with ⟨rfl,rfl⟩ | rfl
        · exact .inl ⟨t,ho⟩
        · exact .inr (Nat.le_refl _)
      · exact .inl ⟨u,h3⟩
  have box:∀ (j:Nat) (d:AVal),(B.box.set b (AVal.vrow B.nt T ys))[j]?=some d→(j=b∧d=.vrow B.nt T ys)∨(j≠b∧B.box[j]?=some d):=fun j d h=>by
    simp only [List.getElem?_set] at h
    by_cases hj:b=j
    · subst hj
      simp only [if_true,hbl,Option.some.injEq] at h
      exact .inl ⟨rfl,h.symm⟩
    · simp only [hj,if_false] at h
      exact .inr ⟨Ne.symm hj,h⟩
  have used:∀ (j u:Nat) (T':DTy) (zs:List T'.El),j≠b→B.box[j]?=some (.vrow u T' zs)→u≠t:=fun j u T' zs hj h he=>hj (v2 j T' zs (he ▸ h))
  refine ⟨G',by simp [G'],⟨by simp [G',hw.len],hw.nodup,fun j c d hjc hd2=>?_,fun c row hc=>?_,hw.disj,fun u c m hu=>?_,fun u u' c m m' h h'=>?_,hw.tab.ext hext,?_⟩,hle,hext⟩
  · have hclt:=hw.addr_lt (List.mem_of_getElem? hjc)
    rcases box j d hd2 with ⟨rfl,rfl⟩ | ⟨hne,h2⟩
    · by_cases hcb:c=blk'
      · subst hcb
        exact ⟨_,[],hh,rfl,rfl⟩
      · obtain ⟨o,cs,h1,_⟩:=hw.boxes j c _ hjc hb
        exact ⟨o,[],by rw [hfr c hclt hcb]; exact h1,rfl,rfl⟩
    · have hcb:c≠blk':=fun he=>by subst he; exact hne (name j d hjc h2)
      exact (hw.boxes j c d hjc h2).mono hle (hfr c hclt hcb)
  · have hc':G.imm c=some row:=hc
    have hcb:c≠blk':=fun he=>by subst he; rw [himm'] at hc'; cases hc'
    obtain ⟨cs,e',fr,h1,h2⟩:=hw.imm c row hc'
    exact ⟨cs,e',fr,by rw [hfr c (hw.imm_lt hc') hcb]; exact h1,h2⟩
  · rcases inv u c m hu with ⟨rfl,rfl,rfl⟩ | ⟨h1,h2,h3⟩
    · refine ⟨Nat.lt_succ_self _,.inr ⟨himm',fun j d k1 k2=>?_⟩,cells',e,hh,hs,fun r x hr _=>by rw [show G'.imm c=none from himm'] at hr; cases hr⟩
      rcases box j d k2 with ⟨_,rfl⟩ | ⟨hne,k3⟩
      · exact isT_self _ _ _
      · exact absurd (name j d k1 k3) hne
    · obtain ⟨a1,a2,cs,e',a3,a4⟩:=hw.own u c m h3
      refine ⟨Nat.lt_succ_of_lt a1,?_,cs,e',by rw [hfr c (lt _ _ _ h3) (other u c m h3 h2)]; exact a3,a4⟩
      rcases a2 with ⟨row,a2⟩ | ⟨a5,a6⟩
      · exact .inl ⟨row,a2⟩
      · refine .inr ⟨a5,fun j d k1 k2=>?_⟩
        rcases box j d k2 with ⟨rfl,rfl⟩ | ⟨hne,k3⟩
        · obtain ⟨T',zs,hz⟩:=isT_form (a6 j _ k1 hb)
          simp only [AVal.vrow.injEq] at hz
          exact absurd hz.1.symm h2
        · exact a6 j d k1 k3
  · rcases inv u c m h with ⟨rfl,rfl,rfl⟩ | ⟨h1,h2,h3⟩<;>rcases inv u' _ m' h' with ⟨rfl,k2,k3⟩ | ⟨k1,k2,k3⟩
    · rfl
    · exact absurd rfl (other u' _ m' k3 k2)
    · exact absurd k2 (other u c m h3 h2)
    · exact hw.inj u u' c m m' h3 k3
  · intro j u T2 zs hx
    rcases box j _ hx with ⟨rfl,g2⟩ | ⟨hne,g2⟩
    · simp only [AVal.vrow.injEq] at g2
      obtain ⟨rfl,rfl,g3⟩:=g2
      obtain rfl:=eq_of_heq g3
      refine ⟨fun hm=>?_,fun i T' us hi=>?_,blk',n',cells',e,by simp [G'],hh,hl,hs,himm',hr⟩
      · rcases List.mem_cons.1 hm with h | h
        · exact htn h.symm
        · exact hd h
      · rcases box i _ hi with ⟨k1,_⟩ | ⟨_,k2⟩
        · exact k1
        · obtain ⟨_,_,b2,n2,_,_,q3,_⟩:=hw.vec i _ T' us k2
          rw [hnt] at q3; cases q3
    · have hut:=used j u T2 zs hne g2
      obtain ⟨w1,w2,blk2,n2,c2,e2,w3,w4,w5⟩:=hw.vec j u T2 zs g2
      refine ⟨fun hm=>?_,fun i T' us hi=>?_,blk2,n2,c2,e2,hold _ _ _ hut w3,by rw [hfr blk2 (lt _ _ _ w3) (other u blk2 n2 w3 hut)]; exact w4,w5⟩
      · rcases List.mem_cons.1 hm with h | h
        · exact hut h
        · exact w1 h
      · rcases box i _ hi with ⟨k1,k2⟩ | ⟨_,k2⟩
        · simp only [AVal.vrow.injEq] at k2
          rw [k2.1,hnt] at w3; cases w3
        · exact w2 i T' us k2
theorem arr_app {imm:Nat→Option (List Value)} {T:DTy} {xs ys:List T.El} {xc yc:List Value} (hx:RD imm (.arr xs.length T) xs xc) (hyl:yc.length=ys.length*T.sz) (hy:∀ (i:Nat) (x:T.El),ys[i]?=some x→RD imm T x ((yc.drop (i*T.sz)).take T.sz)):RD imm (.arr (xs++ys).length T) (xs++ys) (xc++yc):=by
  obtain ⟨_,x1,x3⟩:=hx
  refine ⟨rfl,by simp [x1,hyl,Nat.add_mul],fun i x hi=>?_⟩
  rw [List.getElem?_append] at hi
  split at hi
  · rename_i hil
    have hm:=mul_room (s:=T.sz) hil
    rw [take_drop_prefix (List.prefix_append xc yc) (by omega)]
    exact x3 i x hi
  · rename_i hil
    have:((xc++yc).drop (i*T.sz))=yc.drop ((i - xs.length)*T.sz):=by
      have hge:xc.length≤i*T.sz:=by rw [x1]; exact Nat.mul_le_mul_right _ (by omega)
      rw [List.drop_append,List.drop_eq_nil_of_le hge,List.nil_append,x1,Nat.sub_mul]
    rw [this]
    exact hy _ x hi
def appendV (P:Program) (t t2:TypeId) (s x:AVal) (B:Bx):Option (Bool×AVal×Bx):=
  match s with
  | .vec tk b T n=>match P.underlying t with
    | some (.slice e)=>match P.info? e,zeroV P e with
      | some ti,some zs=>bif ti.size==T.sz&&decide (0 < T.sz)&&zs.length==T.sz&&decide (ti.bytes≤1024)&&!B.dead.contains B.nt&&srcT P t2 then
          match B.box[b]? with
          | some (.vrow tk' T' xs)=>if h:T'=T then bif tk'==tk then match srcOf T B x with
              | some ys=>some (decide (n=xs.length)&&decide (xs.length+ys.length≤LIM),.vec B.nt b T (n+ys.length),{ box:=B.box.set b (.vrow B.nt T ((h ▸ xs)++ys)),dead:=tk::B.dead,nt:=B.nt+1 })
              | none=>none else none
            else none
          | _=>none
        else none
      | _,_=>none
    | _=>none
  | _=>none
theorem appendV_sound {P:Program} {o:Oper} {ρ:Operand→AVal} {v:AVal} {c:Call} {t t2:TypeId} {s x:Operand} {B B':Bx} (ho:o.op=.call c) (hcal:c.callee=.builtin .append) (hargs:c.args=#[s,x]) (hty:c.argTypes=#[t,t2])
    (h:appendV P t t2 (ρ s) (ρ x) B=some (true,v,B')):OpD P o ρ B v B':=by
  intro G a w ha hw next Q hn
  have hops:∀ y,y=s∨y=x→y∈o.op.operands:=fun y hy=>by
    rw [ho]
    simp only [Op.operands,Call.operands,hcal,hargs]
    rcases hy with rfl | rfl<;>simp
  have hs:=ha s (hops s (.inl rfl))
  have hx:=ha x (hops x (.inr rfl))
  unfold appendV at h
  split at h
  · rename_i tk b T n hse
    rw [hse] at hs
    split at h
    · rename_i e hu
      split at h
      · rename_i ti zs hti hz
        cases hb:ti.size==T.sz&&decide (0 < T.sz)&&zs.length==T.sz&&decide (ti.bytes≤1024)&&!B.dead.contains B.nt&&srcT P t2 with
        | false=>rw [hb] at h; cases h
        | true=>
          simp only [hb,cond_true] at h
          simp only [Bool.and_eq_true,beq_iff_eq,decide_eq_true_eq,Bool.not_eq_true'] at hb
          obtain ⟨⟨⟨⟨⟨hsz,hpos⟩,hzl⟩,hbytes⟩,hdn⟩,hst2⟩:=hb
          obtain ⟨d2,hu2,hd2⟩:=srcT_spec hst2
          have hdn':B.nt ∉ B.dead:=fun hm=>by rw [List.contains_iff_mem.2 hm] at hdn; cases hdn
          split at h
          · rename_i tk' T' xs hbx
            split at h
            · rename_i hT
              subst hT
              cases htk:tk'==tk with
              | false=>simp [htk] at h
              | true=>
                have htk':tk'=tk:=by simpa using htk
                subst htk'
                simp only [htk,cond_true] at h
                split at h
                · rename_i ys hys
                  simp only [Option.some.injEq,Prod.mk.injEq,Bool.and_eq_true,decide_eq_true_eq] at h
                  obtain ⟨⟨rfl,hlim⟩,rfl,rfl⟩:=h
                  obtain ⟨yc,y1,ylen,y2,y3⟩:=src_cells (P:=P) hw hys hx
                  obtain ⟨blk,caps,hsv,hd⟩:=vec_form hs
                  obtain ⟨v1,v2,blk0,n0,cells,e',v3,v4,v5,v6,v7,v8⟩:=hw.vec b tk' T' xs hbx
                  obtain ⟨ho1,hnc⟩:=hd.resolve_left v1
                  rw [ho1] at v3
                  obtain ⟨rfl,rfl⟩:blk=blk0∧caps*T'.sz=n0:=by simpa using v3
                  have hcl:cells.toList.length=caps*T'.sz:=by simp [v6]
                  let xc:=cells.toList.take (xs.length*T'.sz)
                  have x1:xc.length=xs.length*T'.sz:=by simp only [xc,List.length_take]; omega
                  have x2:∀ (w':World),w'.heap=w.heap→(Builtin.firstCells T'.sz xs.length (.slice (some ⟨blk,0,none⟩) xs.length caps)).run P w'=.ok xc.toArray w':=fun w' hw'=>by
                    simp only [Builtin.firstCells]
                    refine run_loadCells' (fun j hj=>?_) _ (by rw [x1])
                    have hj':j < xs.length*T'.sz:=by rw [x1] at hj; exact hj
                    rw [cell_of_heap (by rw [hw']; exact v4),List.getElem?_take_of_lt hj',Nat.zero_add,← Array.getElem?_toList]
                  have hrow:=arr_app v8 y1 y3
                  have hlen2:xs.length+ys.length≤2^36:=hlim
                  have hrun0:∀ w' r,(Builtin.append_ #[t,t2] o.type #[.slice (some ⟨blk,0,none⟩) xs.length caps,a.eval x]).run P w=.ok r w'→(execOp a.eval o).run P w=.ok (.value r) w':=fun w' r hr=>by
                    simp only [execOp,ho]
                    unfold resolve
                    simp only [hcal,hargs,Sem.run_bind,Sem.run_pure,Result.andThen_ok,invoke,builtin,hty]
                    have:(#[s,x]:Array Operand).map a.eval=#[.slice (some ⟨blk,0,none⟩) xs.length caps,a.eval x]:=by simp [hsv]
                    simp only [this,hr,Result.andThen_ok]
                  obtain ⟨rin,rnew⟩:=run_append (P:=P) (w:=w) (ty:=o.type) (xc:=xc) (yc:=yc) (As:=some ⟨blk,0,none⟩) (n:=xs.length) (m:=ys.length) (cs:=caps) hu hu2 hd2 ylen hti hz hbytes hlen2 (by rw [hsz]; exact x2 _ rfl) (by rw [hsz]; exact y2 _ rfl) (by rw [hsz]; exact y2 _ rfl) (by rw [hsz]; exact x2 _ rfl)
                  have hlt:=heap_lt v4
                  have e3:(xs++ys).length=xs.length+ys.length:=by simp
                  by_cases hfit:xs.length+ys.length≤caps
                  · have hroom:xs.length*T'.sz+yc.length≤cells.toList.length:=by
                      rw [y1,hcl,← Nat.add_mul]
                      exact Nat.mul_le_mul_right _ hfit
                    have hyleaf:∀ v∈yc,leafV v=true:=fun v hv=>by
                      obtain ⟨i,hi,rfl⟩:=List.mem_iff_getElem.1 hv
                      rw [y1] at hi
                      have hq:i / T'.sz < ys.length:=by rw [Nat.div_lt_iff_lt_mul hpos]; exact hi
                      refine RD.leaf (y3 (i / T'.sz) _ (getD_some hq (d:=T'.dflt))) _ (List.mem_iff_getElem.2 ⟨i % T'.sz,?_,?_⟩)
                      · have:=mul_room (s:=T'.sz) hq
                        have:=Nat.mod_lt i hpos
                        simp; omega
                      · simp only [List.getElem_take,List.getElem_drop]
                        congr 1
                        rw [Nat.mul_comm]; exact Nat.div_add_mod i T'.sz
                    have hst:=run_storeCells (P:=P) (b:=blk) (off:=xs.length*T'.sz) (e:=e') yc 0 w cells v4 (by rw [Nat.add_zero]; simpa using hroom) hyleaf
                    rw [Nat.add_zero] at hst
                    have htk2:(putCells cells.toList (xs.length*T'.sz) yc).take ((xs++ys).length*T'.sz)=xc++yc:=by
                      have:(xs++ys).length*T'.sz=(xc++yc).length:=by rw [e3,List.length_append,x1,y1,Nat.add_mul]
                      rw [this]
                      unfold putCells
                      exact List.take_left
                    obtain ⟨G',g0,g1,g2,g3⟩:=move_vec (w':=putRow w blk (putCells cells.toList (xs.length*T'.sz) yc).toArray e') (blk':=blk) (n':=caps*T'.sz) (ys:=xs++ys) (e:=e') hw hbx ho1 hdn' rfl rfl rfl (by simp [putRow_size]) (fun c _ hne=>putRow_other (Ne.symm hne)) (.inl ⟨rfl,rfl⟩) (putRow_same hlt) (by
                      rw [List.size_toArray,putCells_len hroom,hcl]) (by rw [e3]; exact Nat.mul_le_mul_right _ hfit) (by
                      show RD G.imm _ _ ((putCells cells.toList (xs.length*T'.sz) yc).take _)
                      rw [htk2]; exact hrow)
                    refine wp_of_run (hrun0 _ _ (rin hfit _ ?_)) (hn _ G' _ (leaf_v rfl ⟨blk,caps,rfl,.inr ⟨g0,hfit⟩⟩) g1 g2 g3)
                    show (storeCells ((⟨blk,0,none⟩:Addr).add (xs.length*ti.size)) yc).run P w=_
                    rw [addr_add,Nat.zero_add,hsz]
                    exact hst
                  · obtain ⟨cap,hcap,hr⟩:=rnew hfit
                    have hcsz:(xc.toArray++(yc.toArray++Builtin.zeroCells zs.toArray (cap - (xs.length+ys.length)))).size=cap*T'.sz:=by
                      have:(cap - (xs.length+ys.length))+(xs.length+ys.length)=cap:=by omega
                      simp only [Array.size_append,List.size_toArray,zeroCells_len,x1,y1,hzl]
                      rw [← Nat.add_assoc,← Nat.add_mul,← Nat.add_mul]
                      congr 1; omega
                    obtain ⟨G',g0,g1,g2,g3⟩:=move_vec (w':=w.drew.alloc (.cells (xc.toArray++(yc.toArray++Builtin.zeroCells zs.toArray (cap - (xs.length+ys.length)))) e)) (blk':=w.heap.size) (n':=cap*T'.sz) (ys:=xs++ys) (e:=e) hw hbx ho1 hdn' rfl rfl rfl (by simp) (fun c hc _=>heap_push_lt hc) (.inr rfl) heap_push_eq hcsz (by rw [e3]; exact Nat.mul_le_mul_right _ hcap) (by
                      have:(xs++ys).length*T'.sz=(xc++yc).length:=by rw [e3,List.length_append,x1,y1,Nat.add_mul]
                      rw [this]
                      simp only [Array.toList_append,← List.append_assoc]
                      rw [List.take_left]
                      exact hrow)
                    exact wp_of_run (hrun0 _ _ hr) (hn _ G' _ (leaf_v rfl ⟨w.heap.size,cap,rfl,.inr ⟨g0,hcap⟩⟩) g1 g2 g3)
                · cases h
            · cases h
          · cases h
      · cases h
    · cases h
  · cases h
def subV (P:Program) (t:TypeId) (x ix:AVal):Option (Bool×AVal):=
  match x,ix with
  | .vptr tk b T q p,.d (.int _) i=>match P.underlying t with
    | some (.array m e)=>match szT P e with
      | some n=>some (decide (0≤i)&&decide (i < (m:Int)),.vptr tk b T q (p++[.ix i.toNat n m]))
      | none=>none
    | _=>none
  | _,_=>none
theorem subV_sound {P:Program} {o:Oper} {ρ:Operand→AVal} {v:AVal} {t:TypeId} {x ix:Operand} (ho:o.op=.indexAddr t x ix) (h:subV P t (ρ x) (ρ ix)=some (true,v)) (B:Bx):OpD P o ρ B v B:=by
  refine OpD.value (fun G dead a ha=>?_) B
  have hx:=ha x (by rw [ho]; simp [Op.operands])
  have hix:=ha ix (by rw [ho]; simp [Op.operands])
  unfold subV at h
  split at h
  · rename_i tk b T q p k i hxe hie
    rw [hxe] at hx
    rw [hie] at hix
    have hiv:=int_form hix
    split at h
    · rename_i m e hu
      split at h
      · rename_i n hn
        obtain ⟨ti,hti,rfl⟩:=szT_spec hn
        simp only [Option.some.injEq,Prod.mk.injEq,Bool.and_eq_true,decide_eq_true_eq] at h
        obtain ⟨⟨h0,h1⟩,rfl⟩:=h
        obtain ⟨blk,off,hv,hd⟩:=vptr_form hx
        refine ⟨.pointer (some ⟨blk,off+i.toNat*ti.size,none⟩),fun w=>?_,leaf_v rfl ⟨blk,off+i.toNat*ti.size,rfl,?_⟩⟩
        · simp only [execOp,ho,hv,hiv]
          rw [Sem.run_bind,run_indexAt_array hu hti h0 h1]
          rfl
        · rcases hd with hd | ⟨h2,h3,h4⟩
          · exact .inl hd
          · exact .inr ⟨h2,okP_ix _ _ _ _ (toNat_lt' h0 h1) h3,by rw [offP_snoc,h4,Nat.add_assoc]; rfl⟩
      · cases h
    · cases h
  · cases h
def fieldV (P:Program) (s:TypeId) (x:AVal) (f:Nat):Option AVal:=
  match x with
  | .vptr tk b T q p=>match P.underlying s with
    | some (.struct fs)=>match fs[f]? with
      | some fd=>match P.info? fd.type with
        | some ti=>bif ti.size==0 then none else some (.vptr tk b T q (p++[.fld f fd.offset]))
        | none=>none
      | none=>none
    | _=>none
  | _=>none
theorem fieldV_sound {P:Program} {o:Oper} {ρ:Operand→AVal} {v:AVal} {s:TypeId} {x:Operand} {f:Nat} (ho:o.op=.fieldAddr s x f) (h:fieldV P s (ρ x) f=some v) (B:Bx):OpD P o ρ B v B:=by
  refine OpD.value (fun G dead a ha=>?_) B
  have hx:=ha x (by rw [ho]; simp [Op.operands])
  unfold fieldV at h
  split at h
  · rename_i tk b T q p hxe
    rw [hxe] at hx
    split at h
    · rename_i fs hfs
      split at h
      · rename_i fd hfd
        split at h
        · rename_i ti hti
          cases hz:ti.size==0 with
          | true=>simp [hz] at h
          | false=>
            simp only [hz,cond_false,Option.some.injEq] at h
            subst h
            have hz':ti.size≠0:=by simpa using hz
            obtain ⟨blk,off,hv,hd⟩:=vptr_form hx
            refine ⟨.pointer (some ⟨blk,off+fd.offset,none⟩),fun w=>?_,leaf_v rfl ⟨blk,off+fd.offset,rfl,?_⟩⟩
            · simp only [execOp,ho,hv]
              rw [Sem.run_bind,run_fieldAt hfs hfd hti hz',addr_add]
              rfl
            · rcases hd with hd | ⟨h2,h3,h4⟩
              · exact .inl hd
              · exact .inr ⟨h2,okP_fld _ _ _ h3,by rw [offP_snoc,h4,Nat.add_assoc]; rfl⟩
        · cases h
      · cases h
    · cases h
  · cases h
def appendN (P:Program) (t t2:TypeId) (s x:AVal) (B:Bx):Option (Bool×AVal×Bx):=
  match s with
  | .snil=>match P.underlying t with
    | some (.slice e)=>match dtyT P 6 e,P.info? e,zeroV P e with
      | some T,some ti,some zs=>bif ti.size==T.sz&&zs.length==T.sz&&decide (ti.bytes≤1024)&&!B.dead.contains B.nt&&srcT P t2 then
          match srcOf T B x with
          | some ys=>some (decide (0 < ys.length)&&decide (ys.length≤LIM),.vec B.nt B.box.length T ys.length,{ B.push (.vrow B.nt T ys) with nt:=B.nt+1 })
          | none=>none
        else none
      | _,_,_=>none
    | _=>none
  | _=>none
theorem appendN_sound {P:Program} {o:Oper} {ρ:Operand→AVal} {v:AVal} {c:Call} {t t2:TypeId} {s x:Operand} {B B':Bx} (ho:o.op=.call c) (hcal:c.callee=.builtin .append) (hargs:c.args=#[s,x]) (hty:c.argTypes=#[t,t2])
    (h:appendN P t t2 (ρ s) (ρ x) B=some (true,v,B')):OpD P o ρ B v B':=by
  intro G a w ha hw next Q hn
  have hops:∀ y,y=s∨y=x→y∈o.op.operands:=fun y hy=>by
    rw [ho]
    simp only [Op.operands,Call.operands,hcal,hargs]
    rcases hy with rfl | rfl<;>simp
  have hs:=ha s (hops s (.inl rfl))
  have hx:=ha x (hops x (.inr rfl))
  unfold appendN at h
  split at h
  · rename_i hse
    rw [hse] at hs
    split at h
    · rename_i e hu
      split at h
      · rename_i T ti zs hT hti hz
        cases hb:ti.size==T.sz&&zs.length==T.sz&&decide (ti.bytes≤1024)&&!B.dead.contains B.nt&&srcT P t2 with
        | false=>rw [hb] at h; cases h
        | true=>
          simp only [hb,cond_true] at h
          simp only [Bool.and_eq_true,beq_iff_eq,decide_eq_true_eq,Bool.not_eq_true'] at hb
          obtain ⟨⟨⟨⟨hsz,hzl⟩,hbytes⟩,hdn⟩,hst2⟩:=hb
          obtain ⟨d2,hu2,hd2⟩:=srcT_spec hst2
          have hdn':B.nt ∉ B.dead:=fun hm=>by rw [List.contains_iff_mem.2 hm] at hdn; cases hdn
          split at h
          · rename_i ys hys
            simp only [Option.some.injEq,Prod.mk.injEq,Bool.and_eq_true,decide_eq_true_eq] at h
            obtain ⟨⟨hpos,hlim⟩,rfl,rfl⟩:=h
            obtain ⟨yc,y1,ylen,y2,y3⟩:=src_cells (P:=P) hw hys hx
            have hsv:a.eval s=.slice none 0 0:=toV_eq (a:=.snil) rfl hs
            have hlen2:0+ys.length≤2^36:=by have:ys.length≤2^36:=hlim; omega
            have hrun0:∀ w' r,(Builtin.append_ #[t,t2] o.type #[.slice none 0 0,a.eval x]).run P w=.ok r w'→(execOp a.eval o).run P w=.ok (.value r) w':=fun w' r hr=>by
              simp only [execOp,ho]
              unfold resolve
              simp only [hcal,hargs,Sem.run_bind,Sem.run_pure,Result.andThen_ok,invoke,builtin,hty]
              have:(#[s,x]:Array Operand).map a.eval=#[.slice none 0 0,a.eval x]:=by simp [hsv]
              simp only [this,hr,Result.andThen_ok]
            obtain ⟨_,rnew⟩:=run_append (P:=P) (w:=w) (ty:=o.type) (xc:=[]) (yc:=yc) (As:=none) (n:=0) (m:=ys.length) (cs:=0) hu hu2 hd2 ylen hti hz hbytes hlen2 rfl (by rw [hsz]; exact y2 _ rfl) (by rw [hsz]; exact y2 _ rfl) rfl
            obtain ⟨cap,hcap,hr⟩:=rnew (by omega)
            have hwd:=hw.heap (w':=w.drew) rfl
            rw [Nat.zero_add] at hr hcap
            have hcsz:(#[]++(yc.toArray++Builtin.zeroCells zs.toArray (cap - ys.length))).size=cap*T.sz:=by
              have:ys.length+(cap - ys.length)=cap:=by omega
              simp only [Array.size_append,List.size_toArray,zeroCells_len,y1,hzl,Array.size_empty,List.length_nil,Nat.zero_add]
              rw [← Nat.add_mul,this]
            obtain ⟨G',g1,g2,g3,g4⟩:=new_vec (T:=T) (xs:=ys) (cells:=#[]++(yc.toArray++Builtin.zeroCells zs.toArray (cap - ys.length))) (e:=e) (cap:=cap) hwd hdn' hcsz (by omega) (by
              have:ys.length*T.sz=yc.length:=y1.symm
              rw [this]
              simp only [Array.toList_append,List.nil_append]
              rw [List.take_left]
              exact ⟨rfl,y1,y3⟩)
            exact wp_of_run (hrun0 _ _ hr) (hn _ G' _ g1 g2 g3 ((Ext.drew _ _).trans g4))
          · cases h
      · cases h
    · cases h
  · cases h
end Go.Proofs.YtkeipcalbbmncaaGreat.Abs
set_option linter.unusedVariables false
set_option linter.unusedSimpArgs false
namespace Go.Proofs.YtkeipcalbbmncaaGreat.Abs
def strI (xs:List Int):ByteArray:=⟨(xs.map fun n=>UInt8.ofNat n.toNat).toArray⟩
theorem foldl_push (xs:List Int):∀ (s:ByteArray),(xs.foldl (fun r n=>r.push (UInt8.ofNat n.toNat)) s)=⟨s.data++(xs.map fun n=>UInt8.ofNat n.toNat).toArray⟩:=by
  induction xs with
  | nil=>intro s; simp
  | cons x xs ih=>
    intro s
    rw [List.foldl_cons,ih]
    simp [ByteArray.push]
def strA (P:Program) (src dst:TypeId) (x:AVal):Option AVal:=
  match P.underlying src,P.underlying dst with
  | some (.slice e),some .string=>match P.underlying e with
    | some (.int .u8)=>match listOf (.int .u8) x with
      | some xs=>some (.d .str (strI xs))
      | none=>none
    | _=>none
  | some (.int _),some .string=>match x with
    | .d (.int _) n=>some (.d .str (Utf8.encode n))
    | _=>none
  | _,_=>none
theorem bytes_cells {imm:Nat→Option (List Value)}:(xs:List Int)→(yc:List Value)→yc.length=xs.length*1→(∀ (i:Nat) (x:Int),xs[i]?=some x→RD imm (.int .u8) x ((yc.drop (i*1)).take 1))→yc=xs.map (Value.int .u8)
  | [],yc,hl,_=>List.length_eq_zero_iff.1 (by simpa using hl)
  | x::xs,yc,hl,h=>by
    cases yc with
    | nil=>simp at hl
    | cons c yc=>
      have h0:[c]=[.int .u8 x]:=by simpa [RD] using h 0 x rfl
      have hc:c=.int .u8 x:=by simpa using h0
      rw [hc,List.map_cons,← bytes_cells xs yc (by simpa using hl) (fun i y hi=>by
        have:=h (i+1) y (by simpa using hi)
        simpa using this)]
theorem strA_sound {P:Program} {o:Oper} {ρ:Operand→AVal} {v:AVal} {src dst:TypeId} {x:Operand} (ho:o.op=.convert src dst x) (h:strA P src dst (ρ x)=some v) (B:Bx):OpD P o ρ B v B:=by
  intro G a w ha hw next Q hn
  have hx:=ha x (by rw [ho]; simp [Op.operands])
  unfold strA at h
  split at h
  · rename_i e hs hd
    split at h
    · rename_i he
      split at h
      · rename_i xs hxs
        simp only [Option.some.injEq] at h
        subst h
        obtain ⟨A,cap,hv,hr⟩:=listOf_v hxs hx
        obtain ⟨yc,y1,y2,y3,_⟩:=list_cells (P:=P) hw hr
        have hyc:yc=xs.map (Value.int .u8):=bytes_cells xs yc y1 y3
        refine wp_of_run (v:=.string (strI xs)) (w':=w) ?_ (hn _ G w (leaf_v rfl rfl) hw (GLe.refl _ _) (Ext.refl _ _))
        simp only [execOp,ho,hv,Sem.run_bind]
        rw [run_convert_bytes_string w src dst e A xs.length cap (hs) (he) (hd)]
        cases A with
        | none=>
          have hx0:xs=[]:=by
            rcases List.eq_nil_or_concat xs with h0 | ⟨l,y,h0⟩
            · exact h0
            · obtain ⟨A',cap',e',_,hq⟩:=hr
              obtain ⟨b,off,row,e2,_⟩:=hq (by rw [h0]; simp)
              simp only [List.cons.injEq,Value.slice.injEq] at e'
              rw [e2] at e'
              simp at e'
          subst hx0
          rfl
        | some ad=>
          have hl:(loadCells ad xs.length).run P w=.ok (xs.map (Value.int .u8)).toArray w:=by
            have:=y2 0 0 w rfl
            simp only [Builtin.firstCells,DTy.sz,Nat.mul_one] at this
            rw [← hyc]; exact this
          rw [run_bytesToString w ad xs.length cap xs hl]
          simp only [Result.andThen_ok,Sem.run_pure]
          rw [foldl_push]
          simp [strI,ByteArray.empty,ByteArray.emptyWithCapacity]
          rfl
      · cases h
    · cases h
  · rename_i k hs hd
    split at h
    · rename_i k' n hxn
      simp only [Option.some.injEq] at h
      subst h
      rw [hxn] at hx
      have e1:=int_form hx
      refine wp_of_run (v:=.string (Utf8.encode n)) (w':=w) ?_ (hn _ G w (leaf_v rfl rfl) hw (GLe.refl _ _) (Ext.refl _ _))
      simp only [execOp,ho,e1,Sem.run_bind]
      simp [convert,run_underlying hs,run_underlying hd,Conv.intToString]
    · cases h
  · cases h
def sliceP (P:Program) (t:TypeId) (x:AVal) (lo hi mx:Option Operand):Option AVal:=
  match lo,hi,mx with
  | none,none,none=>match P.underlying t with
    | some (.array n e)=>match dtyT P 6 e,szT P e with
      | some T,some m=>bif m==T.sz then (match x with
        | .bptr b p=>some (.bsl b p T n)
        | _=>none) else none
      | _,_=>none
    | _=>none
  | _,_,_=>none
theorem sliceP_sound {P:Program} {o:Oper} {ρ:Operand→AVal} {v:AVal} {t:TypeId} {x:Operand} {lo hi mx:Option Operand} (ho:o.op=.slice t x lo hi mx) (h:sliceP P t (ρ x) lo hi mx=some v) (B:Bx):OpD P o ρ B v B:=by
  refine OpD.value (fun G dead a ha=>?_) B
  have hx:=ha x (by rw [ho]; simp [Op.operands])
  unfold sliceP at h
  split at h
  · split at h
    · rename_i n e hu
      split at h
      · rename_i T m hT hm
        cases hb:m==T.sz with
        | false=>rw [hb] at h; cases h
        | true=>
          simp only [hb,cond_true] at h
          split at h
          · rename_i b p hbp
            simp only [Option.some.injEq] at h
            subst h
            rw [hbp] at hx
            obtain ⟨blk,hblk,hp,hv⟩:=ptr_form hx
            obtain ⟨ti,hti,hsz⟩:=szT_spec hm
            refine ⟨.slice (some ⟨blk,offP p,none⟩) n n,fun w=>?_,leaf_v rfl ⟨blk,hblk,hp,rfl⟩⟩
            simp only [execOp,ho,hv,Option.map_none,Sem.run_bind]
            unfold Instr.sliceAt
            simp only [Sem.run_bind,run_underlying' hu,Result.andThen_ok,Instr.sureAddr,Sem.run_pure,Instr.sliceBounds,run_sizeOf' hti]
            simp [addr_add]
          · cases h
      · cases h
    · cases h
  · cases h
def rangeS (P:Program) (t:TypeId) (x:AVal) (B:Bx):Option (AVal×Bx):=
  match P.underlying t,x with
  | some .string,.d .str s=>some (.bptr B.box.length [],B.push (.siter s 0))
  | _,_=>none
theorem rangeS_sound {P:Program} {o:Oper} {ρ:Operand→AVal} {v:AVal} {t:TypeId} {x:Operand} {B B':Bx} (ho:o.op=.range t x) (h:rangeS P t (ρ x) B=some (v,B')):OpD P o ρ B v B':=by
  intro G a w ha hw next Q hn
  have hx:=ha x (by rw [ho]; simp [Op.operands])
  unfold rangeS at h
  split at h
  · rename_i s hu hs
    simp only [Option.some.injEq,Prod.mk.injEq] at h
    obtain ⟨rfl,rfl⟩:=h
    rw [hs] at hx
    have hv:=str_form hx
    obtain ⟨G',h1,h2,h3,h4⟩:=new_obj (c:=.siter s 0) (o:=.stringIter s 0) (cs:=[]) hw rfl ⟨rfl,rfl⟩ rfl
    refine wp_of_run (v:=.pointer (some ⟨w.heap.size,0,none⟩)) (w':=w.alloc (.stringIter s 0)) ?_ (hn _ G' _ (leaf_v rfl ⟨w.heap.size,h1,trivial,rfl⟩) h2 h3 h4)
    simp only [execOp,ho,hv]
    rw [Sem.run_bind]
    unfold Instr.range
    simp only [Sem.run_bind,run_underlying' hu,Result.andThen_ok,Sem.run_pure]
    rfl
  · cases h
def nextK {X:Type} (x:AVal) (isS:Bool) (B:Bx) (k:AVal→Bx→Option X):Option X:=
  match isS,x with
  | true,.bptr b []=>match B.box[b]? with
    | some (.siter s pos)=>bif decide (pos < ByteArray.size s) then
        k (.tuple (.cons (.d .bool true) (.cons (.d (.int .i64) (pos:Int)) (.cons (.d (.int .i32) ((Utf8.decode s pos).1:Int)) .nil)))) { B with box:=B.box.set b (.siter s (pos+(Utf8.decode s pos).2)) }
      else k (.tuple (.cons (.d .bool false) .nil)) B
    | _=>none
  | _,_=>none
theorem run_next {P:Program} {w:World} {b pos:Nat} {s:ByteArray} {ty:TypeId} (h:w.heap[b]?=some (.stringIter s pos)) :
    (pos < s.size→(Instr.next (.pointer (some ⟨b,0,none⟩)) true ty).run P w=.ok (.tuple #[.bool true,.int .i64 pos,.int .i32 (Utf8.decode s pos).1]) (putO w b (.stringIter s (pos+(Utf8.decode s pos).2))))∧
    (¬ pos < s.size→(Instr.next (.pointer (some ⟨b,0,none⟩)) true ty).run P w=.ok (.tuple #[.bool false]) w):=by
  refine ⟨fun hp=>?_,fun hp=>?_⟩
  · simp only [Instr.next,getObj,setObj,Sem.run_bind,Sem.run,h,Result.andThen,hp,if_true]
    simp [goInt,putO]
  · simp only [Instr.next,getObj,setObj,Sem.run_bind,Sem.run,h,Result.andThen,hp,if_false]
    rfl
theorem nextK_spec {P:Program} {X:Type} {o:Oper} {ρ:Operand→AVal} {x:Operand} {isS:Bool} {B:Bx} {k:AVal→Bx→Option X} {r:X} (ho:o.op=.next x isS) (h:nextK (ρ x) isS B k=some r):∃ v B',k v B'=some r∧OpD P o ρ B v B'∧B.box.length≤B'.box.length:=by
  unfold nextK at h
  split at h
  · rename_i b hb
    split at h
    · rename_i s pos hbox
      by_cases hp:pos < ByteArray.size s
      · simp only [hp,decide_true,cond_true] at h
        refine ⟨_,_,h,fun G a w ha hw next Q hn=>?_,by simp⟩
        have hx:=ha x (by rw [ho]; simp [Op.operands])
        rw [hb] at hx
        obtain ⟨blk,hblk,_,hv⟩:=ptr_form hx
        obtain ⟨ob,cs,hh,⟨rfl,rfl⟩,hc⟩:=hw.boxes b blk _ hblk hbox
        obtain ⟨k1,k2⟩:=upd_obj (c':=.siter s (pos+(Utf8.decode s pos).2)) (o':=.stringIter s (pos+(Utf8.decode s pos).2)) (cs:=[]) hw hblk hbox rfl rfl hh ⟨rfl,rfl⟩ rfl
        refine wp_of_run (v:=.tuple #[.bool true,.int .i64 pos,.int .i32 (Utf8.decode s pos).1]) ?_ (hn _ G _ ?_ k1 (GLe.refl _ _) k2)
        · simp only [execOp,ho,hv,Sem.run_bind]
          show ((Instr.next (.pointer (some ⟨blk,0,none⟩)) true o.type).run P w).andThen _=_
          rw [(run_next hh).1 hp]
          rfl
        · exact leaf_v rfl ⟨_,rfl,_,_,rfl,leaf_v rfl rfl,_,_,rfl,leaf_v rfl rfl,_,_,rfl,leaf_v rfl rfl,rfl⟩
      · simp only [hp,decide_false,cond_false] at h
        refine ⟨_,_,h,fun G a w ha hw next Q hn=>?_,Nat.le_refl _⟩
        have hx:=ha x (by rw [ho]; simp [Op.operands])
        rw [hb] at hx
        obtain ⟨blk,hblk,_,hv⟩:=ptr_form hx
        obtain ⟨ob,cs,hh,⟨rfl,rfl⟩,hc⟩:=hw.boxes b blk _ hblk hbox
        refine wp_of_run (v:=.tuple #[.bool false]) (w':=w) ?_ (hn _ G _ ?_ hw (GLe.refl _ _) (Ext.refl _ _))
        · simp only [execOp,ho,hv,Sem.run_bind]
          show ((Instr.next (.pointer (some ⟨blk,0,none⟩)) true o.type).run P w).andThen _=_
          rw [(run_next hh).2 hp]
          rfl
        · exact leaf_v rfl ⟨_,rfl,_,_,rfl,leaf_v rfl rfl,rfl⟩
    · cases h
  · cases h
end Go.Proofs.YtkeipcalbbmncaaGreat.Abs
set_option linter.unusedVariables false
set_option linter.unusedSimpArgs false
namespace Go.Proofs.YtkeipcalbbmncaaGreat.Abs
def buildSliceV (P:Program) (t:TypeId) (len:Nat) (parts:Array (Nat×Operand)) (ρ:Operand→AVal) (B:Bx):Option (AVal×Bx):=
  match P.underlying t with
  | some (.slice e)=>match dtyT P 6 e,szT P e,zeroV P e with
    | some T,some n,some _=>bif n==T.sz&&parts.toList.length==len&&decide (len*n≤2^24)&&!B.dead.contains B.nt then
        match datasA T ρ parts.toList 0 with
        | some xs=>some (.vec B.nt B.box.length T xs.length,{ B.push (.vrow B.nt T xs) with nt:=B.nt+1 })
        | none=>none
      else none
    | _,_,_=>none
  | _=>none
theorem buildSliceV_push {P:Program} {t:TypeId} {len:Nat} {parts:Array (Nat×Operand)} {ρ:Operand→AVal} {B B':Bx} {v:AVal} (h:buildSliceV P t len parts ρ B=some (v,B')):∃ c,B'.box=B.box++[c]:=by
  unfold buildSliceV at h
  split at h
  · split at h
    · simp only [cond_eq_ite] at h
      split at h
      · split at h
        · simp only [Option.some.injEq,Prod.mk.injEq] at h
          rw [← h.2]
          exact ⟨_,rfl⟩
        · cases h
      · cases h
    · cases h
  · cases h
theorem buildSliceV_sound {P:Program} {o:Oper} {ρ:Operand→AVal} {v:AVal} {t:TypeId} {len:Nat} {parts:Array (Nat×Operand)} {B B':Bx} (ho:o.op=.buildSlice t len parts) (h:buildSliceV P t len parts ρ B=some (v,B')):OpD P o ρ B v B':=by
  intro G a w ha hw next Q hn
  unfold buildSliceV at h
  split at h
  · rename_i e hu
    split at h
    · rename_i T n zs hT hn2 hz
      cases hb:n==T.sz&&parts.toList.length==len&&decide (len*n≤2^24)&&!B.dead.contains B.nt with
      | false=>rw [hb] at h; cases h
      | true=>
        simp only [hb,cond_true] at h
        simp only [Bool.and_eq_true,beq_iff_eq,decide_eq_true_eq,Bool.or_eq_true,Bool.not_eq_true'] at hb
        obtain ⟨⟨⟨rfl,hlen⟩,hbig⟩,hdead⟩:=hb
        have hd:B.nt ∉ B.dead:=fun hm=>by
          rw [List.contains_iff_mem.2 hm] at hdead
          cases hdead
        split at h
        · rename_i xs hxs
          simp only [Option.some.injEq,Prod.mk.injEq] at h
          obtain ⟨rfl,rfl⟩:=h
          obtain ⟨ti,hti,hsz⟩:=szT_spec hn2
          obtain ⟨d1,d2,d3,d4,d5⟩:=datasA_spec (G:=G) (dead:=B.dead) (ev:=a.eval) hxs (fun p hp=>ha p.2 (by
            rw [ho]
            simp only [Op.operands,List.mem_toArray,List.mem_map]
            exact ⟨p,hp,rfl⟩))
          obtain ⟨z,hzr,hzc⟩:=run_zeroValue' hz w
          let init:Array Value:=(Array.range (len*T.sz)).map (fun i=>(if len*T.sz=0 then (#[]:Array Value) else z.cells)[i % (if len*T.sz=0 then (#[]:Array Value) else z.cells).size]!)
          have hinit:init.size=len*T.sz:=by simp [init]
          obtain ⟨out,f1,f2⟩:=fill_seq (size:=T.sz) (parts.toList.map fun p=>a.eval p.2) 0 init d3 (by rw [hinit]; simp [hlen])
          simp only [Nat.zero_mul,List.take_zero,List.nil_append] at f2
          have hol:out.size=xs.length*T.sz:=by
            have:=congrArg List.length f2
            rw [d4] at this
            simpa using this
          have hxl:xs.length=len:=by rw [d1,hlen]
          have htk:out.toList.take (xs.length*T.sz)=out.toList:=List.take_of_length_le (by simp [hol])
          obtain ⟨G',g1,g2,g3,g4⟩:=new_vec (T:=T) (xs:=xs) (cells:=out) (e:=e) (cap:=xs.length) hw hd hol (Nat.le_refl _) (by rw [htk]; exact ⟨rfl,by simp [hol],by rw [f2]; exact d5⟩)
          refine wp_of_run (v:=.slice (some ⟨w.heap.size,0,none⟩) xs.length xs.length) (w':=w.alloc (.cells out e)) ?_ (hn _ G' _ g1 g2 g3 g4)
          simp only [execOp,ho]
          rw [Sem.run_bind]
          unfold Instr.buildSlice
          have hnb:¬ len*T.sz > 2^24:=by omega
          have hparts:(parts.map fun p=>(p.1,a.eval p.2)).toList=(parts.toList.map fun p=>a.eval p.2).zipIdx.map fun p=>(p.2,p.1):=by
            rw [Array.toList_map]
            exact d2
          rw [Sem.run_bind,run_underlying' hu,Result.andThen_ok,Sem.run_bind,run_sizeOf' hti,Result.andThen_ok,hsz,if_neg hnb]
          simp only [pure_bind,Sem.run_bind]
          by_cases h0:len*T.sz=0
          · simp only [h0,if_true,Sem.run_pure,Result.andThen_ok] at f1 ⊢
            simp only [init,h0,if_true] at f1
            simp only [hparts,f1,Sem.run_bind]
            simp only [hxl]
            rfl
          · simp only [h0,if_false,Sem.run_bind,hzr,Sem.run_pure,Result.andThen_ok]
            simp only [init,h0,if_false] at f1
            simp only [hparts,f1,Sem.run_bind]
            simp only [hxl]
            rfl
        · cases h
    · cases h
  · cases h
end Go.Proofs.YtkeipcalbbmncaaGreat.Abs
set_option linter.unusedVariables false
set_option linter.unusedSimpArgs false
namespace Go.Proofs.YtkeipcalbbmncaaGreat.Abs
def idxK (P:Program) {X:Type} (e:TypeId) (n:Nat) (x:AVal) (i:Int) (k:AVal→Option X):Nat→Nat→Option X
  | 0,_=>none
  | r+1,j=>bif decide (i=(j:Int)) then
      match childA x j with
      | some (o,c)=>bif o==j*n&&fitT P e c then k c else none
      | none=>none
    else idxK P e n x i k r (j+1)
theorem idxK_spec {P:Program} {X:Type} {e:TypeId} {n:Nat} {x:AVal} {i:Int} {k:AVal→Option X} {res:X}:{r j:Nat}→idxK P e n x i k r j=some res→
    ∃ (q:Nat) (c:AVal),j≤q∧q < j+r∧i=(q:Int)∧childA x q=some (q*n,c)∧fitT P e c=true∧k c=some res
  | 0,_,h=>by simp [idxK] at h
  | r+1,j,h=>by
    simp only [idxK] at h
    cases hb:decide (i=(j:Int)) with
    | true=>
      simp only [hb,cond_true] at h
      split at h
      · rename_i o c hch
        cases hb2:o==j*n&&fitT P e c with
        | false=>rw [hb2] at h; cases h
        | true=>
          simp only [hb2,cond_true] at h
          simp only [Bool.and_eq_true,beq_iff_eq] at hb2
          obtain ⟨rfl,hf⟩:=hb2
          exact ⟨j,c,Nat.le_refl _,by omega,by simpa using hb,hch,hf,h⟩
      · cases h
    | false=>
      simp only [hb,cond_false] at h
      obtain ⟨q,c,h1,h2,h3⟩:=idxK_spec h
      exact ⟨q,c,by omega,by omega,h3⟩
theorem idx_child_sound {P:Program} {o:Oper} {ρ:Operand→AVal} {t e:TypeId} {x ix:Operand} {m n q:Nat} {kd:IntKind} {c:AVal} (ho:o.op=.index t x ix) (hu:P.underlying t=some (.array m e)) (hn:szT P e=some n) (hagg:(ρ x).agg=true)
    (hi:ρ ix=.d (.int kd) (q:Int)) (hq:q < m) (hch:childA (ρ x) q=some (q*n,c)) (hf:fitT P e c=true) (B:Bx):OpD P o ρ B c B:=by
  refine OpD.value (fun G dead a ha=>?_) B
  have hx:=ha x (by rw [ho]; simp [Op.operands])
  have hix:=ha ix (by rw [ho]; simp [Op.operands])
  rw [hi] at hix
  have e2:=int_form hix
  obtain ⟨ti,hti,hsz,hag⟩:=fitT_spec hf
  obtain ⟨ti',hti',rfl⟩:=szT_spec hn
  rw [hti] at hti'; cases hti'
  obtain ⟨cs,hc,hv | hv⟩:=hx
  · obtain ⟨hle,hr⟩:=childA_spec hch cs hc
    have hrun:∀ (v':Value),(∀ w,(part e cs.toArray (q*ti.size)).run P w=.ok v' w)→∀ w,(execOp a.eval o).run P w=.ok (.value v') w:=by
      intro v' hp w
      simp only [execOp,ho,hv.2,e2,Sem.run_bind]
      unfold Instr.index
      simp only [asIntOf,Sem.run_bind,Sem.run_pure,Result.andThen_ok,run_underlying' hu]
      have h0:(0:Int)≤(q:Int)∧(q:Int) < (m:Int):=by omega
      rw [if_pos h0]
      have:Int.toNat (q:Int)=q:=by simp
      simp only [Sem.run_bind,run_sizeOf' hti,Result.andThen_ok,this,hp w]
    cases hag2:c.agg with
    | true=>
      refine ⟨.agg ((cs.drop (q*ti.size)).take c.size).toArray,hrun _ (fun w=>?_),agg_v hr hag2⟩
      unfold part
      rw [hag2] at hag
      rw [Sem.run_bind,run_isAgg' hag]
      simp only [Result.andThen_ok,if_true,Sem.run_bind,run_sizeOf' hti,Sem.run_pure]
      congr 2
      apply Array.ext'
      simp [List.extract_eq_take_drop,hsz]
    | false=>
      have hl:=Rc.len hr
      have h1:c.size=1:=by
        cases c<;>simp [AVal.agg] at hag2<;>try rfl
        rename_i T y; cases T<;>simp [DTy.agg] at hag2<;>rfl
      have hlt:q*ti.size < cs.length:=by omega
      have hone:(cs.drop (q*ti.size)).take c.size=[cs[q*ti.size]]:=by
        rw [h1,List.drop_eq_getElem_cons hlt]; rfl
      rw [hone] at hr
      refine ⟨cs[q*ti.size],hrun _ (fun w=>?_),leaf_v hag2 hr⟩
      unfold part
      rw [hag2] at hag
      rw [Sem.run_bind,run_isAgg' hag]
      simp [hlt]
  · rw [hagg] at hv; cases hv.1
theorem vals_get {G:Gh} {dead:List Nat}:{az:List AVal}→{vs:List Value}→Vals G dead az vs→∀ {i:Nat} {a:AVal},az[i]?=some a→∃ v,vs[i]?=some v∧Rv G dead a v
  | _,_,.nil,i,a,h=>by simp at h
  | _,_,.cons hv t,0,a,h=>by
    simp only [List.getElem?_cons_zero,Option.some.injEq] at h
    subst h
    exact ⟨_,rfl,hv⟩
  | _,_,.cons hv t,i+1,a,h=>by
    simp only [List.getElem?_cons_succ] at h ⊢
    exact vals_get t h
def scalK (P:Program) {X:Type} (o:Oper) (ρ:Operand→AVal) (B:Bx) (k:AVal→Bx→Option X):Option X:=
  match scalA P o ρ with
  | some v=>k v B
  | none=>none
def condK {X:Type} (r:Option (Bool×AVal)) (B:Bx) (k:AVal→Bx→Option X):Option X:=
  match r with
  | some (c,v)=>bif c then k v B else none
  | none=>none
def nilE (P:Program) (t:TypeId) (y:Operand) (x:AVal):Option Bool:=match y with
  | .const .nilIface=>match P.underlying t with
    | some (.interface _)=>match x with
      | .iface _ _=>some false
      | .inil=>some true
      | _=>none
    | _=>none
  | _=>none
theorem equal_nil1 {P:Program} {t t1:TypeId} {v:Value} {ms:Array (String×TypeId)} (d:Nat) (hu:P.underlying t=some (.interface ms)) (w:World):(Op.equalIn (d+1) t (.iface t1 v) .nilIface).run P w=.ok false w:=by
  unfold Op.equalIn
  simp [Sem.run_bind,run_underlying' hu]
theorem equal_nil2 {P:Program} {t:TypeId} {ms:Array (String×TypeId)} (d:Nat) (hu:P.underlying t=some (.interface ms)) (w:World):(Op.equalIn (d+1) t .nilIface .nilIface).run P w=.ok true w:=by
  unfold Op.equalIn
  simp [Sem.run_bind,run_underlying' hu]
theorem nilE_sound {P:Program} {o:Oper} {ρ:Operand→AVal} {t t':TypeId} {x y:Operand} {b:Bool} (ho:o.op=.binOp .eql t x y t') (h:nilE P t y (ρ x)=some b) (B:Bx):OpD P o ρ B (.d .bool b) B:=by
  refine OpD.value (fun G dead a ha=>?_) B
  have hx:=ha x (by rw [ho]; simp [Op.operands])
  have fin:∀ (v:Value),a.eval x=v→y=.const .nilIface→(∀ w,(eqGuard .eql t x y v .nilIface).run P w=.ok () w)→(∀ w,(binOp .eql t v .nilIface).run P w=.ok (.bool b) w)→∃ cv,(∀ w,(execOp a.eval o).run P w=.ok (.value cv) w)∧Rv G dead (.d .bool b) cv:=fun v e1 e2 h1 h2=>by
    subst e2
    refine ⟨.bool b,fun w=>?_,leaf_v (a:=.d .bool b) rfl rfl⟩
    have e3:a.eval (.const .nilIface)=.nilIface:=rfl
    simp only [execOp,ho,e1,e3,Sem.run_bind,h1,Result.andThen_ok,h2]
    rfl
  unfold nilE at h
  split at h
  · split at h
    · rename_i ms hu
      split at h
      · rename_i t1 v1 hx1
        rw [hx1] at hx
        simp only [Option.some.injEq] at h
        obtain ⟨cs,⟨v',rfl,_⟩,hh | hh⟩:=hx
        · cases hh.1
        · have e:a.eval x=.iface t1 v':=by simpa using hh.2.symm
          refine fin _ e rfl (fun w=>rfl) (fun w=>?_)
          show ((Op.equalIn (9999+1) t (.iface t1 v') .nilIface) >>= fun z=>pure (Value.bool z)).run P w=_
          rw [← h]
          exact (by rw [Sem.run_bind,equal_nil1 9999 hu w]; rfl)
      · rename_i hx1
        rw [hx1] at hx
        simp only [Option.some.injEq] at h
        obtain ⟨cs,hc,hh | hh⟩:=hx
        · cases hh.1
        · have hc':cs=[.nilIface]:=hc
          subst hc'
          have e:a.eval x=.nilIface:=by simpa using hh.2.symm
          refine fin _ e rfl (fun w=>?_) (fun w=>?_)
          · unfold eqGuard
            simp [Sem.run_pure]
          · show ((Op.equalIn (9999+1) t .nilIface .nilIface) >>= fun z=>pure (Value.bool z)).run P w=_
            rw [← h]
            exact (by rw [Sem.run_bind,equal_nil2 9999 hu w]; rfl)
      · cases h
    · cases h
  · cases h
def nvB (C:CalT) (o:Oper):Bool:=match o.dst with
  | some d=>C.nv (1000000+d)
  | none=>false
def nvO (C:CalT) (o:Oper):Bool:=match o.dst with
  | some d=>C.nv (2000000+d)
  | none=>false
def zeroAV (P:Program) (t:TypeId):Option AVal:=match zeroT P 8 t,P.info? t with
  | some c,some i=>match zcells c,i.zero with
    | some cs,some z=>bif eqZs cs z.cells.toList&&aggV z==c.agg&&!c.isM then some c else none
    | _,_=>none
  | _,_=>none
theorem zeroAV_run {P:Program} {t:TypeId} {c:AVal} (h:zeroAV P t=some c) (G:Gh) (dead:List Nat):∃ z,(∀ w,(zeroValue t).run P w=.ok z w)∧Rv G dead c z:=by
  unfold zeroAV at h
  split at h
  · rename_i c' i hc hi
    split at h
    · rename_i cs z hcs hz
      cases hb:eqZs cs z.cells.toList&&aggV z==c'.agg&&!c'.isM with
      | false=>rw [hb] at h; cases h
      | true=>
        rw [hb] at h
        simp only [cond_true,Option.some.injEq] at h
        subst h
        simp only [Bool.and_eq_true,beq_iff_eq] at hb
        have e:=eqZs_eq hb.1.1
        refine ⟨z,fun w=>?_,cs,zcells_rc hcs,?_⟩
        · unfold zeroValue
          rw [Sem.run_bind,run_typeInfo' hi,Result.andThen_ok]
          simp only [hz]
          rfl
        · have hb2:=hb.1.2
          cases hV:c'.agg with
          | true=>
            rw [hV] at hb2
            left
            cases z<;>simp [aggV] at hb2
            rw [e]
            exact ⟨rfl,rfl⟩
          | false=>
            rw [hV] at hb2
            right
            cases z<;>simp [aggV] at hb2<;>exact ⟨rfl,e⟩
    · cases h
  · cases h
def methA (P:Program) (t:TypeId) (name:String):Option FuncId:=match P.info? t with
  | some i=>match i.methods.find? (·.name==name) with
    | some m=>bif m.path.isEmpty then match m.func with
      | some (f,false)=>match P.underlying t with
        | some (.pointer _)=>none
        | some _=>some f
        | none=>none
      | _=>none
      else none
    | none=>none
  | none=>none
theorem run_method {P:Program} {t:TypeId} {name:String} {f:FuncId} (h:methA P t name=some f) (v:Value) (w:World):(method (P.types.size+Made.depth) t v name).run P w=.ok (f,v) w:=by
  unfold methA at h
  split at h
  · rename_i i hi
    split at h
    · rename_i m hm
      cases hp:m.path.isEmpty with
      | false=>rw [hp] at h; cases h
      | true=>
        rw [hp] at h
        simp only [cond_true] at h
        split at h
        · rename_i g hf
          split at h
          · cases h
          · rename_i d hnp hu
            simp only [Option.some.injEq] at h
            subst h
            have hpath:m.path.toList=[]:=by simpa using hp
            have hd:P.types.size+Made.depth=(P.types.size+99)+1:=rfl
            rw [hd]
            unfold method
            simp only [Sem.run_bind,run_typeInfo' hi,Result.andThen_ok,hm,hpath,follow,Sem.run_pure,hf]
            unfold receiverAt
            simp only [Sem.run_bind,run_underlying' hu,Result.andThen_ok]
            cases d<;>first | rfl | exact absurd rfl (hnp _)
          · cases h
        · cases h
    · cases h
  · cases h
theorem acall_inv {P:Program} {o:Oper} {ρ:Operand→AVal} {c:Call} {recv:Operand} {name:String} {f:FuncId} {t:TypeId} {x:AVal} {B B':Bx} {v:AVal} (ho:o.op=.call c) (hcal:c.callee=.invoke recv name) (hf:ρ recv=.iface t x) (hme:methA P t name=some f) (hgy:f≠YLD) (hv:v.isPan=false)
    (hac:ACall P f (x::c.args.toList.map ρ) B v B'):OpD P o ρ B v B':=by
  obtain ⟨hent,hcall⟩:=hac
  replace hent:=(hent.resolve_left hgy).2
  intro G a w ha hw next Q hn r
  have hops:∀ y,y=recv∨y∈c.args.toList→Rv G B.dead (ρ y) (a.eval y):=fun y hy=>ha y (by
    rw [ho]
    simp only [Op.operands,Call.operands,hcal]
    rcases hy with rfl | hy
    · simp
    · simp [Array.mem_toList_iff.1 hy])
  have hfv:=hops recv (.inl rfl)
  rw [hf] at hfv
  obtain ⟨cs,⟨v',rfl,hxv⟩,hh | hh⟩:=hfv
  · cases hh.1
  · have hfe:a.eval recv=.iface t v':=by simpa using hh.2.symm
    have hvals:Vals G B.dead (x::c.args.toList.map ρ) (v'::c.args.toList.map a.eval):=.cons hxv (vals_map (ev:=a.eval) fun y hy=>hops y (.inr hy))
    have hrun:(execOp a.eval o).run P w=.ok (.enter f (v'::c.args.toList.map a.eval).toArray) w:=by
      simp only [execOp,ho]
      unfold resolve
      simp only [hcal,Sem.run_bind,Sem.run_pure,Result.andThen_ok,invoke]
      have e0:(#[a.eval recv]++c.args.map a.eval)[0]?=some (.iface t v'):=by
        rw [Array.getElem?_append_left (by simp)]
        simp [hfe]
      have e1:(#[a.eval recv]++c.args.map a.eval).extract 1 (#[a.eval recv]++c.args.map a.eval).size=c.args.map a.eval:=by
        apply Array.ext'
        simp
        exact List.take_of_length_le (by simp)
      simp only [e0,e1]
      unfold callMethod
      have e2:(Go.program).run P w=.ok P w:=rfl
      simp only [Sem.run_bind,e2,Result.andThen_ok,run_method hme,hent]
      congr 2
      apply Array.ext'
      simp
    refine ⟨fun _ _=>trivial,?_⟩
    have hrun':=semAt_run (r:=(Fr r).round) hrun (fun d=>by simp)
    rw [hrun',Oper.uponIn_enter]
    refine ⟨(fun h=>by cases h),callsIn_wide.2 (((hcall G w _ hvals hw).1 hgy).mono ?_)⟩
    rintro e w' ⟨cv',G',g0,g1,g2,g3,g4⟩
    obtain rfl:=g0.ret hv
    exact hn cv' G' w' g1 g2 g3 g4
def opR (P:Program) (C:CalT) {X:Type} (o:Oper) (ρ:Operand→AVal) (B:Bx) (k:AVal→Bx→Option X):Option X:=
  match o.op with
  | .move x=>k (ρ x) B
  | .assign x=>k (ρ x) B
  | .pick c a b=>match ρ c with
    | .d .bool t=>bif t then k (ρ a) B else k (ρ b) B
    | _=>none
  | .alloc t=>match allocA P t B with
    | some (v,B')=>k v B'
    | none=>none
  | .box _ x=>match boxA (ρ x) B with
    | some (v,B')=>k v B'
    | none=>none
  | .build t parts=>match buildA P t parts ρ with
    | some v=>k v B
    | none=>none
  | .buildSlice t n parts=>bif nvB C o then match buildSliceV P t n parts ρ B with
      | some (v,B')=>k v B'
      | none=>none
    else bif C.dr&&!C.ow then match buildSliceD P t n parts ρ with
      | some v=>k v B
      | none=>none
    else match buildSliceA P t n parts ρ B with
      | some (v,B')=>k v B'
      | none=>none
  | .load t x=>match loadA P t (ρ x) B with
    | some v=>k v B
    | none=>condK (loadV P t (ρ x) B) B k
  | .store t x y=>match storeA P t (ρ x) (ρ y) B with
    | some B'=>k .any B'
    | none=>match storeV P t (ρ x) (ρ y) B with
      | some (c,B')=>bif c then k .any B' else none
      | none=>none
  | .makeSlice t x y=>match makeV P t (ρ x) (ρ y) B with
    | some (c,v,B')=>bif c then k v B' else none
    | none=>none
  | .nilCheck x=>match ρ x with
    | .bptr b p=>k (.bptr b p) B
    | .iptr T v=>k (.iptr T v) B
    | .func (.func f) a b=>k (.func (.func f) a b) B
    | .yref b=>k (.yref b) B
    | .vptr t b T i p=>k (.vptr t b T i p) B
    | _=>none
  | .binOp op t x y _=>match op with
    | .quo=>condK (divA .quo (ρ x) (ρ y)) B k
    | .rem=>condK (divA .rem (ρ x) (ρ y)) B k
    | .shl=>condK (divA .shl (ρ x) (ρ y)) B k
    | .shr=>condK (divA .shr (ρ x) (ρ y)) B k
    | .add=>match catA (ρ x) (ρ y) with
      | some (c,v)=>bif c then k v B else none
      | none=>scalK P o ρ B k
    | .eql=>match eqA P t (ρ x) (ρ y) with
      | some b=>k (.d .bool b) B
      | none=>match nilE P t y (ρ x) with
        | some b=>k (.d .bool b) B
        | none=>scalK P o ρ B k
    | .neq=>match eqA P t (ρ x) (ρ y) with
      | some b=>k (.d .bool (!b)) B
      | none=>scalK P o ρ B k
    | _=>scalK P o ρ B k
  | .unOp _ _ _=>scalK P o ρ B k
  | .convert src dst x=>match strA P src dst (ρ x) with
    | some v=>k v B
    | none=>scalK P o ρ B k
  | .range t x=>match rangeS P t (ρ x) B with
    | some (v,B')=>k v B'
    | none=>none
  | .next x isS=>nextK (ρ x) isS B k
  | .makeFunc fn first cap=>k (.func fn (chain (first.toList.map ρ)) (chain (cap.toList.map ρ))) B
  | .makeInterface t x=>match P.underlying t with
    | some (.interface _)=>none
    | some _=>k (.iface t (ρ x)) B
    | none=>none
  | .typeAssert x _ t ok=>match ok,P.underlying t with
    | true,some (.interface _)=>none
    | true,some _=>match ρ x with
      | .iface t' v=>bif t'==t then k (.tuple (.cons v (.cons (.d .bool true) .nil))) B else match zeroAV P t with
        | some z=>k (.tuple (.cons z (.cons (.d .bool false) .nil))) B
        | none=>none
      | .inil=>match zeroAV P t with
        | some z=>k (.tuple (.cons z (.cons (.d .bool false) .nil))) B
        | none=>none
      | _=>none
    | _,_=>none
  | .slice t x lo hi mx=>bif nvO C o then condK (sliceO P t x lo hi mx ρ) B k else match sliceP P t (ρ x) lo hi mx with
    | some v=>k v B
    | none=>condK (sliceA P t x lo hi mx ρ) B k
  | .fieldAddr s x f=>match fieldAddrA P s (ρ x) f with
    | some v=>k v B
    | none=>match fieldV P s (ρ x) f with
      | some v=>k v B
      | none=>none
  | .field s x f=>match fieldA P s (ρ x) f with
    | some v=>k v B
    | none=>none
  | .indexAddr t x i=>match indexV P t (ρ x) (ρ i) with
    | some (c,v)=>bif c then k v B else none
    | none=>match subV P t (ρ x) (ρ i) with
      | some (c,v)=>bif c then k v B else none
      | none=>condK (indexAddrA P t (ρ x) (ρ i)) B k
  | .index t x i=>match ρ x with
    | .cons h tl=>match ρ i with
      | .d (.int _) j=>match P.underlying t with
        | some (.array m e)=>match szT P e with
          | some n=>idxK P e n (.cons h tl) j (fun c=>k c B) m 0
          | none=>none
        | _=>none
      | _=>none
    | _=>condK (indexA P t (ρ x) (ρ i)) B k
  | .makeMap t none=>match makeMapA P t B with
    | some (v,B')=>k v B'
    | none=>none
  | .lookup t m i ok=>lookupK P t (ρ m) (ρ i) ok B k
  | .mapUpdate t m i x=>match updateA P t (ρ m) (ρ i) (ρ x) B with
    | some B'=>k .any B'
    | none=>none
  | .extract x i=>match ρ x with
    | .tuple vs=>match (unchain vs)[i]? with
      | some v=>k v B
      | none=>none
    | _=>none
  | .call c=>match c.callee with
    | .value f=>callA C (ρ f) (c.args.toList.map ρ) B fun v B'=>bif v.isPan then none else k v B'
    | .invoke recv name=>match ρ recv with
      | .iface t x=>match methA P t name with
        | some f=>bif f==YLD then none else C.run X f (x::c.args.toList.map ρ) B fun v B'=>bif v.isPan then none else k v B'
        | none=>none
      | _=>none
    | .builtin b=>match b with
      | .len=>match c.args,c.argTypes with
        | ⟨[x]⟩,⟨[t]⟩=>match lenA P t (ρ x) with
          | some v=>k v B
          | none=>match lenV P t (ρ x) with
            | some v=>k v B
            | none=>none
        | _,_=>none
      | .append=>match c.args,c.argTypes with
        | ⟨[s,x]⟩,⟨[t,t2]⟩=>match (bif C.nv t then appendN P t t2 (ρ s) (ρ x) B else none) with
          | some (cnd,v,B')=>bif cnd then k v B' else none
          | none=>match appendA P t t2 (ρ s) (ρ x) B with
          | some (cnd,v,B')=>bif cnd then k v B' else none
          | none=>match appendV P t t2 (ρ s) (ρ x) B with
            | some (cnd,v,B')=>bif cnd then k v B' else none
            | none=>none
        | _,_=>none
      | .max=>scalK P o ρ B k
      | .min=>scalK P o ρ B k
      | _=>none
  | _=>none
def isP (C:CalT) (o:Oper):Bool:=match o.op with
  | .buildSlice ..=>C.dr&&!C.ow&&!nvB C o
  | .move _ | .assign _ | .pick .. | .build .. | .nilCheck _ | .binOp .. | .unOp .. | .convert .. | .makeFunc .. | .makeInterface .. | .typeAssert .. | .slice .. | .fieldAddr .. | .field .. | .indexAddr .. | .index .. | .extract ..=>true
  | .call c=>match c.callee with
    | .builtin .len | .builtin .max | .builtin .min=>true
    | _=>false
  | _=>false
def isR (C:CalT) (o:Oper):Bool:=match o.op with
  | .load ..=>true
  | .lookup ..=>true
  | .call c=>match c.callee with
    | .value (.func g)=>C.ro g
    | _=>false
  | _=>false
def isN (C:CalT) (o:Oper):Bool:=match o.op with
  | .buildSlice ..=>!nvB C o
  | _=>false
theorem buildSliceA_sim {P:Program} {t:TypeId} {n:Nat} {parts:Array (Nat×Operand)} {ρ:Operand→AVal} {B B':Bx} {v:AVal} (h:buildSliceA P t n parts ρ B=some (v,B')):Sim B B':=by
  unfold buildSliceA at h
  split at h
  · rename_i e _
    split at h
    · rename_i T n' z _ _ _
      cases hb:n'==T.sz&&parts.toList.length==n&&decide (n*n'≤2^24)&&(!u8F T||e==BYTE) with
      | false=>rw [hb] at h; cases h
      | true=>
        rw [hb] at h
        simp only [cond_true] at h
        split at h
        · simp only [Option.some.injEq,Prod.mk.injEq] at h
          rw [← h.2]
          exact ⟨rfl,rfl⟩
        · cases h
    · cases h
  · cases h
def atP (B:Bx) (b:Nat) (p:List PStep):Option AVal:=match B.box[b]? with
  | some c=>getP c p
  | none=>none
theorem atP_nil (B:Bx) (b:Nat):atP B b []=B.box[b]?:=by
  unfold atP
  cases B.box[b]? with
  | none=>rfl
  | some c=>cases c<;>rfl
theorem loadA_box {P:Program} {t:TypeId} {b:Nat} {p:List PStep} {B B0:Bx} (h:atP B0 b p=atP B b p):loadA P t (.bptr b p) B0=loadA P t (.bptr b p) B:=by
  have key:∀ B:Bx,loadA P t (.bptr b p) B=match atP B b p with
      | some c'=>bif fitT P t c' then some c' else none
      | none=>none:=fun B=>by
    unfold loadA atP
    simp only
    cases B.box[b]? with
    | none=>rfl
    | some c=>rfl
  rw [key,key,h]
theorem loadA_else {P:Program} {t:TypeId} {x:AVal} {B B0:Bx} (h:∀ b p,x≠.bptr b p):loadA P t x B0=loadA P t x B:=by
  unfold loadA
  cases x<;>first | rfl | exact absurd rfl (h _ _)
theorem loadV_box {P:Program} {ty:TypeId} {t b:Nat} {T:DTy} {i:Nat} {p:List PStep} {B B0:Bx} (h:B0.box[b]?=B.box[b]?):loadV P ty (.vptr t b T i p) B0=loadV P ty (.vptr t b T i p) B:=by
  unfold loadV
  simp only [h]
theorem loadV_else {P:Program} {ty:TypeId} {x:AVal} {B B0:Bx} (h:∀ t b T i p,x≠.vptr t b T i p):loadV P ty x B0=loadV P ty x B:=by
  unfold loadV
  cases x<;>first | rfl | exact absurd rfl (h _ _ _ _ _)
def isAny (C:CalT) (o:Oper):Bool:=match o.op with
  | .call c=>match c.callee with
    | .value (.func g)=>C.any g
    | _=>false
  | _=>false
def Same (C:CalT) (o:Oper) (ρ:Operand→AVal) (B B0:Bx):Prop:=match o.op with
  | .load _ x=>(∀ b p,ρ x=.bptr b p→atP B0 b p=atP B b p)∧∀ t b T i p,ρ x=.vptr t b T i p→B0.box[b]?=B.box[b]?
  | .lookup _ m _ _=>∀ b,ρ m=.mref b→B0.box[b]?=B.box[b]?
  | .call c=>isAny C o=true∨SimT (c.args.toList.map ρ) B B0
  | _=>isAny C o=true∨Sim B B0
def touches (o:Oper) (ρ:Operand→AVal) (n0 b:Nat) (q:List PStep):Bool:=match o.op with
  | .store _ x _=>match ρ x with
    | .bptr c p=>c==b&&!parted p q
    | _=>true
  | .alloc _=>!decide (b < n0)
  | .box _ _=>!decide (b < n0)
  | .makeMap _ _=>!decide (b < n0)
  | .makeSlice _ _ _=>!decide (b < n0)
  | .lookup _ _ _ _=>false
  | .buildSlice _ _ _=>!decide (b < n0)
  | .call c=>match c.callee with
    | .builtin .append=>match c.args with
      | ⟨[s,_]⟩=>match ρ s with
        | .vec _ _ _ _=>true
        | .snil=>!decide (b < n0)
        | _=>false
      | _=>true
    | .value (.func g)=>bif kpF g then !decide (b < n0)||argK g (c.args.toList.map ρ) b else true
    | _=>true
  | _=>true
structure Eff (o:Oper) (ρ:Operand→AVal) (B B':Bx):Prop where
  len:B.box.length≤B'.box.length
  keep:∀ n0 b q,n0≤B.box.length→touches o ρ n0 b q=false→atP B' b q=atP B b q
theorem Eff.refl (o:Oper) (ρ:Operand→AVal) (B:Bx):Eff o ρ B B:=⟨Nat.le_refl _,fun _ _ _ _ _=>rfl⟩
theorem Eff.box {o:Oper} {ρ:Operand→AVal} {B B':Bx} (h:B'.box=B.box):Eff o ρ B B':=⟨by rw [h]; exact Nat.le_refl _,fun _ _ _ _ _=>by unfold atP; rw [h]⟩
theorem Eff.push {o:Oper} {ρ:Operand→AVal} {B B':Bx} {c:AVal} (h:B'.box=B.box++[c]) (ht:∀ n0 b q,touches o ρ n0 b q=false→b < n0):Eff o ρ B B':=
  ⟨by rw [h]; simp,fun n0 b q hn hb=>by unfold atP; rw [h,List.getElem?_append_left (Nat.lt_of_lt_of_le (ht n0 b q hb) hn)]⟩
theorem allocA_eff {P:Program} {o:Oper} {ρ:Operand→AVal} {t:TypeId} {B B':Bx} {v:AVal} (ho:o.op=.alloc t) (h:allocA P t B=some (v,B')):Eff o ρ B B':=by
  unfold allocA at h
  split at h
  · rename_i c hc
    split at h
    · rename_i cs zs _ _
      cases hb:eqZs cs zs&&!c.isM with
      | false=>rw [hb] at h; cases h
      | true=>
        rw [hb] at h
        simp only [cond_true,Option.some.injEq,Prod.mk.injEq] at h
        rw [← h.2]
        exact Eff.push rfl fun n0 b q hb=>by simpa [touches,ho] using hb
    · cases h
  · cases h
theorem boxA_eff {P:Program} {o:Oper} {ρ:Operand→AVal} {t:TypeId} {y:Operand} {x:AVal} {B B':Bx} {v:AVal} (ho:o.op=.box t y) (h:boxA x B=some (v,B')):Eff o ρ B B':=by
  unfold boxA at h
  cases hb:x.plain with
  | false=>rw [hb] at h; cases h
  | true=>
    rw [hb] at h
    simp only [cond_true,Option.some.injEq,Prod.mk.injEq] at h
    rw [← h.2]
    exact Eff.push rfl fun n0 b q hb=>by simpa [touches,ho] using hb
theorem makeMapA_eff {P:Program} {o:Oper} {ρ:Operand→AVal} {t:TypeId} {B B':Bx} {v:AVal} (ho:o.op=.makeMap t none) (h:makeMapA P t B=some (v,B')):Eff o ρ B B':=by
  unfold makeMapA at h
  split at h
  · split at h
    · simp only [Option.some.injEq,Prod.mk.injEq] at h
      rw [← h.2]
      exact Eff.push rfl fun n0 b q hb=>by simpa [touches,ho] using hb
    · cases h
  · cases h
theorem storeA_eff {P:Program} {o:Oper} {ρ:Operand→AVal} {t:TypeId} {x y:Operand} {B B':Bx} (ho:o.op=.store t x y) (h:storeA P t (ρ x) (ρ y) B=some B'):Eff o ρ B B':=by
  unfold storeA at h
  split at h
  · rename_i b p hx
    split at h
    · rename_i c hc
      split at h
      · rename_i n hn
        cases hb:(ρ y).plain&&n==(ρ y).size with
        | false=>rw [hb] at h; cases h
        | true=>
          rw [hb] at h
          simp only [cond_true] at h
          split at h
          · rename_i c' hc'
            cases hm:sameK c c' with
            | false=>rw [hm] at h; cases h
            | true=>
              rw [hm] at h
              simp only [cond_true,Option.some.injEq] at h
              subst h
              refine ⟨by simp,fun n0 b' q _ hb=>?_⟩
              unfold atP
              show (match (B.box.set b c')[b']? with | some c=>getP c q | none=>none)=_
              by_cases hne:b=b'
              · subst hne
                have hpq:parted p q=true:=by simpa [touches,ho,hx] using hb
                rw [List.getElem?_set_self (List.getElem?_eq_some_iff.1 hc).1,hc]
                exact getP_setP hc' hpq
              · rw [List.getElem?_set_ne hne]
          · cases h
      · cases h
    · cases h
  · cases h
theorem storeV_eff {P:Program} {o:Oper} {ρ:Operand→AVal} {t:TypeId} {x y:Operand} {B B':Bx} {c:Bool} (ho:o.op=.store t x y) (h:storeV P t (ρ x) (ρ y) B=some (c,B')):Eff o ρ B B':=by
  unfold storeV at h
  split at h
  · rename_i tk b T i p hx
    have hk:∀ n0 b' q,touches o ρ n0 b' q=false→False:=fun n0 b' q hb=>by simp [touches,ho,hx] at hb
    split at h
    · rename_i t' T' xs hb
      split at h
      · rename_i hT
        subst hT
        cases ht:t'==tk with
        | false=>simp [ht] at h
        | true=>
          simp only [ht,cond_true] at h
          split at h
          · rename_i m hm
            cases hb2:(ρ y).plain&&m==(ρ y).size with
            | false=>simp [hb2] at h
            | true=>
              simp only [hb2,cond_true] at h
              split at h
              · split at h
                · simp only [Option.some.injEq,Prod.mk.injEq] at h
                  rw [← h.2]
                  exact ⟨by simp,fun n0 b' q _ hb=>(hk n0 b' q hb).elim⟩
                · cases h
              · cases h
          · cases h
      · cases h
    · cases h
  · cases h
theorem makeV_eff {P:Program} {o:Oper} {ρ:Operand→AVal} {t:TypeId} {x y:Operand} {B B':Bx} {c:Bool} {v:AVal} (ho:o.op=.makeSlice t x y) (h:makeV P t (ρ x) (ρ y) B=some (c,v,B')):Eff o ρ B B':=by
  unfold makeV at h
  split at h
  · split at h
    · split at h
      · split at h
        · rename_i T ti _ _ z _
          simp only [cond_eq_ite] at h
          split at h
          · simp only [Option.some.injEq,Prod.mk.injEq] at h
            rw [← h.2.2]
            exact Eff.push rfl fun n0 b q hb=>by simpa [touches,ho] using hb
          · cases h
        · cases h
      · cases h
    · cases h
  · cases h
theorem appendA_eff {P:Program} {o:Oper} {ρ:Operand→AVal} {t t2:TypeId} {s x:AVal} {B B':Bx} {c:Bool} {v:AVal} (h:appendA P t t2 s x B=some (c,v,B')):Eff o ρ B B':=by
  unfold appendA at h
  split at h
  · rename_i e _
    split at h
    · rename_i T ti zs _ _ _
      cases hb:ti.size==T.sz&&decide (0 < T.sz)&&zs.length==T.sz&&decide (ti.bytes≤1024)&&srcT P t2&&(!u8F T||e==BYTE) with
      | false=>rw [hb] at h; cases h
      | true=>
        rw [hb] at h
        simp only [cond_true] at h
        split at h
        · rename_i k xs ys _ _
          cases hnv:noVec B k with
          | false=>rw [hnv] at h; cases h
          | true=>
            simp only [hnv,cond_true,Option.some.injEq,Prod.mk.injEq] at h
            rw [← h.2.2]
            exact Eff.box rfl
        · cases h
    · cases h
  · cases h
theorem appendV_eff {P:Program} {o:Oper} {ρ:Operand→AVal} {cl:Call} {t t2:TypeId} {s x:Operand} {B B':Bx} {c:Bool} {v:AVal} (ho:o.op=.call cl) (hcal:cl.callee=.builtin .append) (hargs:cl.args=#[s,x]) (h:appendV P t t2 (ρ s) (ρ x) B=some (c,v,B')):Eff o ρ B B':=by
  unfold appendV at h
  split at h
  · rename_i tk b T n hse
    have hk:∀ n0 b' q,touches o ρ n0 b' q=false→False:=fun n0 b' q hb=>by simp [touches,ho,hcal,hargs,hse] at hb
    split at h
    · split at h
      · simp only [cond_eq_ite] at h
        split at h
        · split at h
          · split at h
            · rename_i hT
              subst hT
              split at h
              · split at h
                · simp only [Option.some.injEq,Prod.mk.injEq] at h
                  rw [← h.2.2]
                  exact ⟨by simp,fun n0 b' q _ hb=>(hk n0 b' q hb).elim⟩
                · cases h
              · cases h
            · cases h
          · cases h
        · cases h
      · cases h
    · cases h
  · cases h
theorem appendN_eff {P:Program} {o:Oper} {ρ:Operand→AVal} {cl:Call} {t t2:TypeId} {s x:Operand} {B B':Bx} {c:Bool} {v:AVal} (ho:o.op=.call cl) (hcal:cl.callee=.builtin .append) (hargs:cl.args=#[s,x]) (h:appendN P t t2 (ρ s) (ρ x) B=some (c,v,B')):Eff o ρ B B':=by
  unfold appendN at h
  split at h
  · rename_i hse
    split at h
    · split at h
      · simp only [cond_eq_ite] at h
        split at h
        · split at h
          · simp only [Option.some.injEq,Prod.mk.injEq] at h
            rw [← h.2.2]
            refine Eff.push rfl fun n0 b q hb=>?_
            simpa [touches,ho,hcal,hargs,hse] using hb
          · cases h
        · cases h
      · cases h
    · cases h
  · cases h
theorem updateA_eff {P:Program} {o:Oper} {ρ:Operand→AVal} {t:TypeId} {m i x:Operand} {B B':Bx} (ho:o.op=.mapUpdate t m i x) (h:updateA P t (ρ m) (ρ i) (ρ x) B=some B'):Eff o ρ B B':=by
  refine ⟨?_,fun n0 b q _ hb=>by simp [touches,ho] at hb⟩
  unfold updateA at h
  split at h
  · rename_i b K V xs hm
    split at h
    · rename_i kt vt ht
      split at h
      · rename_i kd vd hk hv
        cases hb:eqT P 100 kt K&&(ρ i).plain&&(ρ x).plain with
        | false=>rw [hb] at h; cases h
        | true=>
          rw [hb] at h
          simp only [cond_true,Option.some.injEq] at h
          subst h
          simp
      · cases h
    · cases h
  · cases h
structure OpQ (P:Program) (C:CalT) (o:Oper) (ρ:Operand→AVal) (B:Bx) (v:AVal) (B':Bx):Prop where
  op:OpD P o ρ B v B'
  p:isP C o=true→B'=B∧∀ B0,OpD P o ρ B0 v B0
  r:isR C o=true→B'=B∧∀ B0,Same C o ρ B B0→OpD P o ρ B0 v B0
  n:isN C o=true→Sim B B'
  eff:Eff o ρ B B'
theorem scalK_spec {P:Program} {X:Type} {o:Oper} {ρ:Operand→AVal} {B:Bx} {k:AVal→Bx→Option X} {r:X} (h:scalK P o ρ B k=some r):∃ v,k v B=some r∧∀ B0,OpD P o ρ B0 v B0:=by
  unfold scalK at h
  split at h
  · rename_i v hv
    exact ⟨v,h,fun B0=>scalA_sound hv B0⟩
  · cases h
theorem condK_spec {X:Type} {q:Option (Bool×AVal)} {B:Bx} {k:AVal→Bx→Option X} {r:X} (h:condK q B k=some r):∃ v,q=some (true,v)∧k v B=some r:=by
  unfold condK at h
  split at h
  · rename_i c v
    cases c with
    | true=>exact ⟨v,rfl,h⟩
    | false=>cases h
  · cases h
theorem opR_sound {P:Program} {C:CalT} {X:Type} {o:Oper} {ρ:Operand→AVal} {B:Bx} {k:AVal→Bx→Option X} {r:X} (hC:CV P C) (hρ:∀ f,ρ (.func f)=.func (.func f) .nil .nil) (h:opR P C o ρ B k=some r) :
    ∃ v B',k v B'=some r∧OpQ P C o ρ B v B':=by
  have pure:∀ v,k v B=some r→(∀ B0,OpD P o ρ B0 v B0)→∃ v B',k v B'=some r∧OpQ P C o ρ B v B':=
    fun v h1 h2=>⟨v,B,h1,h2 B,fun _=>⟨rfl,h2⟩,fun _=>⟨rfl,fun B0 _=>h2 B0⟩,fun _=>Sim.refl _,Eff.refl _ _ _⟩
  have changeN:∀ v B',isP C o=false→isR C o=false→(isN C o=true→Sim B B')→Eff o ρ B B'→k v B'=some r→OpD P o ρ B v B'→∃ v B',k v B'=some r∧OpQ P C o ρ B v B':=
    fun v B' h1 h2 h5 h6 h3 h4=>⟨v,B',h3,h4,(fun h=>by rw [h1] at h; cases h),(fun h=>by rw [h2] at h; cases h),h5,h6⟩
  have change:∀ v B',isP C o=false∧isN C o=false→isR C o=false→Eff o ρ B B'→k v B'=some r→OpD P o ρ B v B'→∃ v B',k v B'=some r∧OpQ P C o ρ B v B':=
    fun v B' h1 h2 h6 h3 h4=>changeN v B' h1.1 h2 (fun h=>by rw [h1.2] at h; cases h) h6 h3 h4
  have scal:scalK P o ρ B k=some r→∃ v B',k v B'=some r∧OpQ P C o ρ B v B':=fun h=>by
    obtain ⟨v,h1,h2⟩:=scalK_spec h
    exact pure v h1 h2
  unfold opR at h
  split at h
  · rename_i x ho
    exact pure _ h fun B0=>OpD.value (fun G dead a ha=>⟨a.eval x,fun w=>by simp only [execOp,ho]; rfl,ha x (by rw [ho]; simp [Op.operands])⟩) B0
  · rename_i x ho
    exact pure _ h fun B0=>OpD.value (fun G dead a ha=>⟨a.eval x,fun w=>by simp only [execOp,ho]; rfl,ha x (by rw [ho]; simp [Op.operands])⟩) B0
  · rename_i c x y ho
    split at h
    · rename_i t ht
      cases t with
      | true=>
        refine pure _ h fun B0=>OpD.value (fun G dead a ha=>⟨a.eval x,fun w=>?_,ha x (by rw [ho]; simp [Op.operands])⟩) B0
        have hc:=ha c (by rw [ho]; simp [Op.operands])
        rw [ht] at hc
        simp only [execOp,ho,bool_form hc,asBool,Sem.run_bind,Sem.run_pure,Result.andThen_ok,if_true]
      | false=>
        refine pure _ h fun B0=>OpD.value (fun G dead a ha=>⟨a.eval y,fun w=>?_,ha y (by rw [ho]; simp [Op.operands])⟩) B0
        have hc:=ha c (by rw [ho]; simp [Op.operands])
        rw [ht] at hc
        simp only [execOp,ho,bool_form hc,asBool,Sem.run_bind,Sem.run_pure,Result.andThen_ok,Bool.false_eq_true,if_false]
    · cases h
  · rename_i t ho
    split at h
    · rename_i v B' hv
      exact change v B' (by simp [isP,isN,ho]) (by simp [isR,ho]) (allocA_eff ho hv) h (allocA_sound ho hv)
    · cases h
  · rename_i t x ho
    split at h
    · rename_i v B' hv
      exact change v B' (by simp [isP,isN,ho]) (by simp [isR,ho]) (boxA_eff (P:=P) ho hv) h (boxA_sound ho hv)
    · cases h
  · rename_i t parts ho
    split at h
    · rename_i v hv
      exact pure v h fun B0=>buildA_sound ho hv B0
    · cases h
  · rename_i t n parts ho
    cases hnv:nvB C o with
    | true=>
      rw [hnv] at h
      simp only [cond_true] at h
      split at h
      · rename_i v B' hv
        obtain ⟨c,hc⟩:=buildSliceV_push hv
        exact change v B' (by simp [isP,isN,ho,hnv]) (by simp [isR,ho]) (Eff.push hc fun n0 b q hb=>by simpa [touches,ho] using hb) h (buildSliceV_sound ho hv)
      · cases h
    | false=>
    rw [hnv] at h
    simp only [cond_false] at h
    cases hd:C.dr&&!C.ow with
    | true=>
      rw [hd] at h
      simp only [cond_true] at h
      split at h
      · rename_i v hv
        exact pure v h fun B0=>buildSliceD_sound ho hv B0
      · cases h
    | false=>
      rw [hd] at h
      simp only [cond_false] at h
      split at h
      · rename_i v B' hv
        exact changeN v B' (by simp [isP,ho,hd,hnv]) (by simp [isR,ho]) (fun _=>buildSliceA_sim hv) (Eff.box (buildSliceA_sim hv).1) h (buildSliceA_sound ho hv)
      · cases h
  · rename_i t x ho
    split at h
    · rename_i v hv
      refine ⟨v,B,h,loadA_sound ho hv,(fun hp=>by simp [isP,ho] at hp),(fun _=>⟨rfl,fun B0 hs=>?_⟩),(fun hp=>by simp [isN,ho] at hp),Eff.refl _ _ _⟩
      have hs':∀ b p,ρ x=.bptr b p→atP B0 b p=atP B b p:=by unfold Same at hs; rw [ho] at hs; exact hs.1
      refine loadA_sound ho (Eq.trans ?_ hv)
      cases hx:ρ x with
      | bptr b p=>exact loadA_box (hs' b p hx)
      | _=>exact loadA_else (fun b p=>by simp)
    · obtain ⟨v,hv,h2⟩:=condK_spec h
      refine ⟨v,B,h2,loadV_sound ho hv,(fun hp=>by simp [isP,ho] at hp),(fun _=>⟨rfl,fun B0 hs=>?_⟩),(fun hp=>by simp [isN,ho] at hp),Eff.refl _ _ _⟩
      have hs':∀ t b T i p,ρ x=.vptr t b T i p→B0.box[b]?=B.box[b]?:=by unfold Same at hs; rw [ho] at hs; exact hs.2
      refine loadV_sound ho (Eq.trans ?_ hv)
      cases hx:ρ x with
      | vptr t b T i p=>exact loadV_box (hs' t b T i p hx)
      | _=>exact loadV_else (fun _ _ _ _ _=>by simp)
  · rename_i t x y ho
    split at h
    · rename_i B' hv
      exact change .any B' (by simp [isP,isN,ho]) (by simp [isR,ho]) (storeA_eff ho hv) h (storeA_sound ho hv)
    · split at h
      · rename_i c B' hv
        cases c with
        | true=>exact change .any B' (by simp [isP,isN,ho]) (by simp [isR,ho]) (storeV_eff ho hv) h (storeV_sound ho hv)
        | false=>cases h
      · cases h
  · rename_i t x y ho
    split at h
    · rename_i c v B' hv
      cases c with
      | true=>exact change v B' (by simp [isP,isN,ho]) (by simp [isR,ho]) (makeV_eff ho hv) h (makeV_sound ho hv)
      | false=>cases h
    · cases h
  · rename_i x ho
    have hmem:x∈o.op.operands:=by rw [ho]; simp [Op.operands]
    split at h
    · rename_i b p hx
      refine pure _ h fun B0=>OpD.value (fun G dead a ha=>?_) B0
      have hv:=ha x hmem
      rw [hx] at hv
      obtain ⟨blk,_,_,e⟩:=ptr_form hv
      exact ⟨a.eval x,fun w=>by simp only [execOp,ho,e]; rfl,hv⟩
    · rename_i T y hx
      refine pure _ h fun B0=>OpD.value (fun G dead a ha=>?_) B0
      have hv:=ha x hmem
      rw [hx] at hv
      obtain ⟨b,off,row,e,_⟩:=iptr_form hv
      exact ⟨a.eval x,fun w=>by simp only [execOp,ho,e]; rfl,hv⟩
    · rename_i f a1 b1 hx
      refine pure _ h fun B0=>OpD.value (fun G dead a ha=>?_) B0
      have hv:=ha x hmem
      rw [hx] at hv
      have hv0:=hv
      obtain ⟨cs,⟨fv,cv,rfl,_⟩,hh | hh⟩:=hv0
      · cases hh.1
      · have e:a.eval x=.func (.func f) fv.toArray cv.toArray:=by simpa using hh.2.symm
        exact ⟨a.eval x,fun w=>by simp only [execOp,ho,e]; rfl,hv⟩
    · rename_i b hx
      refine pure _ h fun B0=>OpD.value (fun G dead a ha=>?_) B0
      have hv:=ha x hmem
      rw [hx] at hv
      have hv0:=hv
      obtain ⟨cs,⟨blk,_,rfl⟩,hh | hh⟩:=hv0
      · cases hh.1
      · have e:a.eval x=.func (.yield blk) #[] #[]:=by simpa using hh.2.symm
        exact ⟨a.eval x,fun w=>by simp only [execOp,ho,e]; rfl,hv⟩
    · rename_i tk b T i p hx
      refine pure _ h fun B0=>OpD.value (fun G dead a ha=>?_) B0
      have hv:=ha x hmem
      rw [hx] at hv
      obtain ⟨blk,off,e,_⟩:=vptr_form hv
      exact ⟨a.eval x,fun w=>by simp only [execOp,ho,e]; rfl,hv⟩
    · cases h
  · rename_i op t x y yt ho
    split at h
    · obtain ⟨v,h1,h2⟩:=condK_spec h; exact pure v h2 fun B0=>divA_sound ho h1 B0
    · obtain ⟨v,h1,h2⟩:=condK_spec h; exact pure v h2 fun B0=>divA_sound ho h1 B0
    · obtain ⟨v,h1,h2⟩:=condK_spec h; exact pure v h2 fun B0=>divA_sound ho h1 B0
    · obtain ⟨v,h1,h2⟩:=condK_spec h; exact pure v h2 fun B0=>divA_sound ho h1 B0
    · split at h
      · rename_i c v hc
        cases c with
        | true=>exact pure v h fun B0=>catA_sound ho hc B0
        | false=>cases h
      · exact scal h
    · split at h
      · rename_i b hb
        exact pure _ h fun B0=>eqA_sound ho (.inl rfl) hb B0
      · split at h
        · rename_i b hb
          exact pure _ h fun B0=>nilE_sound ho hb B0
        · exact scal h
    · split at h
      · rename_i b hb
        exact pure _ h fun B0=>eqA_sound ho (.inr rfl) hb B0
      · exact scal h
    · exact scal h
  · exact scal h
  · rename_i src dst x ho
    split at h
    · rename_i v hv
      exact pure v h fun B0=>strA_sound ho hv B0
    · exact scal h
  · rename_i t x ho
    split at h
    · rename_i v B' hv
      refine change v B' (by simp [isP,isN,ho]) (by simp [isR,ho]) ⟨?_,fun n0 b q _ hb=>by simp [touches,ho] at hb⟩ h (rangeS_sound ho hv)
      unfold rangeS at hv
      split at hv
      · simp only [Option.some.injEq,Prod.mk.injEq] at hv
        rw [← hv.2]
        simp [Bx.push]
      · cases hv
    · cases h
  · rename_i x isS ho
    obtain ⟨v,B',h1,h2,h3⟩:=nextK_spec ho h
    exact change v B' (by simp [isP,isN,ho]) (by simp [isR,ho]) ⟨h3,fun n0 b q _ hb=>by simp [touches,ho] at hb⟩ h1 h2
  · rename_i fn first cap ho
    refine pure _ h fun B0=>OpD.value (fun G dead a ha=>⟨.func fn (first.map a.eval) (cap.map a.eval),fun w=>by simp only [execOp,ho,Instr.makeFunc]; rfl,?_⟩) B0
    have h1:=chain_vals (vals_map (ev:=a.eval) (l:=first.toList) fun x hx=>ha x (by rw [ho]; simp only [Op.operands,Array.mem_append]; exact .inl (Array.mem_toList_iff.1 hx)))
    have h2:=chain_vals (vals_map (ev:=a.eval) (l:=cap.toList) fun x hx=>ha x (by rw [ho]; simp only [Op.operands,Array.mem_append]; exact .inr (Array.mem_toList_iff.1 hx)))
    refine leaf_v rfl ⟨first.toList.map a.eval,cap.toList.map a.eval,?_,h1,h2⟩
    congr 2<;>(apply Array.ext'; simp)
  · rename_i t x ho
    split at h
    · cases h
    · rename_i d hni hu
      refine pure _ h fun B0=>OpD.value (fun G dead a ha=>⟨.iface t (a.eval x),fun w=>?_,?_⟩) B0
      · simp only [execOp,ho]
        unfold Instr.makeInterface
        rw [Sem.run_bind]
        simp only [Sem.run_bind,run_underlying' hu,Result.andThen_ok]
        cases d<;>first | rfl | exact absurd rfl (hni _)
      · have hx:=ha x (by rw [ho]; simp [Op.operands])
        obtain ⟨cs,hc,hv⟩:=hx
        exact leaf_v rfl ⟨_,rfl,cs,hc,hv⟩
    · cases h
  · rename_i x xt t ok ho
    split at h
    · cases h
    · rename_i d hni hu
      split at h
      · rename_i t1 v1 hx1
        cases ht:t1==t with
        | false=>
          rw [ht] at h
          simp only [cond_false] at h
          have ht':t1≠t:=by simpa using ht
          split at h
          · rename_i z hz
            refine pure _ h fun B0=>OpD.value (fun G dead a ha=>?_) B0
            have hx:=ha x (by rw [ho]; simp [Op.operands])
            rw [hx1] at hx
            obtain ⟨zv,hz1,hz2⟩:=zeroAV_run hz G dead
            obtain ⟨cs,⟨v',rfl,hrv⟩,hh | hh⟩:=hx
            · cases hh.1
            · have e:a.eval x=.iface t1 v':=by simpa using hh.2.symm
              refine ⟨.tuple #[zv,.bool false],fun w=>?_,leaf_v rfl ⟨[zv,.bool false],rfl,zv,[.bool false],rfl,hz2,.bool false,[],rfl,⟨[.bool false],rfl,.inr ⟨rfl,rfl⟩⟩,rfl⟩⟩
              simp only [execOp,ho,e]
              unfold Instr.typeAssert
              simp only [Sem.run_bind,run_underlying' hu,Result.andThen_ok]
              cases d<;>first | exact absurd rfl (hni _) | simp [ht',Sem.run_bind,hz1]
          · cases h
        | true=>
          rw [ht] at h
          simp only [cond_true] at h
          have ht':t1=t:=by simpa using ht
          subst ht'
          refine pure _ h fun B0=>OpD.value (fun G dead a ha=>?_) B0
          have hx:=ha x (by rw [ho]; simp [Op.operands])
          rw [hx1] at hx
          obtain ⟨cs,⟨v',rfl,hrv⟩,hh | hh⟩:=hx
          · cases hh.1
          · have e:a.eval x=.iface t1 v':=by simpa using hh.2.symm
            refine ⟨.tuple #[v',.bool true],fun w=>?_,leaf_v rfl ⟨[v',.bool true],rfl,v',[.bool true],rfl,hrv,.bool true,[],rfl,⟨[.bool true],rfl,.inr ⟨rfl,rfl⟩⟩,rfl⟩⟩
            simp only [execOp,ho,e]
            unfold Instr.typeAssert
            simp only [Sem.run_bind,run_underlying' hu,Result.andThen_ok]
            cases d<;>first | exact absurd rfl (hni _) | simp
      · rename_i hx1
        split at h
        · rename_i z hz
          refine pure _ h fun B0=>OpD.value (fun G dead a ha=>?_) B0
          have hx:=ha x (by rw [ho]; simp [Op.operands])
          rw [hx1] at hx
          obtain ⟨zv,hz1,hz2⟩:=zeroAV_run hz G dead
          obtain ⟨cs,hc,hh | hh⟩:=hx
          · cases hh.1
          · have hc':cs=[.nilIface]:=hc
            subst hc'
            have e:a.eval x=.nilIface:=by simpa using hh.2.symm
            refine ⟨.tuple #[zv,.bool false],fun w=>?_,leaf_v rfl ⟨[zv,.bool false],rfl,zv,[.bool false],rfl,hz2,.bool false,[],rfl,⟨[.bool false],rfl,.inr ⟨rfl,rfl⟩⟩,rfl⟩⟩
            simp only [execOp,ho,e]
            unfold Instr.typeAssert
            simp only [Sem.run_bind,run_underlying' hu,Result.andThen_ok]
            cases d<;>first | exact absurd rfl (hni _) | simp [Sem.run_bind,hz1]
        · cases h
      · cases h
    · cases h
  · rename_i t x lo hi mx ho
    cases hnv:nvO C o with
    | true=>
      rw [hnv] at h
      simp only [cond_true] at h
      obtain ⟨v,h1,h2⟩:=condK_spec h
      exact pure v h2 fun B0=>sliceO_sound ho h1 B0
    | false=>
      rw [hnv] at h
      simp only [cond_false] at h
      split at h
      · rename_i v hv
        exact pure v h fun B0=>sliceP_sound ho hv B0
      · obtain ⟨v,h1,h2⟩:=condK_spec h
        exact pure v h2 fun B0=>sliceA_sound ho h1 B0
  · rename_i s x f ho
    split at h
    · rename_i v hv; exact pure v h fun B0=>fieldAddrA_sound ho hv B0
    · split at h
      · rename_i v hv; exact pure v h fun B0=>fieldV_sound ho hv B0
      · cases h
  · rename_i s x f ho
    split at h
    · rename_i v hv; exact pure v h fun B0=>fieldA_sound ho hv B0
    · cases h
  · rename_i t x i ho
    split at h
    · rename_i c v hv
      cases c with
      | true=>exact pure v h fun B0=>indexV_sound ho hv B0
      | false=>cases h
    · split at h
      · rename_i c v hv
        cases c with
        | true=>exact pure v h fun B0=>subV_sound ho hv B0
        | false=>cases h
      · obtain ⟨v,h1,h2⟩:=condK_spec h
        exact pure v h2 fun B0=>indexAddrA_sound ho h1 B0
  · rename_i t x i ho
    split at h
    · rename_i hd tl hx
      split at h
      · rename_i kd j hj
        split at h
        · rename_i m e hu
          split at h
          · rename_i n hn
            obtain ⟨q,c,h1,h2,h3,h4,h5,h6⟩:=idxK_spec h
            have h3':(j:Int)=(q:Int):=h3
            refine pure c h6 fun B0=>idx_child_sound (m:=m) (n:=n) (q:=q) (kd:=kd) ho hu hn (by rw [hx]; rfl) (by rw [hj]; exact congrArg _ h3') (by omega) (by rw [hx]; exact h4) h5 B0
          · cases h
        · cases h
      · cases h
    · obtain ⟨v,h1,h2⟩:=condK_spec h
      exact pure v h2 fun B0=>indexA_sound ho h1 B0
  · rename_i t ho
    split at h
    · rename_i v B' hv
      exact change v B' (by simp [isP,isN,ho]) (by simp [isR,ho]) (makeMapA_eff ho hv) h (makeMapA_sound ho hv)
    · cases h
  · rename_i t m i ok ho
    obtain ⟨v,h1,h2⟩:=lookupK_at h
    have at0:∀ B0,mapAt B0 (ρ m)=mapAt B (ρ m)→OpD P o ρ B0 v B0:=fun B0 h0=>by
      obtain ⟨v',e,h3⟩:=lookupK_spec ho (h2 B0 h0)
      simp only [Option.some.injEq] at e
      rw [e] at h3
      exact h3
    refine ⟨v,B,h1,at0 B rfl,(fun hp=>by simp [isP,ho] at hp),(fun _=>⟨rfl,fun B0 hs=>at0 B0 ?_⟩),(fun hp=>by simp [isN,ho] at hp),Eff.refl _ _ _⟩
    unfold Same at hs
    rw [ho] at hs
    unfold mapAt
    split
    · rename_i b hb
      rw [hs b hb]
    · rfl
  · rename_i t m i x ho
    split at h
    · rename_i B' hv
      exact change .any B' (by simp [isP,isN,ho]) (by simp [isR,ho]) (updateA_eff ho hv) h (updateA_sound ho hv)
    · cases h
  · rename_i x i ho
    split at h
    · rename_i vs hx
      split at h
      · rename_i v hv
        refine pure v h fun B0=>OpD.value (fun G dead a ha=>?_) B0
        have hxv:=ha x (by rw [ho]; simp [Op.operands])
        rw [hx] at hxv
        obtain ⟨cs,⟨l,rfl,hl⟩,hh | hh⟩:=hxv
        · cases hh.1
        · have e:a.eval x=.tuple l.toArray:=by simpa using hh.2.symm
          obtain ⟨cv,hc1,hc2⟩:=vals_get (vals_chain hl) hv
          refine ⟨cv,fun w=>?_,hc2⟩
          simp only [execOp,ho,e,Instr.extract]
          have:l.toArray[i]?=some cv:=by simpa using hc1
          simp only [this]
          rfl
      · cases h
    · cases h
  · rename_i c ho
    split at h
    · rename_i f hcal
      obtain ⟨v,B',h1,h2,h3,h4⟩:=callA_sound hC ho hcal h hρ
      cases hvp:v.isPan with
      | true=>rw [hvp] at h1; cases h1
      | false=>
      rw [hvp] at h1
      simp only [cond_false] at h1
      refine ⟨v,B',h1,h2.1 hvp,(fun hp=>by simp [isP,ho,hcal] at hp),(fun hr=>?_),(fun hp=>by simp [isN,ho] at hp),h4,fun n0 b q hn hb=>?_⟩
      rotate_left 1
      · cases f with
        | func g=>
          simp only [touches,ho,hcal] at hb
          cases hpn:kpF g with
          | false=>rw [hpn] at hb; cases hb
          | true=>
            rw [hpn] at hb
            simp only [cond_true,Bool.or_eq_false_iff,Bool.not_eq_false',decide_eq_true_eq] at hb
            unfold atP
            rw [(h3 g rfl).2.2 hpn b (by omega) hb.2]
        | _=>simp [touches,ho,hcal] at hb
      cases f with
      | func g=>
        obtain ⟨k1,k2,_⟩:=h3 g rfl
        have hro:=k1 (by simpa [isR,ho,hcal] using hr)
        refine ⟨hro.1,fun B0 hs=>?_⟩
        unfold Same at hs
        rw [ho] at hs
        rcases hs with hs | hs
        · exact (k2 (by simpa [isAny,ho,hcal] using hs) B0).1 hvp
        · exact (hro.2 B0 hs).1 hvp
      | _=>simp [isR,ho,hcal] at hr
    · rename_i recv name hcal
      split at h
      · rename_i t1 x1 hx1
        split at h
        · rename_i g hme
          cases hgy:g==YLD with
          | true=>rw [hgy] at h; cases h
          | false=>
            rw [hgy] at h
            simp only [cond_false] at h
            have hgy':g≠YLD:=by simpa using hgy
            obtain ⟨v,B',hk,hcr⟩:=hC _ _ _ _ _ _ h
            cases hvp:v.isPan with
            | true=>rw [hvp] at hk; cases hk
            | false=>
              rw [hvp] at hk
              simp only [cond_false] at hk
              exact change v B' (by simp [isP,isN,ho,hcal]) (by simp [isR,ho,hcal]) ⟨hcr.len,fun n0 b q _ hb=>by simp [touches,ho,hcal] at hb⟩ hk (acall_inv ho hcal hx1 hme hgy' hvp hcr.call)
        · cases h
      · cases h
    · rename_i b hcal
      split at h
      · split at h
        · rename_i x t hargs hty
          split at h
          · rename_i v hv
            exact pure v h fun B0=>lenA_sound ho hcal hargs hty hv B0
          · split at h
            · rename_i v hv
              exact pure v h fun B0=>lenV_sound ho hcal hargs hty hv B0
            · cases h
        · cases h
      · split at h
        · rename_i s x t t2 hargs hty
          split at h
          · rename_i cnd v B' hv
            cases hnv:C.nv t with
            | false=>rw [hnv] at hv; cases hv
            | true=>
              rw [hnv] at hv
              cases cnd with
              | true=>exact change v B' (by simp [isP,isN,ho,hcal]) (by simp [isR,ho,hcal]) (appendN_eff ho hcal hargs hv) h (appendN_sound ho hcal hargs hty hv)
              | false=>cases h
          split at h
          · rename_i cnd v B' hv
            cases cnd with
            | true=>exact change v B' (by simp [isP,isN,ho,hcal]) (by simp [isR,ho,hcal]) (appendA_eff hv) h (appendA_sound ho hcal hargs hty hv)
            | false=>cases h
          · split at h
            · rename_i cnd v B' hv
              cases cnd with
              | true=>exact change v B' (by simp [isP,isN,ho,hcal]) (by simp [isR,ho,hcal]) (appendV_eff ho hcal hargs hv) h (appendV_sound ho hcal hargs hty hv)
              | false=>cases h
            · cases h
        · cases h
      · exact scal h
      · exact scal h
      · cases h
  · cases h
end Go.Proofs.YtkeipcalbbmncaaGreat.Abs
set_option linter.unusedVariables false
set_option linter.unusedSimpArgs false
namespace Go.Proofs.YtkeipcalbbmncaaGreat.Abs
def guardTmp (ops:Array Oper) (j:Nat):Option Tmp:=(ops[j]?).bind (·.dst)
def wantedA (ops:Array Oper) (env:List AVal) (o:Oper):Option Bool:=
  match o.guard with
  | none=>some true
  | some (j,want)=>match guardTmp ops j with
    | some t=>match env.getD t .any with
      | .d .bool b=>some (b==want)
      | .tuple .nil=>some false
      | _=>none
    | none=>none
theorem wantedA_spec {G:Gh} {dead:List Nat} {ops:Array Oper} {env:List AVal} {tm:Array Value} {o:Oper} {b:Bool} (he:EnvOk G dead env tm) (h:wantedA ops env o=some b):Region.wanted o (yielded ops tm)=b:=by
  unfold wantedA at h
  unfold Region.wanted
  split at h
  · rename_i hg
    simp only [Option.some.injEq] at h
    rw [hg,← h]
  · rename_i j want hg
    rw [hg]
    split at h
    · rename_i t ht
      split at h
      · rename_i c hc
        simp only [Option.some.injEq] at h
        have hv:=he.val t
        rw [hc] at hv
        have hb:=bool_form hv
        have ht':(ops[j]?).bind (·.dst)=some t:=ht
        have hy:yielded ops tm j=some c:=by
          unfold yielded
          rw [ht']
          have:tm[t]?=some (.bool c):=by
            rw [Array.getD_eq_getD_getElem?] at hb
            cases hq:tm[t]? with
            | none=>rw [hq] at hb; simp [undef] at hb
            | some q=>rw [hq] at hb; simp at hb; rw [hb]
          simp [this]
        simp only [hy,← h]
        cases c<;>cases want<;>rfl
      · rename_i hc
        simp only [Option.some.injEq] at h
        have hv:=he.val t
        rw [hc] at hv
        obtain ⟨cs,⟨l,rfl,hl⟩,hh | hh⟩:=hv
        · cases hh.1
        · have hl:l=[]:=hl
          subst hl
          have hb:tm.getD t undef=.tuple #[]:=by simpa using hh.2.symm
          have ht':(ops[j]?).bind (·.dst)=some t:=ht
          have hy:yielded ops tm j=none:=by
            unfold yielded
            rw [ht']
            show (match tm[t]? with | some (.bool b)=>some b | _=>none)=none
            rw [Array.getD_eq_getD_getElem?] at hb
            cases hq:tm[t]? with
            | none=>rfl
            | some q=>rw [hq] at hb; simp at hb; rw [hb]
          simp only [hy,← h]
          cases want<;>rfl
      · cases h
    · cases h
def regR (P:Program) (C:CalT) {X:Type} (ops:Array Oper):List Oper→List AVal→Bx→(List AVal→Bx→Option X)→Option X
  | [],env,B,k=>k env B
  | o::rest,env,B,k=>
    match o.guard with
    | none=>opR P C o (opA env) B fun v B'=>regR P C ops rest (setA env o.dst v) B' k
    | some (j,want)=>match guardTmp ops j with
      | some t=>match env.getD t .any with
        | .d .bool b=>
          bif b then
            (bif want then opR P C o (opA (env.set t (.d .bool true))) B fun v B'=>regR P C ops rest (setA (env.set t (.d .bool true)) o.dst v) B' k
             else regR P C ops rest (setA (env.set t (.d .bool true)) o.dst (.tuple .nil)) B k)
          else
            (bif want then regR P C ops rest (setA (env.set t (.d .bool false)) o.dst (.tuple .nil)) B k
             else opR P C o (opA (env.set t (.d .bool false))) B fun v B'=>regR P C ops rest (setA (env.set t (.d .bool false)) o.dst v) B' k)
        | .tuple .nil=>regR P C ops rest (setA env o.dst (.tuple .nil)) B k
        | _=>none
      | none=>none
def isAl (o:Oper):Bool:=match o.op with
  | .alloc _=>true
  | _=>false
inductive Tr (P:Program) (C:CalT) (ops:Array Oper):List Oper→List AVal→Bx→List AVal→Bx→Prop where
  | nil {env B}:Tr P C ops [] env B env B
  | run {o rest env B v B' env' B''}:wantedA ops env o=some true→OpQ P C o (opA env) B v B'→(∀ t,o.op=.alloc t→allocA P t B=some (v,B'))→
      Tr P C ops rest (setA env o.dst v) B' env' B''→Tr P C ops (o::rest) env B env' B''
  | skip {o rest env B env' B''}:wantedA ops env o=some false→Tr P C ops rest (setA env o.dst (.tuple .nil)) B env' B''→Tr P C ops (o::rest) env B env' B''
theorem set_same {env:List AVal} {t:Nat} {x:AVal} (h:env.getD t .any=x) (hx:x≠.any):env.set t x=env:=by
  have hl:t < env.length:=by
    rcases Nat.lt_or_ge t env.length with h1 | h1
    · exact h1
    · rw [List.getD_eq_getElem?_getD,List.getElem?_eq_none h1] at h
      exact absurd h.symm hx
  apply List.ext_getElem?
  intro i
  rw [List.getElem?_set]
  split
  · subst_vars
    first
      | (rw [List.getD_eq_getElem?_getD,List.getElem?_eq_getElem hl]; rfl)
      | (rw [if_pos hl,List.getD_eq_getElem?_getD,List.getElem?_eq_getElem hl]; rfl)
  · rfl
theorem regR_tr {P:Program} {C:CalT} {X:Type} {ops:Array Oper} {k:List AVal→Bx→Option X} {r:X} (hC:CV P C):{l:List Oper}→{env:List AVal}→{B:Bx}→regR P C ops l env B k=some r→∃ env' B',Tr P C ops l env B env' B'∧k env' B'=some r
  | [],env,B,h=>⟨env,B,.nil,h⟩
  | o::rest,env,B,h=>by
    simp only [regR] at h
    have go:∀ env,wantedA ops env o=some true→(opR P C o (opA env) B fun v B'=>regR P C ops rest (setA env o.dst v) B' k)=some r→∃ env' B',Tr P C ops (o::rest) env B env' B'∧k env' B'=some r:=by
      intro env hw h
      obtain ⟨v,B',h1,h2,h3⟩:∃ v B',regR P C ops rest (setA env o.dst v) B' k=some r∧OpQ P C o (opA env) B v B'∧∀ t,o.op=.alloc t→allocA P t B=some (v,B'):=by
        by_cases hal:∃ t,o.op=.alloc t
        · obtain ⟨t,hal⟩:=hal
          unfold opR at h
          rw [hal] at h
          simp only at h
          split at h
          · rename_i v B' he
            have h0:opR P C o (opA env) B (fun v B'=>some (v,B'))=some (v,B'):=by
              unfold opR
              rw [hal]
              simp only [he]
            obtain ⟨v1,B1,k1,k2⟩:=opR_sound (ρ:=opA env) hC (fun _=>rfl) h0
            simp only [Option.some.injEq,Prod.mk.injEq] at k1
            obtain ⟨rfl,rfl⟩:=k1
            exact ⟨_,_,h,k2,fun t' ht'=>by rw [hal] at ht'; cases ht'; exact he⟩
          · cases h
        · obtain ⟨v,B',h1,h2⟩:=opR_sound (ρ:=opA env) hC (fun _=>rfl) h
          exact ⟨v,B',h1,h2,fun t ht=>absurd ⟨t,ht⟩ hal⟩
      obtain ⟨env',B'',h5,h6⟩:=regR_tr hC h1
      exact ⟨env',B'',.run hw h2 h3 h5,h6⟩
    have no:∀ env,wantedA ops env o=some false→regR P C ops rest (setA env o.dst (.tuple .nil)) B k=some r→∃ env' B',Tr P C ops (o::rest) env B env' B'∧k env' B'=some r:=by
      intro env hw h
      obtain ⟨env',B'',h5,h6⟩:=regR_tr hC h
      exact ⟨env',B'',.skip hw h5,h6⟩
    split at h
    · rename_i hg
      exact go env (by simp [wantedA,hg]) h
    · rename_i j want hg
      split at h
      · rename_i t ht
        split at h
        · rename_i b hb
          have hs:=set_same hb (by simp)
          have hwa:wantedA ops env o=some (b==want):=by
            unfold wantedA
            rw [hg]
            simp only
            rw [ht]
            simp only
            rw [hb]
          cases b<;>cases want<;>simp only [cond_true,cond_false] at h<;>rw [hs] at h
          · exact go env hwa h
          · exact no env hwa h
          · exact no env hwa h
          · exact go env hwa h
        · rename_i hb
          refine no env ?_ h
          unfold wantedA
          rw [hg]
          simp only
          rw [ht]
          simp only
          rw [hb]
        · cases h
      · cases h
def isFnD (d:Deferred):Bool:=match d.target with
  | .fn _ _=>true
  | _=>false
def fnDs (ds:List Deferred):List Deferred:=ds.filter isFnD
def Marks (G:Gh) (w:World):List Deferred→Prop
  | []=>True
  | d::ds=>(isFnD d=true∨∃ D,d.target=.collected D∧w.heap[D]?=some (.deferred (some []))∧D ∉ G.addr∧(∀ t n,G.own t≠some (D,n))∧∀ d'∈ds,d'.target≠.collected D)∧Marks G w ds
theorem Marks.ext {G G':Gh} {w w':World}:{ds:List Deferred}→Marks G w ds→Ext G w G' w'→Marks G' w' ds
  | [],_,_=>trivial
  | d::ds,⟨.inl h,h6⟩,x=>⟨.inl h,h6.ext x⟩
  | d::ds,⟨.inr ⟨D,h1,h2,h3,h4,h5⟩,h6⟩,x=>by
    have hlt:D < w.heap.size:=heap_lt h2
    refine ⟨.inr ⟨D,h1,by rw [x.frame D hlt h3 h4]; exact h2,fun hm=>?_,fun t n hn=>?_,h5⟩,h6.ext x⟩
    · rcases x.addr D hm with hm | hm
      · exact h3 hm
      · omega
    · rcases x.own t D n hn with ⟨t',ht⟩ | hm
      · exact h4 t' n ht
      · omega
structure Ok (G:Gh) (B:Bx) (env:List AVal) (a:Act) (wd:World):Prop where
  env:EnvOk G B.dead env a.tmps
  w:WOk G B wd
  marks:Marks G wd a.defers
structure Goes (n:Nat) (f:Bool) (D:List Nat) (G:Gh) (a:Act) (w:World) (G':Gh) (B':Bx) (env':List AVal) (a':Act) (w':World):Prop where
  ok:Ok G' B' env' a' w'
  ext:Ext G w G' w'
  defers:(∀ d∈a'.defers,d∈a.defers∨∃ D,d.target=.collected D∧w.heap.size≤D)∧fnDs a'.defers=fnDs a.defers
  held:∀ i b,i < n→G.addr[i]?=some b→G'.addr[i]?=some b
  full:f=true→GLe G D G' B'.dead
theorem Goes.trans {n:Nat} {f:Bool} {D:List Nat} {G G1 G2:Gh} {B1 B2:Bx} {e1 e2:List AVal} {a a1 a2:Act} {w w1 w2:World} (h:Goes n f D G a w G1 B1 e1 a1 w1) (k:Goes n f B1.dead G1 a1 w1 G2 B2 e2 a2 w2):Goes n f D G a w G2 B2 e2 a2 w2:=
  ⟨k.ok,h.ext.trans k.ext,⟨fun d hd=>by
    rcases k.defers.1 d hd with hd | ⟨D,h1,h2⟩
    · exact h.defers.1 d hd
    · exact .inr ⟨D,h1,Nat.le_trans h.ext.size h2⟩,k.defers.2.trans h.defers.2⟩,fun i b hi hb=>k.held i b hi (h.held i b hi hb),fun hf=>(h.full hf).trans (k.full hf)⟩
theorem Goes.refl {n:Nat} {f:Bool} {G:Gh} {B:Bx} {env:List AVal} {a:Act} {w:World} (h:Ok G B env a w):Goes n f B.dead G a w G B env a w:=⟨h,Ext.refl _ _,⟨fun _ hd=>.inl hd,rfl⟩,fun _ _ _ h=>h,fun _=>GLe.refl _ _⟩
theorem put_defers' (a:Act) (d:Option Tmp) (v:Value):(a.put d v).defers=a.defers:=by cases d<;>rfl
theorem undef_v (G:Gh) (dead:List Nat):Rv G dead (.tuple .nil) undef:=leaf_v (a:=.tuple .nil) rfl ⟨[],rfl,rfl⟩
end Go.Proofs.YtkeipcalbbmncaaGreat.Abs
set_option linter.unusedVariables false
set_option linter.unusedSimpArgs false
namespace Go.Proofs.YtkeipcalbbmncaaGreat.Abs
def ancStep (acc:List Nat) (o:Oper):Nat:=o.after.toList.foldl (fun s e=>bif Region.binds .any e then s ||| 2^e.on ||| acc.getD e.on 0 else s) 0
def ancs (l:List Oper):List Nat:=l.foldl (fun acc o=>acc++[ancStep acc o]) []
theorem ancs_snoc (l:List Oper) (o:Oper):ancs (l++[o])=ancs l++[ancStep (ancs l) o]:=by simp [ancs,List.foldl_append]
theorem ancs_len (l:List Oper):(ancs l).length=l.length:=by
  have:∀ (l:List Oper) (acc:List Nat),(l.foldl (fun acc o=>acc++[ancStep acc o]) acc).length=acc.length+l.length:=by
    intro l
    induction l with
    | nil=>intro acc; simp
    | cons o l ih=>intro acc; rw [List.foldl_cons,ih]; simp; omega
  simpa [ancs] using this l []
theorem foldl_bits {acc:List Nat} {j:Nat}:∀ (es:List Edge) (s:Nat),(es.foldl (fun s e=>bif Region.binds .any e then s ||| 2^e.on ||| acc.getD e.on 0 else s) s).testBit j=true→
    s.testBit j=true∨∃ e∈es,Region.binds .any e=true∧(e.on=j∨(acc.getD e.on 0).testBit j=true)
  | [],s,h=>.inl h
  | e::es,s,h=>by
    rw [List.foldl_cons] at h
    rcases foldl_bits es _ h with h1 | ⟨e',h1,h2⟩
    · cases hb:Region.binds .any e with
      | false=>simp only [hb,cond_false] at h1; exact .inl h1
      | true=>
        simp only [hb,cond_true,Nat.testBit_or,Bool.or_eq_true] at h1
        rcases h1 with (h1 | h1) | h1
        · exact .inl h1
        · rw [Nat.testBit_two_pow] at h1
          exact .inr ⟨e,by simp,hb,.inl (by simpa using h1)⟩
        · exact .inr ⟨e,by simp,hb,.inr h1⟩
    · exact .inr ⟨e',by simp [h1],h2⟩
def Closed (l:List Oper) (listed:Nat→Prop):Prop:=∀ i o,l[i]?=some o→listed i→∀ e∈o.after,Region.binds .any e=true→listed e.on
theorem anc_listed {l:List Oper} {listed:Nat→Prop} (hcl:Closed l listed) (hed:∀ i o,l[i]?=some o→∀ e∈o.after,Region.binds .any e=true→e.on < i):∀ (i:Nat) (o:Oper),l[i]?=some o→(∀ e∈o.after,Region.binds .any e=true→listed e.on)→
    ∀ j,((ancs l).getD i 0).testBit j=true→listed j:=by
  intro i
  induction i using Nat.strongRecOn with
  | _ i ih=>
    intro o ho hr j hj
    have hi:i < l.length:=(List.getElem?_eq_some_iff.1 ho).1
    have hpre:∀ q,q≤i→(ancs l).getD q 0=(ancs (l.take (i+1))).getD q 0:=fun q hq=>by
      have:∀ (r:List Oper) (p:List Oper),i+1≤p.length→(ancs (p++r)).getD q 0=(ancs p).getD q 0:=by
        intro r
        induction r with
        | nil=>intro p _; simp
        | cons x r ihr=>
          intro p hp
          have e:p++x::r=(p++[x])++r:=by simp
          rw [e,ihr (p++[x]) (by simp; omega),ancs_snoc,List.getD_eq_getElem?_getD,List.getElem?_append_left (by rw [ancs_len]; omega),← List.getD_eq_getElem?_getD]
      have h2:=this (l.drop (i+1)) (l.take (i+1)) (by simp; omega)
      rwa [List.take_append_drop] at h2
    have htake:l.take (i+1)=l.take i++[o]:=by
      rw [List.take_add_one,ho]; rfl
    have hself:(ancs l).getD i 0=ancStep (ancs (l.take i)) o:=by
      rw [hpre i (Nat.le_refl _),htake,ancs_snoc,List.getD_eq_getElem?_getD,List.getElem?_append_right (by rw [ancs_len]; simp; omega)]
      rw [ancs_len]
      have:i - (l.take i).length=0:=by simp; omega
      rw [this]
      rfl
    have hlow:∀ q,q < i→(ancs (l.take i)).getD q 0=(ancs l).getD q 0:=fun q hq=>by
      rw [hpre q (by omega),htake,ancs_snoc,List.getD_eq_getElem?_getD,List.getD_eq_getElem?_getD,List.getElem?_append_left (by rw [ancs_len]; simp; omega)]
    rw [hself] at hj
    rcases foldl_bits _ _ hj with h0 | ⟨e,he,hb,h1⟩
    · simp at h0
    · have he':e∈o.after:=Array.mem_toList_iff.1 he
      have hlt:=hed i o ho e he' hb
      rcases h1 with h1 | h1
      · rw [← h1]; exact hr e he' hb
      · rw [hlow e.on hlt] at h1
        have hel:e.on < l.length:=by omega
        exact ih e.on hlt l[e.on] (List.getElem?_eq_getElem hel) (fun e2 he2 hb2=>hcl e.on _ (List.getElem?_eq_getElem hel) (hr e he' hb) e2 he2 hb2) j h1
def isC (C:CalT) (o:Oper):Bool:=!isP C o&&!isR C o
def late (ops:Array Oper) (i:Nat) (t:Tmp):Bool:=ops.toList.zipIdx.any fun (o,j)=>o.dst==some t&&decide (i≤j)
def touchesX (ops:Array Oper) (envN:List AVal) (n0 i:Nat) (o:Oper) (b:Nat) (q:List PStep):Bool:=match o.op with
  | .store _ x _=>match x with
    | .tmp t=>late ops i t||touches o (opA envN) n0 b q
    | _=>true
  | .call c=>(c.args.toList.any fun x=>match x with
    | .tmp t=>late ops i t
    | _=>false)||touches o (opA envN) n0 b q
  | _=>touches o (opA envN) n0 b q
def clash (C:CalT) (ops:Array Oper) (envN:List AVal) (n0 i:Nat) (o:Oper) (j:Nat) (oj:Oper):Bool:=match o.op with
  | .load _ x=>match x with
    | .tmp t=>late ops i t||match envN.getD t .any with
      | .bptr b q=>touchesX ops envN n0 j oj b q
      | .iptr _ _=>false
      | _=>true
    | _=>true
  | .lookup _ m _ _=>match m with
    | .tmp t=>late ops i t||match envN.getD t .any with
      | .mref b=>touchesX ops envN n0 j oj b []
      | _=>true
    | _=>true
  | .call c=>!isAny C o&&!isN C oj&&!((match oj.op with | .alloc _=>true | _=>false)&&c.args.toList.all fun x=>match x with
    | .tmp t=>!late ops i t&&match envN.getD t .any with
      | .bptr b _=>decide (b < n0)
      | .d _ _=>true
      | _=>false
    | _=>false)
  | _=>!isAny C o&&!isN C oj
def inOrder (C:CalT) (ops:Array Oper) (envN:List AVal) (n0:Nat) (j:Nat) (oj:Oper) (i:Nat) (o:Oper):Bool:=
  (isC C oj&&isC C o)||(isC C oj&&isR C o&&clash C ops envN n0 i o j oj)||(isR C oj&&isC C o&&clash C ops envN n0 j oj i o)
def freeA (np j:Nat) (oj:Oper) (i:Nat) (o:Oper):Bool:=decide (i < np)&&isAl o&&isAl oj
def drawOkN (np:Nat) (C:CalT) (ops:Array Oper) (len n0:Nat) (envN:List AVal):Bool:=
  let l:=ops.toList
  let A:=ancs l
  let Z:=l.zipIdx
  Z.all fun (o,i)=>
    (o.after.toList.all fun e=>!Region.binds .any e||decide (e.on < i)) &&
    (match o.dst with
      | some t=>decide (t < len)&&Z.all fun (oj,j)=>j==i||oj.dst != some t
      | none=>true) &&
    ((o.looksAt ops).all fun t=>Z.all fun (oj,j)=>oj.dst != some t||(decide (j < i)&&(A.getD i 0).testBit j)||j==i||(decide (i < j)&&(A.getD j 0).testBit i)) &&
    (Z.all fun (oj,j)=>!decide (j < i)||!(inOrder C ops envN n0 j oj i o)||freeA np j oj i o||(A.getD i 0).testBit j)
def drawOk (C:CalT) (ops:Array Oper) (len n0:Nat) (envN:List AVal):Bool:=drawOkN 0 C ops len n0 envN
structure DrawP (np:Nat) (C:CalT) (ops:Array Oper) (len n0:Nat) (envN:List AVal):Prop where
  edge:∀ (i:Nat) (o:Oper),ops.toList[i]?=some o→∀ e∈o.after,Region.binds .any e=true→e.on < i
  lt:∀ (i:Nat) (o:Oper) (t:Tmp),ops.toList[i]?=some o→o.dst=some t→t < len
  apart:∀ (i j:Nat) (o oj:Oper) (t:Tmp),ops.toList[i]?=some o→ops.toList[j]?=some oj→o.dst=some t→oj.dst=some t→i=j
  look:∀ (i j:Nat) (o oj:Oper) (t:Tmp),ops.toList[i]?=some o→ops.toList[j]?=some oj→t∈o.looksAt ops→oj.dst=some t→(j < i∧((ancs ops.toList).getD i 0).testBit j=true)∨j=i∨(i < j∧((ancs ops.toList).getD j 0).testBit i=true)
  conf:∀ (i j:Nat) (o oj:Oper),ops.toList[i]?=some o→ops.toList[j]?=some oj→j < i→freeA np j oj i o=false→inOrder C ops envN n0 j oj i o=true→((ancs ops.toList).getD i 0).testBit j=true
theorem drawOk_spec {np:Nat} {C:CalT} {ops:Array Oper} {len n0:Nat} {envN:List AVal} (h:drawOkN np C ops len n0 envN=true):DrawP np C ops len n0 envN:=by
  have mem:∀ {i:Nat} {o:Oper},ops.toList[i]?=some o→(o,i)∈ops.toList.zipIdx:=fun {i o} ho=>by
    rw [List.mem_zipIdx_iff_getElem?]; exact ho
  unfold drawOkN at h
  have key:∀ i o,ops.toList[i]?=some o→_:=fun i o ho=>List.all_eq_true.1 h (o,i) (mem ho)
  simp only [Bool.and_eq_true] at key
  refine ⟨fun i o ho e he hb=>?_,fun i o t ho ht=>?_,fun i j o oj t ho hoj ht htj=>?_,fun i j o oj t ho hoj ht htj=>?_,fun i j o oj ho hoj hji hf hc=>?_⟩
  · have:=List.all_eq_true.1 (key i o ho).1.1.1 e (Array.mem_toList_iff.2 he)
    simpa [hb] using this
  · have:=(key i o ho).1.1.2
    rw [ht] at this
    simp only [Bool.and_eq_true,decide_eq_true_eq] at this
    exact this.1
  · have:=(key i o ho).1.1.2
    rw [ht] at this
    simp only [Bool.and_eq_true] at this
    have h2:=List.all_eq_true.1 this.2 (oj,j) (mem hoj)
    simp only [Bool.or_eq_true,beq_iff_eq,bne_iff_ne,ne_eq] at h2
    rcases h2 with h2 | h2
    · exact h2.symm
    · exact absurd htj h2
  · have h2:=List.all_eq_true.1 (List.all_eq_true.1 (key i o ho).1.2 t ht) (oj,j) (mem hoj)
    simp only [Bool.or_eq_true,bne_iff_ne,ne_eq,Bool.and_eq_true,decide_eq_true_eq,beq_iff_eq] at h2
    rcases h2 with ((h2 | h2) | h2) | h2
    · exact absurd htj h2
    · exact .inl h2
    · exact .inr (.inl h2)
    · exact .inr (.inr h2)
  · have h2:=List.all_eq_true.1 (key i o ho).2 (oj,j) (mem hoj)
    simp only [Bool.or_eq_true,Bool.not_eq_true',decide_eq_false_iff_not] at h2
    rcases h2 with ((h2 | h2) | h2) | h2
    · exact absurd hji h2
    · rw [hc] at h2; cases h2
    · rw [hf] at h2; cases h2
    · exact h2
structure TrI (P:Program) (C:CalT) (ops:Array Oper) (l:List Oper) (envs:Nat→List AVal) (bs:Nat→Bx) (vs:Nat→AVal) (wn:Nat→Bool):Prop where
  wanted:∀ i o,l[i]?=some o→wantedA ops (envs i) o=some (wn i)
  env:∀ i o,l[i]?=some o→envs (i+1)=setA (envs i) o.dst (vs i)
  run:∀ i o,l[i]?=some o→wn i=true→OpD P o (opA (envs i)) (bs i) (vs i) (bs (i+1))∧(isP C o=true→∀ B0,OpD P o (opA (envs i)) B0 (vs i) B0)∧(isR C o=true→∀ B0,Same C o (opA (envs i)) (bs i) B0→OpD P o (opA (envs i)) B0 (vs i) B0)
  skip:∀ i o,l[i]?=some o→wn i=false→vs i=.tuple .nil∧bs (i+1)=bs i
  still:∀ i o,l[i]?=some o→isC C o=false→bs (i+1)=bs i
  sim:∀ i o,l[i]?=some o→isN C o=true→Sim (bs i) (bs (i+1))
  eff:∀ i o,l[i]?=some o→Eff o (opA (envs i)) (bs i) (bs (i+1))
  alloc:∀ i o t,l[i]?=some o→wn i=true→o.op=.alloc t→allocA P t (bs i)=some (vs i,bs (i+1))
theorem tr_index {P:Program} {C:CalT} {ops:Array Oper}:{l:List Oper}→{env env':List AVal}→{B B':Bx}→Tr P C ops l env B env' B'→
    ∃ envs bs vs wn,envs 0=env∧bs 0=B∧envs l.length=env'∧bs l.length=B'∧TrI P C ops l envs bs vs wn
  | _,env,_,B,_,.nil=>⟨fun _=>env,fun _=>B,fun _=>.any,fun _=>false,rfl,rfl,rfl,rfl,⟨fun i o h=>by simp at h,fun i o h=>by simp at h,fun i o h=>by simp at h,fun i o h=>by simp at h,fun i o h=>by simp at h,fun i o h=>by simp at h,fun i o h=>by simp at h,fun i o t h=>by simp at h⟩⟩
  | o::l,env,env',B,B',.run (v:=v) hw ⟨hop,hp,hr,hn,heff⟩ hal ht=>by
    obtain ⟨envs,bs,vs,wn,h1,h2,h3,h4,h5⟩:=tr_index ht
    refine ⟨fun | 0=>env | i+1=>envs i,fun | 0=>B | i+1=>bs i,fun | 0=>v | i+1=>vs i,fun | 0=>true | i+1=>wn i,rfl,rfl,h3,h4,⟨?_,?_,?_,?_,?_,?_,?_,fun i o' t ho=>?_⟩⟩
    rotate_right 1
    · cases i with
      | zero=>(simp only [List.getElem?_cons_zero,Option.some.injEq] at ho; subst ho; intro _ h; simp only [h2]; exact hal t h)
      | succ i=>exact h5.alloc i o' t (by simpa using ho)
    all_goals
      intro i o' ho
      cases i with
      | zero=>?_
      | succ i=>?_
    · simp only [List.getElem?_cons_zero,Option.some.injEq] at ho; subst ho; exact hw
    · exact h5.wanted i o' (by simpa using ho)
    · simp only [List.getElem?_cons_zero,Option.some.injEq] at ho; subst ho; exact h1
    · exact h5.env i o' (by simpa using ho)
    · simp only [List.getElem?_cons_zero,Option.some.injEq] at ho; subst ho
      exact fun _=>⟨by simp only [h2]; exact hop,fun h=>(hp h).2,fun h=>(hr h).2⟩
    · exact h5.run i o' (by simpa using ho)
    · intro h; cases h
    · exact h5.skip i o' (by simpa using ho)
    · simp only [List.getElem?_cons_zero,Option.some.injEq] at ho; subst ho
      intro h
      simp only [h2]
      cases hpp:isP C o with
      | true=>exact (hp hpp).1
      | false=>exact (hr (by simpa [isC,hpp] using h)).1
    · exact h5.still i o' (by simpa using ho)
    · simp only [List.getElem?_cons_zero,Option.some.injEq] at ho; subst ho
      intro h
      simp only [h2]
      exact hn h
    · exact h5.sim i o' (by simpa using ho)
    · simp only [List.getElem?_cons_zero,Option.some.injEq] at ho; subst ho
      simp only [h2]
      exact heff
    · exact h5.eff i o' (by simpa using ho)
  | o::l,env,env',B,B',.skip hw ht=>by
    obtain ⟨envs,bs,vs,wn,h1,h2,h3,h4,h5⟩:=tr_index ht
    refine ⟨fun | 0=>env | i+1=>envs i,fun | 0=>B | i+1=>bs i,fun | 0=>.tuple .nil | i+1=>vs i,fun | 0=>false | i+1=>wn i,rfl,rfl,h3,h4,⟨?_,?_,?_,?_,?_,?_,?_,fun i o' t ho=>?_⟩⟩
    rotate_right 1
    · cases i with
      | zero=>(intro h; cases h)
      | succ i=>exact h5.alloc i o' t (by simpa using ho)
    all_goals
      intro i o' ho
      cases i with
      | zero=>?_
      | succ i=>?_
    · simp only [List.getElem?_cons_zero,Option.some.injEq] at ho; subst ho; exact hw
    · exact h5.wanted i o' (by simpa using ho)
    · simp only [List.getElem?_cons_zero,Option.some.injEq] at ho; subst ho; exact h1
    · exact h5.env i o' (by simpa using ho)
    · intro h; cases h
    · exact h5.run i o' (by simpa using ho)
    · exact fun _=>⟨rfl,h2⟩
    · exact h5.skip i o' (by simpa using ho)
    · exact fun _=>h2
    · exact h5.still i o' (by simpa using ho)
    · exact fun _=>by simp only [h2]; exact Sim.refl _
    · exact h5.sim i o' (by simpa using ho)
    · simp only [h2]; exact Eff.refl _ _ _
    · exact h5.eff i o' (by simpa using ho)
end Go.Proofs.YtkeipcalbbmncaaGreat.Abs
set_option linter.unusedVariables false
set_option linter.unusedSimpArgs false
namespace Go.Proofs.YtkeipcalbbmncaaGreat.Abs
def EnvL (ops:Array Oper) (vs:Nat→AVal) (env0:List AVal) (listed:Nat→Prop) (env:List AVal):Prop:=
  env.length=env0.length∧∀ t,(∀ j o,ops.toList[j]?=some o→o.dst=some t→listed j→env.getD t .any=vs j)∧
    ((∀ j o,ops.toList[j]?=some o→o.dst=some t→¬ listed j)→env.getD t .any=env0.getD t .any)
theorem setA_len (env:List AVal) (d:Option Tmp) (v:AVal):(setA env d v).length=env.length:=by cases d<;>simp [setA]
theorem setA_get (env:List AVal) (d:Option Tmp) (v:AVal) (t:Tmp):(setA env d v).getD t .any=if d=some t∧t < env.length then v else env.getD t .any:=by
  cases d with
  | none=>simp [setA]
  | some u=>
    simp only [setA,List.getD_eq_getElem?_getD,List.getElem?_set,Option.some.injEq]
    by_cases h:u=t
    · subst h
      by_cases hl:u < env.length
      · simp [hl]
      · simp [hl]
    · simp [h]
theorem EnvL.step {np:Nat} {C:CalT} {ops:Array Oper} {vs:Nat→AVal} {env0 env:List AVal} {listed listed':Nat→Prop} {i:Nat} {o:Oper} {n0:Nat} {envN:List AVal} (hd:DrawP np C ops env0.length n0 envN) (h:EnvL ops vs env0 listed env) (ho:ops.toList[i]?=some o) (hl:∀ j,listed' j↔listed j∨j=i) (hi:¬ listed i) :
    EnvL ops vs env0 listed' (setA env o.dst (vs i)):=by
  refine ⟨by rw [setA_len,h.1],fun t=>⟨fun j oj hoj hdj hlj=>?_,fun hno=>?_⟩⟩
  · rw [setA_get]
    by_cases hji:j=i
    · subst hji
      rw [ho] at hoj; cases hoj
      have:=hd.lt j o t ho hdj
      rw [if_pos ⟨hdj,by rw [h.1]; exact this⟩]
    · have hne:¬ (o.dst=some t):=fun he=>hji (hd.apart j i oj o t hoj ho hdj he)
      rw [if_neg (fun hh=>hne hh.1)]
      exact (h.2 t).1 j oj hoj hdj (((hl j).1 hlj).resolve_right hji)
  · rw [setA_get]
    have hne:¬ (o.dst=some t):=fun he=>hno i o ho he ((hl i).2 (.inr rfl))
    rw [if_neg (fun hh=>hne hh.1)]
    exact (h.2 t).2 fun j oj hoj hdj hlj=>hno j oj hoj hdj ((hl j).2 (.inl hlj))
theorem envs_L {np:Nat} {P:Program} {C:CalT} {ops:Array Oper} {envs:Nat→List AVal} {bs:Nat→Bx} {vs:Nat→AVal} {wn:Nat→Bool} {n0:Nat} {envN:List AVal} (hd:DrawP np C ops (envs 0).length n0 envN) (ht:TrI P C ops ops.toList envs bs vs wn):∀ i,i≤ops.toList.length→EnvL ops vs (envs 0) (fun j=>j < i) (envs i)
  | 0,_=>⟨rfl,fun t=>⟨fun j o _ _ h=>absurd h (by omega),fun _=>rfl⟩⟩
  | i+1,hi=>by
    have ih:=envs_L hd ht i (by omega)
    have ho:ops.toList[i]?=some ops.toList[i]:=List.getElem?_eq_getElem (by omega)
    rw [ht.env i _ ho]
    exact EnvL.step hd ih ho (fun j=>by show j < i+1↔j < i∨j=i; omega) (by show ¬ i < i; omega)
theorem same_looks {np:Nat} {P:Program} {C:CalT} {ops:Array Oper} {vs:Nat→AVal} {env0 env1 env2:List AVal} {l1 l2:Nat→Prop} {i:Nat} {o:Oper} {n0:Nat} {envN:List AVal} (hd:DrawP np C ops env0.length n0 envN) (h1:EnvL ops vs env0 l1 env1) (h2:EnvL ops vs env0 l2 env2) (ho:ops.toList[i]?=some o)
    (hl1:∀ j,((ancs ops.toList).getD i 0).testBit j=true→l1 j) (hl2:∀ j,j < i→l2 j) (hle:∀ j,l2 j→j < i) (hun:¬ l1 i) (hlate:∀ j oj,ops.toList[j]?=some oj→((ancs ops.toList).getD j 0).testBit i=true→¬ l1 j):∀ t∈o.looksAt ops,env1.getD t .any=env2.getD t .any:=by
  intro t ht
  by_cases hex:∃ (j:Nat) (oj:Oper),ops.toList[j]?=some oj∧oj.dst=some t
  · obtain ⟨j,oj,hoj,hdj⟩:=hex
    have before:¬ l1 j→¬ j < i→env1.getD t .any=env2.getD t .any:=fun k1 k2=>by
      have uniq:∀ q oq,ops.toList[q]?=some oq→oq.dst=some t→q=j:=fun q oq hoq hdq=>hd.apart q j oq oj t hoq hoj hdq hdj
      rw [(h1.2 t).2 (fun q oq hoq hdq hl=>k1 (uniq q oq hoq hdq ▸ hl)),(h2.2 t).2 (fun q oq hoq hdq hl=>k2 (uniq q oq hoq hdq ▸ hle q hl))]
    rcases hd.look i j o oj t ho hoj ht hdj with ⟨hji,hb⟩ | rfl | ⟨hij,hb⟩
    · rw [(h1.2 t).1 j oj hoj hdj (hl1 j hb),(h2.2 t).1 j oj hoj hdj (hl2 j hji)]
    · exact before hun (by omega)
    · exact before (hlate j oj hoj hb) (by omega)
  · rw [(h1.2 t).2 (fun j oj hoj hdj _=>hex ⟨j,oj,hoj,hdj⟩),(h2.2 t).2 (fun j oj hoj hdj _=>hex ⟨j,oj,hoj,hdj⟩)]
theorem opA_looks {ops:Array Oper} {o:Oper} {env1 env2:List AVal} (h:∀ t∈o.looksAt ops,env1.getD t .any=env2.getD t .any):∀ x∈o.op.operands,opA env1 x=opA env2 x:=by
  intro x hx
  cases x with
  | tmp t=>
    refine h t ?_
    unfold Oper.looksAt
    refine List.mem_append_left _ (List.mem_filterMap.2 ⟨.tmp t,Array.mem_toList_iff.2 hx,rfl⟩)
  | _=>rfl
theorem wantedA_looks {ops:Array Oper} {o:Oper} {env1 env2:List AVal} (h:∀ t∈o.looksAt ops,env1.getD t .any=env2.getD t .any):wantedA ops env1 o=wantedA ops env2 o:=by
  unfold wantedA
  split
  · rfl
  · rename_i j want hg
    split
    · rename_i t ht
      rw [h t]
      unfold Oper.looksAt
      refine List.mem_append_right _ ?_
      rw [hg]
      have:(ops[j]?).bind (·.dst)=some t:=ht
      simp [this]
    · rfl
theorem bs_same {P:Program} {C:CalT} {ops:Array Oper} {envs:Nat→List AVal} {bs:Nat→Bx} {vs:Nat→AVal} {wn:Nat→Bool} (ht:TrI P C ops ops.toList envs bs vs wn) {s:Nat}:∀ i,s≤i→i≤ops.toList.length→(∀ j o,ops.toList[j]?=some o→isC C o=true→s≤j→¬ j < i)→bs i=bs s
  | 0, hs, _, _ => by have : s = 0 := by omega
                      rw [this]
  | i+1,hs,hi,hn=>by
    by_cases h:s=i+1
    · rw [h]
    · have ho:ops.toList[i]?=some ops.toList[i]:=List.getElem?_eq_getElem (by omega)
      have hc:isC C ops.toList[i]=false:=by
        cases hcc:isC C ops.toList[i] with
        | false=>rfl
        | true=>exact absurd (by omega:i < i+1) (hn i _ ho hcc (by omega))
      rw [ht.still i _ ho hc]
      exact bs_same ht i (by omega) (by omega) fun j o hoj hcj hsj hji=>hn j o hoj hcj hsj (by omega)
theorem bs_tel {R:Bx→Bx→Prop} (hr:∀ B,R B B) (htr:∀ A B D,R A B→R B D→R A D) {bs:Nat→Bx} {s:Nat}:∀ i,s≤i→(∀ j,s≤j→j < i→R (bs j) (bs (j+1)))→R (bs s) (bs i)
  | 0, hs, _ => by have : s = 0 := by omega
                   rw [this]; exact hr _
  | i+1,hs,h=>by
    by_cases he:s=i+1
    · rw [he]; exact hr _
    · exact htr _ _ _ (bs_tel hr htr i (by omega) fun j h1 h2=>h j h1 (by omega)) (h i (by omega) (by omega))
theorem bs_len {P:Program} {C:CalT} {ops:Array Oper} {envs:Nat→List AVal} {bs:Nat→Bx} {vs:Nat→AVal} {wn:Nat→Bool} (ht:TrI P C ops ops.toList envs bs vs wn) {i:Nat} (hi:i≤ops.toList.length):(bs 0).box.length≤(bs i).box.length:=
  bs_tel (R:=fun A B=>A.box.length≤B.box.length) (fun _=>Nat.le_refl _) (fun _ _ _=>Nat.le_trans) i (Nat.zero_le _) fun j _ hj=>(ht.eff j _ (List.getElem?_eq_getElem (by omega))).len
theorem late_same {np:Nat} {P:Program} {C:CalT} {ops:Array Oper} {envs:Nat→List AVal} {bs:Nat→Bx} {vs:Nat→AVal} {wn:Nat→Bool} {n0:Nat} {envN:List AVal} (hd:DrawP np C ops (envs 0).length n0 envN) (ht:TrI P C ops ops.toList envs bs vs wn) {i:Nat} (hi:i≤ops.toList.length) {t:Tmp} (hl:late ops i t=false) :
    (envs ops.toList.length).getD t .any=(envs i).getD t .any:=by
  have h1:=envs_L hd ht i hi
  have h2:=envs_L hd ht ops.toList.length (Nat.le_refl _)
  have notlate:∀ j o,ops.toList[j]?=some o→o.dst=some t→j < i:=fun j o ho hdj=>by
    rcases Nat.lt_or_ge j i with h | h
    · exact h
    · exfalso
      unfold late at hl
      have:=List.any_eq_false.1 hl (o,j) (List.mem_zipIdx_iff_getElem?.2 ho)
      simp [hdj,h] at this
  by_cases hex:∃ (j:Nat) (oj:Oper),ops.toList[j]?=some oj∧oj.dst=some t
  · obtain ⟨j,oj,hoj,hdj⟩:=hex
    have hj:=notlate j oj hoj hdj
    rw [(h2.2 t).1 j oj hoj hdj (by show j < _; omega),(h1.2 t).1 j oj hoj hdj hj]
  · rw [(h2.2 t).2 (fun j oj hoj hdj _=>hex ⟨j,oj,hoj,hdj⟩),(h1.2 t).2 (fun j oj hoj hdj _=>hex ⟨j,oj,hoj,hdj⟩)]
theorem touchesX_spec {np:Nat} {P:Program} {C:CalT} {ops:Array Oper} {envs:Nat→List AVal} {bs:Nat→Bx} {vs:Nat→AVal} {wn:Nat→Bool} {n0:Nat} (hd:DrawP np C ops (envs 0).length n0 (envs ops.toList.length)) (ht:TrI P C ops ops.toList envs bs vs wn) {j b:Nat} {q:List PStep} {o:Oper} (hj:j≤ops.toList.length)
    (h:touchesX ops (envs ops.toList.length) n0 j o b q=false):touches o (opA (envs j)) n0 b q=false:=by
  unfold touchesX at h
  split at h
  · rename_i t x y ho
    split at h
    · rename_i tm
      simp only [Bool.or_eq_false_iff] at h
      have he:=late_same hd ht hj h.1
      have h2:=h.2
      unfold touches at h2 ⊢
      rw [ho] at h2 ⊢
      simp only at h2 ⊢
      have:opA (envs ops.toList.length) (.tmp tm)=opA (envs j) (.tmp tm):=he
      rw [← this]
      exact h2
    · cases h
  · rename_i c ho
    simp only [Bool.or_eq_false_iff] at h
    have hsame:∀ x∈c.args.toList,opA (envs ops.toList.length) x=opA (envs j) x:=fun x hx=>by
      have h1:=List.any_eq_false.1 h.1 x hx
      cases x with
      | tmp tm=>exact late_same hd ht hj (by simpa using h1)
      | _=>rfl
    have h2:=h.2
    have hmap:c.args.toList.map (opA (envs ops.toList.length))=c.args.toList.map (opA (envs j)):=List.map_congr_left hsame
    unfold touches at h2 ⊢
    rw [ho] at h2 ⊢
    simp only [hmap] at h2 ⊢
    split at h2
    · rename_i hcal
      split at h2
      · rename_i s y hargs
        rw [← hsame s (by rw [hargs]; simp)]
        exact h2
      · cases h2
    · exact h2
    · cases h2
  · rename_i hno hno2
    unfold touches at h ⊢
    cases hop:o.op<;>rw [hop] at h<;>first | exact h | skip
    · exact absurd hop (hno _ _ _)
    · exact absurd hop (hno2 _)
structure Stands (C:CalT) (ops:Array Oper) (env0:List AVal) (bs:Nat→Bx) (vs:Nat→AVal) (listed:Array Bool) (env:List AVal) (B:Bx):Prop where
  size:listed.size=ops.size
  closed:Closed ops.toList fun j=>listed.getD j false=true
  env:EnvL ops vs env0 (fun j=>listed.getD j false=true) env
  stage:∃ s,s≤ops.toList.length∧B=bs s∧∀ j o,ops.toList[j]?=some o→isC C o=true→(listed.getD j false=true↔j < s)
theorem toList_get {ops:Array Oper} {i:Nat} {o:Oper}:ops.toList[i]?=some o↔ops[i]?=some o:=by rw [Array.getElem?_toList]
theorem Stands.take {np:Nat} {P:Program} {C:CalT} {ops:Array Oper} {envs:Nat→List AVal} {bs:Nat→Bx} {vs:Nat→AVal} {wn:Nat→Bool} {listed:Array Bool} {env:List AVal} {B:Bx} {i:Nat} {o:Oper} {n0:Nat} (hn0:(bs 0).box.length=n0) (hd:DrawP np C ops (envs 0).length n0 (envs ops.toList.length)) (ht:TrI P C ops ops.toList envs bs vs wn)
    (h:Stands C ops (envs 0) bs vs listed env B) (hpre:∀ (j:Nat) (o:Oper),j < np→ops.toList[j]?=some o→isAl o=true→listed.getD j false=true) (hi:i∈Region.ready .any ops listed) (ho:ops[i]?=some o) :
    wantedA ops env o=some (wn i)∧∃ B',Stands C ops (envs 0) bs vs (listed.setIfInBounds i true) (setA env o.dst (vs i)) B'∧(wn i=true→OpD P o (opA env) B (vs i) B')∧(wn i=false→vs i=.tuple .nil∧B'=B):=by
  obtain ⟨hun,o',ho',hall⟩:=mem_ready.1 hi
  rw [ho] at ho'; cases ho'
  have hol:=toList_get.2 ho
  have hil:i < ops.toList.length:=(List.getElem?_eq_some_iff.1 hol).1
  have hisz:i < listed.size:=by rw [h.size]; simpa using hil
  have hunf:listed.getD i false=false:=by simp [hisz] at hun ⊢; exact hun
  have hunf':¬ listed.getD i false=true:=by rw [hunf]; simp
  have hfree:∀ (q j:Nat) (oj:Oper),freeA np j oj q o=false∨q≠i:=fun q j oj=>by
    by_cases hq:q=i
    · subst hq
      refine .inl ?_
      unfold freeA
      by_cases hnp:q < np
      · cases hal:isAl o with
        | false=>simp
        | true=>exact absurd (hpre q o hnp hol hal) hunf'
      · simp [hnp]
    · exact .inr hq
  have hfree1:∀ (j:Nat) (oj:Oper),freeA np j oj i o=false:=fun j oj=>(hfree i j oj).resolve_right fun h=>h rfl
  have hfree2:∀ (j:Nat) (oj:Oper),i < j→freeA np i o j oj=false:=fun j oj hij=>by
    unfold freeA
    by_cases hnp:j < np
    · cases hal:isAl o with
      | false=>simp
      | true=>exact absurd (hpre i o (by omega) hol hal) hunf'
    · simp [hnp]
  have hanc:∀ j,((ancs ops.toList).getD i 0).testBit j=true→listed.getD j false=true:=anc_listed h.closed hd.edge i o hol hall
  have hset:∀ j,(listed.setIfInBounds i true).getD j false=true↔listed.getD j false=true∨j=i:=fun j=>by
    by_cases hji:j=i
    · subst hji; simp [hisz]
    · have:(listed.setIfInBounds i true).getD j false=listed.getD j false:=getD_set_ne false (Ne.symm hji)
      rw [this]; simp [hji]
  have hlook:=same_looks (P:=P) hd h.env (envs_L hd ht i (by omega)) hol hanc (fun j hj=>hj) (fun j hj=>hj) hunf' (fun j oj hoj hb hlj=>hunf' (anc_listed h.closed hd.edge j oj hoj (fun e he hb=>h.closed j oj hoj hlj e he hb) i hb))
  have hops:=opA_looks hlook
  have hclosed':Closed ops.toList fun j=>(listed.setIfInBounds i true).getD j false=true:=by
    intro j oj hoj hlj e he hb
    refine (hset e.on).2 (.inl ?_)
    rcases (hset j).1 hlj with hlj | rfl
    · exact h.closed j oj hoj hlj e he hb
    · rw [hol] at hoj; cases hoj
      exact hall e he hb
  have henv':=EnvL.step hd h.env hol hset hunf'
  obtain ⟨s,hs,rfl,hst⟩:=h.stage
  have opcong:∀ {B0 B1:Bx} {v:AVal},OpD P o (opA (envs i)) B0 v B1→OpD P o (opA env) B0 v B1:=fun hop G a w ha hw next Q hn=>hop G a w (fun x hx=>by rw [← hops x hx]; exact ha x hx) hw next Q hn
  refine ⟨by rw [wantedA_looks hlook]; exact ht.wanted i o hol,?_⟩
  by_cases hp:isP C o=true
  · have hc:isC C o=false:=by simp [isC,hp]
    refine ⟨bs s,⟨by simp [h.size],hclosed',henv',s,hs,rfl,fun j oj hoj hcj=>?_⟩,fun hw=>opcong ((ht.run i o hol hw).2.1 hp (bs s)) ,fun hw=>⟨(ht.skip i o hol hw).1,rfl⟩⟩
    rw [hset j,← hst j oj hoj hcj]
    refine ⟨fun hh=>hh.resolve_right fun hji=>?_,.inl⟩
    subst hji; rw [hol] at hoj; cases hoj
    rw [hc] at hcj; cases hcj
  · have hp':isP C o=false:=by simpa using hp
    have order:∀ j oj,ops.toList[j]?=some oj→isC C oj=true→(inOrder C ops (envs ops.toList.length) n0 j oj i o=true∧inOrder C ops (envs ops.toList.length) n0 i o j oj=true)→(j < s↔j < i):=fun j oj hoj hcj hin=>by
      rw [← hst j oj hoj hcj]
      refine ⟨fun hlj=>?_,fun hji=>hanc j (hd.conf i j o oj hol hoj hji (hfree1 j oj) hin.1)⟩
      rcases Nat.lt_or_ge j i with hh | hh
      · exact hh
      · have hne:j≠i:=fun he=>by subst he; exact hunf' hlj
        have hanc2:((ancs ops.toList).getD j 0).testBit i=true:=hd.conf j i oj o hoj hol (by omega) (hfree2 j oj (by omega)) hin.2
        have:=anc_listed h.closed hd.edge j oj hoj (fun e he hb=>h.closed j oj hoj hlj e he hb) i hanc2
        exact absurd this hunf'
    by_cases hc:isC C o=true
    · have hsame:∀ j oj,ops.toList[j]?=some oj→isC C oj=true→(j < s↔j < i):=fun j oj hoj hcj=>order j oj hoj hcj (by simp [inOrder,hcj,hc])
      have hbs:bs i=bs s:=by
        rcases Nat.le_total s i with hsi | his
        · exact bs_same ht i hsi (by omega) fun j oj hoj hcj hsj hji=>by have:=(hsame j oj hoj hcj).2 hji; omega
        · exact (bs_same ht s his hs fun j oj hoj hcj hij hjs=>by have:=(hsame j oj hoj hcj).1 hjs; omega).symm
      refine ⟨bs (i+1),⟨by simp [h.size],hclosed',henv',?_⟩,fun hw=>by rw [← hbs]; exact opcong (ht.run i o hol hw).1,fun hw=>⟨(ht.skip i o hol hw).1,by rw [(ht.skip i o hol hw).2,hbs]⟩⟩
      refine ⟨i+1,by omega,rfl,fun j oj hoj hcj=>?_⟩
      rw [hset j,hst j oj hoj hcj,hsame j oj hoj hcj]
      omega
    · have hc':isC C o=false:=by simpa using hc
      have hr:isR C o=true:=by
        cases hrr:isR C o with
        | true=>rfl
        | false=>simp [isC,hp',hrr] at hc'
      have unord:∀ j oj,ops.toList[j]?=some oj→isC C oj=true→¬ (j < s↔j < i)→clash C ops (envs ops.toList.length) n0 i o j oj=false:=fun j oj hoj hcj hn=>by
        cases hcl:clash C ops (envs ops.toList.length) n0 i o j oj with
        | false=>rfl
        | true=>exact absurd (order j oj hoj hcj ⟨by unfold inOrder; rw [hcj,hr,hcl]; simp,by unfold inOrder; rw [hcj,hr,hcl]; simp⟩) hn
      have tel:∀ (R:Bx→Bx→Prop),(∀ B,R B B)→(∀ A B D,R A B→R B D→R A D)→(∀ A B,R A B→R B A)→(∀ j oj,ops.toList[j]?=some oj→isC C oj=true→clash C ops (envs ops.toList.length) n0 i o j oj=false→R (bs j) (bs (j+1)))→R (bs i) (bs s):=fun R h1 h2 h3 h4=>by
        have step:∀ j,j < ops.toList.length→¬ (j < s↔j < i)→R (bs j) (bs (j+1)):=fun j hj hn=>by
          have hoj:ops.toList[j]?=some ops.toList[j]:=List.getElem?_eq_getElem hj
          cases hcj:isC C ops.toList[j] with
          | false=>rw [ht.still j _ hoj hcj]; exact h1 _
          | true=>exact h4 j _ hoj hcj (unord j _ hoj hcj hn)
        rcases Nat.le_total s i with hsi | his
        · exact h3 _ _ (bs_tel h1 h2 i hsi fun j h5 h6=>step j (by omega) (by omega))
        · exact bs_tel h1 h2 s his fun j h5 h6=>step j (by omega) (by omega)
      have hsame:Same C o (opA (envs i)) (bs i) (bs s):=by
        unfold Same
        split
        · rename_i tt x hop
          refine ⟨fun b p hx=>?_,fun tk b T i' p hx=>?_⟩
          rotate_left
          · refine tel (fun A B=>B.box[b]?=A.box[b]?) (fun _=>rfl) (fun _ _ _ k1 k2=>k2.trans k1) (fun _ _ k=>k.symm) fun j oj hoj hcj hcl=>?_
            exfalso
            unfold clash at hcl
            rw [hop] at hcl
            simp only at hcl
            split at hcl
            · rename_i tm
              simp only [Bool.or_eq_false_iff] at hcl
              have he:=late_same hd ht (by omega) hcl.1
              have hx':(envs i).getD tm .any=.vptr tk b T i' p:=hx
              have hcl2:=hcl.2
              rw [he,hx'] at hcl2
              simp at hcl2
            · cases hcl
          refine tel (fun A B=>atP B b p=atP A b p) (fun _=>rfl) (fun _ _ _ k1 k2=>k2.trans k1) (fun _ _ k=>k.symm) fun j oj hoj hcj hcl=>?_
          have hjl:j≤ops.toList.length:=by have:=(List.getElem?_eq_some_iff.1 hoj).1; omega
          unfold clash at hcl
          rw [hop] at hcl
          simp only at hcl
          split at hcl
          · rename_i tm
            simp only [Bool.or_eq_false_iff] at hcl
            have he:=late_same hd ht (by omega) hcl.1
            have hx':(envs i).getD tm .any=.bptr b p:=hx
            have hcl2:=hcl.2
            rw [he,hx'] at hcl2
            simp only at hcl2
            exact (ht.eff j oj hoj).keep n0 b p (by rw [← hn0]; exact bs_len ht hjl) (touchesX_spec hd ht hjl hcl2)
          · cases hcl
        · rename_i tt m ix okk hop
          intro b hx
          refine tel (fun A B=>B.box[b]?=A.box[b]?) (fun _=>rfl) (fun _ _ _ k1 k2=>k2.trans k1) (fun _ _ k=>k.symm) fun j oj hoj hcj hcl=>?_
          have hjl:j≤ops.toList.length:=by have:=(List.getElem?_eq_some_iff.1 hoj).1; omega
          unfold clash at hcl
          rw [hop] at hcl
          simp only at hcl
          split at hcl
          · rename_i tm
            simp only [Bool.or_eq_false_iff] at hcl
            have he:=late_same hd ht (by omega) hcl.1
            have hx':(envs i).getD tm .any=.mref b:=hx
            have hcl2:=hcl.2
            rw [he,hx'] at hcl2
            simp only at hcl2
            have:=(ht.eff j oj hoj).keep n0 b [] (by rw [← hn0]; exact bs_len ht hjl) (touchesX_spec hd ht hjl hcl2)
            rwa [atP_nil,atP_nil] at this
          · cases hcl
        · rename_i cc hop
          cases ha:isAny C o with
          | true=>exact .inl rfl
          | false=>
            refine .inr (tel (SimT (cc.args.toList.map (opA (envs i)))) (SimT.refl _) (fun _ _ _=>SimT.trans) (fun _ _=>SimT.symm) fun j oj hoj hcj hcl=>?_)
            have hjl:j≤ops.toList.length:=by have:=(List.getElem?_eq_some_iff.1 hoj).1; omega
            cases hnn:isN C oj with
            | true=>exact (ht.sim j oj hoj hnn).t
            | false=>
              unfold clash at hcl
              rw [hop] at hcl
              simp only [ha,hnn,Bool.not_false,Bool.true_and,Bool.not_eq_false',Bool.and_eq_true] at hcl
              obtain ⟨hal,hall⟩:=hcl
              intro b hb
              obtain ⟨y,hy,hyb⟩:=List.any_eq_true.1 hb
              obtain ⟨x,hx,rfl⟩:=List.mem_map.1 hy
              have hx1:=List.all_eq_true.1 hall x hx
              have hbn:b < n0:=by
                split at hx1
                · rename_i tm
                  simp only [Bool.and_eq_true,Bool.not_eq_true'] at hx1
                  have he:=late_same hd ht (by omega) hx1.1
                  have hx2:=hx1.2
                  rw [he] at hx2
                  have hyb':(match (envs i).getD tm .any with | .bptr c _=>c==b | .d _ _=>false | _=>true)=true:=hyb
                  split at hx2
                  · rename_i c p hc
                    rw [hc] at hyb'
                    simp only [beq_iff_eq] at hyb'
                    subst hyb'
                    simpa using hx2
                  · rename_i T z hc
                    rw [hc] at hyb'
                    cases hyb'
                  · cases hx2
                · cases hx1
              have hk:=(ht.eff j oj hoj).keep n0 b [] (by rw [← hn0]; exact bs_len ht hjl) (by
                split at hal
                · rename_i ty hoa
                  simp only [touches,hoa,decide_eq_true hbn,Bool.not_true]
                · cases hal)
              rwa [atP_nil,atP_nil] at hk
        · rename_i hop2 hop hop3
          cases ha:isAny C o with
          | true=>exact .inl rfl
          | false=>
            refine .inr (tel Sim Sim.refl (fun _ _ _=>Sim.trans) (fun _ _=>Sim.symm) fun j oj hoj hcj hcl=>?_)
            unfold clash at hcl
            split at hcl
            · rename_i tt x hl
              exact absurd hl (hop2 _ _)
            · rename_i tt m ix okk hl
              exact absurd hl (hop _ _ _ _)
            · rename_i c2 hl
              exact absurd hl (hop3 _)
            · have hnn:isN C oj=true:=by simpa [ha] using hcl
              exact ht.sim j oj hoj hnn
      refine ⟨bs s,⟨by simp [h.size],hclosed',henv',s,hs,rfl,fun j oj hoj hcj=>?_⟩,fun hw=>opcong ((ht.run i o hol hw).2.2 hr (bs s) hsame),fun hw=>⟨(ht.skip i o hol hw).1,rfl⟩⟩
      rw [hset j,← hst j oj hoj hcj]
      refine ⟨fun hh=>hh.resolve_right fun hji=>?_,.inl⟩
      subst hji; rw [hol] at hoj; cases hoj
      rw [hc'] at hcj; cases hcj
theorem all_listed {np:Nat} {C:CalT} {ops:Array Oper} {env0:List AVal} {listed:Array Bool} {n0:Nat} {envN:List AVal} (hd:DrawP np C ops env0.length n0 envN) (hsz:listed.size=ops.size) (h:Region.ready .any ops listed=[]):∀ i,i < ops.size→listed.getD i false=true:=by
  intro i
  induction i using Nat.strongRecOn with
  | _ i ih=>
    intro hi
    cases hl:listed.getD i false with
    | true=>rfl
    | false=>
      exfalso
      have ho:ops[i]?=some ops[i]:=Array.getElem?_eq_getElem hi
      have hmem:i∈Region.ready .any ops listed:=mem_ready.2 ⟨by
        have:i < listed.size:=by rw [hsz]; exact hi
        simp [this] at hl ⊢; exact hl,ops[i],ho,fun e he hb=>by
        have:=hd.edge i _ (toList_get.2 ho) e he hb
        exact ih e.on this (by omega)⟩
      rw [h] at hmem
      cases hmem
theorem draw_any {np:Nat} {n:Nat} {f:Bool} {P:Program} {C:CalT} {ops:Array Oper} {envs:Nat→List AVal} {bs:Nat→Bx} {vs:Nat→AVal} {wn:Nat→Bool} (hd:DrawP np C ops (envs 0).length (bs 0).box.length (envs ops.toList.length)) (ht:TrI P C ops ops.toList envs bs vs wn) {Q:Exit→Act→World→Prop} (r:Option Nat) :
    ∀ (fuel:Nat) (listed:Array Bool) (env:List AVal) (B:Bx) (G:Gh) (a:Act) (w:World),listed.toList.count false≤fuel→Stands C ops (envs 0) bs vs listed env B→(∀ (j:Nat) (o:Oper),j < np→ops.toList[j]?=some o→isAl o=true→listed.getD j false=true)→Ok G B env a w→
      (∀ G1 a1 w1,Goes n f B.dead G a w G1 (bs ops.toList.length) (envs ops.toList.length) a1 w1→Q .normal a1 w1)→wpAnyIn (Fr r) 0 P .any ops Q fuel listed a w:=by
  have fin:∀ (listed:Array Bool) (env:List AVal) (B:Bx) (G:Gh) (a:Act) (w:World),Stands C ops (envs 0) bs vs listed env B→Ok G B env a w→Region.ready .any ops listed=[]→
      (∀ G1 a1 w1,Goes n f B.dead G a w G1 (bs ops.toList.length) (envs ops.toList.length) a1 w1→Q .normal a1 w1)→Q .normal a w:=by
    intro listed env B G a w hs hok hr hQ
    have hall:=all_listed hd hs.size hr
    obtain ⟨s,hsl,rfl,hst⟩:=hs.stage
    have hb:bs ops.toList.length=bs s:=bs_same ht _ hsl (Nat.le_refl _) fun j o hoj hcj hsj hji=>by
      have:=(hst j o hoj hcj).1 (hall j (by simpa using hji)); omega
    have henv:env=envs ops.toList.length:=by
      have h2:=envs_L hd ht ops.toList.length (Nat.le_refl _)
      have h1:=hs.env
      apply List.ext_getElem?
      intro t
      have hg:env.getD t .any=(envs ops.toList.length).getD t .any:=by
        by_cases hex:∃ (j:Nat) (oj:Oper),ops.toList[j]?=some oj∧oj.dst=some t
        · obtain ⟨j,oj,hoj,hdj⟩:=hex
          have hj:=(List.getElem?_eq_some_iff.1 hoj).1
          rw [(h1.2 t).1 j oj hoj hdj (hall j (by simpa using hj)),(h2.2 t).1 j oj hoj hdj hj]
        · rw [(h1.2 t).2 (fun j oj hoj hdj _=>hex ⟨j,oj,hoj,hdj⟩),(h2.2 t).2 (fun j oj hoj hdj _=>hex ⟨j,oj,hoj,hdj⟩)]
      have hlen:env.length=(envs ops.toList.length).length:=by rw [h1.1,h2.1]
      rcases Nat.lt_or_ge t env.length with hlt | hge
      · rw [List.getD_eq_getElem?_getD,List.getD_eq_getElem?_getD,List.getElem?_eq_getElem hlt,List.getElem?_eq_getElem (by omega)] at hg
        rw [List.getElem?_eq_getElem hlt,List.getElem?_eq_getElem (by omega)]
        simpa using hg
      · rw [List.getElem?_eq_none hge,List.getElem?_eq_none (by omega)]
    have hok2:Ok G (bs ops.toList.length) (envs ops.toList.length) a w:=by rw [hb,← henv]; exact hok
    have:=Goes.refl (n:=n) (f:=f) hok2
    rw [hb] at this
    rw [hb] at hQ
    exact hQ G a w this
  intro fuel
  induction fuel with
  | zero=>
    intro listed env B G a w hc hs hpre hok hQ
    have hr:Region.ready .any ops listed=[]:=by
      cases hrr:Region.ready .any ops listed with
      | nil=>rfl
      | cons i l=>
        exfalso
        obtain ⟨hun,o,ho,_⟩:=mem_ready.1 (by rw [hrr]; exact List.mem_cons_self:i∈Region.ready .any ops listed)
        have hi:i < listed.size:=by rw [hs.size]; exact (Array.getElem?_eq_some_iff.1 ho).1
        have hf:listed[i]=false:=by simp [hi] at hun; exact hun
        have:false∈listed.toList:=by rw [← hf]; exact Array.mem_toList_iff.2 (Array.getElem_mem hi)
        have:=List.count_pos_iff.2 this
        omega
    exact ⟨hr,fin listed env B G a w hs hok hr hQ⟩
  | succ fuel ih=>
    intro listed env B G a w hc hs hpre hok hQ
    refine ⟨fun hr=>fin listed env B G a w hs hok hr hQ,fun i hi=>?_⟩
    obtain ⟨hun,o,ho,_⟩:=mem_ready.1 hi
    obtain ⟨hwa,B',hs',hrun,hskip⟩:=hs.take rfl hd ht hpre hi ho
    have hlt:i < listed.size:=by rw [hs.size]; exact (Array.getElem?_eq_some_iff.1 ho).1
    have hpre':(∀ (j:Nat) (o:Oper),j < np→ops.toList[j]?=some o→isAl o=true→listed.getD j false=true)→∀ (j:Nat) (o:Oper),j < np→ops.toList[j]?=some o→isAl o=true→(listed.setIfInBounds i true).getD j false=true:=fun hp j oj h1 h2 h3=>by
      by_cases e:j=i
      · subst e; simp [hlt]
      · have:(listed.setIfInBounds i true).getD j false=listed.getD j false:=getD_set_ne false (Ne.symm e)
        rw [this]; exact hp j oj h1 h2 h3
    have hcount:(listed.setIfInBounds i true).toList.count false≤fuel:=by
      have hf:listed[i]=false:=by simp [hlt] at hun; exact hun
      have:(listed.setIfInBounds i true).toList=listed.toList.set i true:=by simp
      rw [this]
      have hl:i < listed.toList.length:=by simpa using hlt
      have hfi:listed.toList[i]=false:=by simpa using hf
      have e1:listed.toList=listed.toList.take i++false::listed.toList.drop (i+1):=by
        rw [← hfi,← List.drop_eq_getElem_cons hl,List.take_append_drop]
      have e2:listed.toList.set i true=listed.toList.take i++true::listed.toList.drop (i+1):=by
        rw [List.set_eq_take_append_cons_drop,if_pos hl]
      have c1:=congrArg (List.count false) e1
      have c2:=congrArg (List.count false) e2
      simp only [List.count_append,List.count_cons] at c1 c2
      simp at c1 c2
      rw [e2]
      simp only [List.count_append,List.count_cons]
      simp
      simp at hc
      omega
    unfold wpOpIn
    rw [ho]
    simp only
    cases hw:wn i with
    | true=>
      rw [if_pos (wantedA_spec hok.env (by rw [hwa,hw]))]
      refine hrun hw G a w (fun x _=>hok.env.op x) hok.w _ Q (fun cv G1 w1 h1 h2 h3 h4=>?_) r
      have hok1:Ok G1 B' (setA env o.dst (vs i)) (a.put o.dst cv) w1:=⟨(hok.env.mono h3).put o.dst h1,h2,by rw [put_defers']; exact hok.marks.ext h4⟩
      exact ih _ _ _ _ _ _ hcount hs' (hpre' hpre) hok1 fun G2 a2 w2 h=>hQ G2 a2 w2 (Goes.trans ⟨hok1,h4,⟨(fun d hd=>.inl (by rw [put_defers'] at hd; exact hd)),by rw [put_defers']⟩,(fun i b _ hb=>prefix_getElem? h3.addr hb),fun _=>h3⟩ h)
    | false=>
      rw [if_neg (by rw [wantedA_spec hok.env (by rw [hwa,hw])]; simp)]
      obtain ⟨hv,rfl⟩:=hskip hw
      have hok1:Ok G B' (setA env o.dst (vs i)) (a.put o.dst undef) w:=⟨hok.env.put o.dst (by rw [hv]; exact undef_v G _),hok.w,by rw [put_defers']; exact hok.marks⟩
      exact ⟨fun _ _=>trivial,ih _ _ _ _ _ _ hcount hs' (hpre' hpre) hok1 fun G2 a2 w2 h=>hQ G2 a2 w2 (Goes.trans ⟨hok1,Ext.refl _ _,⟨(fun d hd=>.inl (by rw [put_defers'] at hd; exact hd)),by rw [put_defers']⟩,(fun _ _ _ h=>h),fun _=>GLe.refl _ _⟩ h)⟩
theorem draw_sound {n:Nat} {f:Bool} {P:Program} {C:CalT} {ops:Array Oper} {id:Nat} {env env':List AVal} {B B':Bx} (hm:P.follows .mixedOrders=true) (hd:drawOk C ops env.length B.box.length env'=true) (ht:Tr P C ops ops.toList env B env' B') {G:Gh} {a:Act} {w:World} {Q:Exit→Act→World→Prop} (r:Option Nat) (hok:Ok G B env a w)
    (hQ:∀ G1 a1 w1,Goes n f B.dead G a w G1 B' env' a1 w1→Q .normal a1 w1):(Code.region id ops true).wpIn (Fr r) 0 P Q a w:=by
  obtain ⟨envs,bs,vs,wn,rfl,rfl,rfl,rfl,hti⟩:=tr_index ht
  have hdp:DrawP 0 C ops (envs 0).length (bs 0).box.length (envs ops.toList.length):=drawOk_spec (np:=0) hd
  refine wpIn_region_any hm ?_
  have hok':Ok G (bs 0) (envs 0) a w.drew:=⟨hok.env,hok.w.heap rfl,hok.marks.ext (Ext.drew G w)⟩
  have hrep:∀ j,(Array.replicate ops.size false).getD j false=false:=fun j=>by
    rcases Nat.lt_or_ge j ops.size with h | h
    · simp [h]
    · simp [h]
  refine draw_any hdp hti r ops.size (Array.replicate ops.size false) (envs 0) (bs 0) G a w.drew (by simp) ⟨by simp,(fun i o _ h=>by simp only [hrep] at h; cases h),⟨rfl,fun t=>⟨(fun j o _ _ h=>by simp only [hrep] at h; cases h),fun _=>rfl⟩⟩,0,Nat.zero_le _,rfl,fun j o _ _=>by rw [hrep]; simp⟩ (fun j o h=>absurd h (Nat.not_lt_zero j)) hok' fun G1 a1 w1 h=>hQ G1 a1 w1 ⟨h.ok,(Ext.drew G w).trans h.ext,h.defers,h.held,h.full⟩
end Go.Proofs.YtkeipcalbbmncaaGreat.Abs
