import Derived.Test.YtkeipcalbbmncaaGreatA3
import Derived.ChangeArms
import Derived.OpenShut
import Derived.ChangeSame
import Derived.Carry
import Derived.Lib.LaidTab
import Derived.RecoverIn
noncomputable section
set_option linter.unusedVariables false
set_option linter.unusedSimpArgs false
namespace Go.Proofs.YtkeipcalbbmncaaGreat.Abs
structure CEnt where
  g:FuncId
  ok:List AVal→Bx→Bool
  run:(X:Type)→List AVal→Bx→(AVal→Bx→Option X)→Option X
  ro:Bool
  any:Bool
def CEnt.Valid (P:Program) (e:CEnt):Prop:=∀ (X:Type) (args:List AVal) (B:Bx) (k:AVal→Bx→Option X) (r:X),e.run X args B k=some r→∃ v B',k v B'=some r∧ACall P e.g args B v B'∧(e.ro=true→B'=B∧∀ B0,SimT args B B0→ACall P e.g args B0 v B0)∧(e.any=true→∀ B0,ACall P e.g args B0 v B0)∧B.box.length≤B'.box.length∧(kpF e.g=true→∀ b,b < B.box.length→argK e.g args b=false→B'.box[b]?=B.box[b]?)
def tabGo {X:Type} (g:FuncId) (args:List AVal) (B:Bx) (k:AVal→Bx→Option X):List CEnt→Option X
  | []=>none
  | e::l=>bif e.g==g&&e.ok args B then e.run X args B k else tabGo g args B k l
def roGo (g:FuncId):List CEnt→Bool
  | []=>true
  | e::l=>(bif e.g==g then e.ro else true)&&roGo g l
def anyGo (g:FuncId):List CEnt→Bool
  | []=>true
  | e::l=>(bif e.g==g then e.any else true)&&anyGo g l
def tabC (l:List CEnt):CalT:=⟨fun _ g args B k=>tabGo g args B k l,fun g=>roGo g l,fun g=>anyGo g l,false,fun _=>false,false⟩
def AllV (P:Program):List CEnt→Prop
  | []=>True
  | e::l=>e.Valid P∧AllV P l
theorem tabC_valid {P:Program} {l:List CEnt} (h:AllV P l):CV P (tabC l):=by
  intro X g args B k r hr
  have main:∀ l,AllV P l→tabGo g args B k l=some r→∃ v B',k v B'=some r∧ACall P g args B v B'∧(roGo g l=true→B'=B∧∀ B0,SimT args B B0→ACall P g args B0 v B0)∧(anyGo g l=true→∀ B0,ACall P g args B0 v B0)∧B.box.length≤B'.box.length∧(kpF g=true→∀ b,b < B.box.length→argK g args b=false→B'.box[b]?=B.box[b]?):=by
    intro l
    induction l with
    | nil=>intro _ h; cases h
    | cons e l ih=>
      intro hv h
      simp only [tabGo] at h
      cases hb:e.g==g&&e.ok args B with
      | true=>
        simp only [hb,cond_true] at h
        simp only [Bool.and_eq_true] at hb
        have he:e.g=g:=by simpa using hb.1
        obtain ⟨v,B',h1,h2,h3,h5,h6⟩:=hv.1 X args B k r h
        rw [he] at h2 h3 h5 h6
        refine ⟨v,B',h1,h2,fun h4=>h3 ?_,fun h4=>h5 ?_,h6⟩
        · simp only [roGo,hb.1,cond_true,Bool.and_eq_true] at h4
          exact h4.1
        · simp only [anyGo,hb.1,cond_true,Bool.and_eq_true] at h4
          exact h4.1
      | false=>
        simp only [hb,cond_false] at h
        obtain ⟨v,B',h1,h2,h3,h5,h6⟩:=ih hv.2 h
        refine ⟨v,B',h1,h2,fun h4=>h3 ?_,fun h4=>h5 ?_,h6⟩
        · simp only [roGo,Bool.and_eq_true] at h4
          exact h4.2
        · simp only [anyGo,Bool.and_eq_true] at h4
          exact h4.2
  obtain ⟨v,B',h1,h2,h3,h5,h6⟩:=main l h hr
  exact ⟨v,B',h1,h2,h3,h5,h6.1,h6.2⟩
def fits (S:CSpec) (args:List AVal) (B:Bx):Bool:=
  let sel:=selA S args B
  let fb:=fun b=>idxIn b sel
  nodupB sel&&sel.length==S.I.length&&args.length==S.A.length &&
    match SPat.dec ⟨S.A,S.I,S.nt⟩ (args.map fun a=>a.ren fb id) ⟨sel.map fun b=>(B.box.getD b .any).ren fb id,B.dead,B.nt⟩ with
    | some _=>true
    | none=>false
def pureE (g:FuncId) (A:List PTy) (R:PTy) (f:Els A→Option R.El):CEnt:=⟨g,fun args B=>fits (pureS A R) args B,fun _ args B k=>pureK A R f args B k,true,true⟩
def boxE (g:FuncId) (S:CSpec) (f:S.In→Option S.Out):CEnt:=⟨g,fun args B=>fits S args B,fun _ args B k=>bif !kpF g||(selA S args B).all (fun b=>argK g args b) then callK S f args B k else none,false,false⟩
def viewE (g:FuncId) (A:List PTy) (R:PTy) (f:Els A→Option R.El):CEnt:=⟨g,fun args B=>args.length==A.length&&(match decs A (viewA B A args) with | some _=>true | none=>false),fun _ args B k=>viewK A R f args B k,true,false⟩
theorem pureK_at {X:Type} {A:List PTy} {R:PTy} {f:Els A→Option R.El} {args:List AVal} {B:Bx} {k:AVal→Bx→Option X} {res:X} (h:pureK A R f args B k=some res):∃ q,k (R.enc q) B=some res∧∀ B0,pureK A R f args B0 (fun v _=>some v)=some (R.enc q):=by
  unfold pureK at h ⊢
  cases hb:args.length==A.length with
  | false=>rw [hb] at h; cases h
  | true=>
    rw [hb] at h
    simp only [cond_true] at h ⊢
    split at h
    · rename_i x hd
      cases hf:f x.1 with
      | none=>rw [hf] at h; cases h
      | some q=>
        rw [hf] at h
        exact ⟨q,h,fun B0=>rfl⟩
    · cases h
theorem pureE_valid {P:Program} {g:FuncId} {A:List PTy} {R:PTy} {f:Els A→Option R.El} (hA:A.all PTy.pure=true) (hR:R.pure=true) (hent:Ent P g)
    (hcall:∀ x r,f x=some r→LCall 0 P g (encs A x) ⟨[],[],0⟩ (R.enc r) ⟨[],[],0⟩):(pureE g A R f).Valid P:=by
  intro X args B k r h
  obtain ⟨q,h1,h2⟩:=pureK_at h
  have hac:∀ B0,ACall P g args B0 (R.enc q) B0:=fun B0=>by
    obtain ⟨q',e,hac⟩:=pure_sound hA hR hent hcall (h2 B0)
    simp only [Option.some.injEq] at e
    rw [e] at hac
    exact hac
  exact ⟨_,_,h1,hac B,fun _=>⟨rfl,fun B0 _=>hac B0⟩,fun _=>hac,Nat.le_refl _,fun _ _ _ _=>rfl⟩
theorem callB_keep {S:CSpec} {args:List AVal} {B:Bx} {r:S.Out} {b:Nat} (hb:b < B.box.length) (hs:b ∉ selA S args B):(callB S args B r).2.box[b]?=B.box[b]?:=by
  simp only [callB]
  rw [List.getElem?_append_left (by rw [setSel_len]; exact hb),setSel_other hs]
theorem boxE_valid {P:Program} {g:FuncId} {S:CSpec} {f:S.In→Option S.Out} (hS:S.ok=true) (hent:Ent' P g)
    (hcall:∀ x r,f x=some r→LCall S.I.length P g (encs S.A x.1) ⟨encs S.I x.2,[],S.nt⟩ (S.R.enc r.1) ⟨encs S.O r.2,[],S.ntO⟩):(boxE g S f).Valid P:=by
  intro X args B k r h
  have hsel:kpF g=true→∀ b∈selA S args B,argK g args b=true:=fun hp b hb=>by
    simp only [boxE,hp,Bool.not_true,Bool.false_or] at h
    cases ha:(selA S args B).all (fun b=>argK g args b) with
    | false=>rw [ha] at h; cases h
    | true=>exact List.all_eq_true.1 ha b hb
  have h':callK S f args B k=some r:=by
    simp only [boxE,cond_eq_ite] at h
    split at h
    · exact h
    · cases h
  obtain ⟨q,h1,h2⟩:=call_sound hS hent hcall h'
  exact ⟨_,_,h1,h2,(fun h=>by cases h),(fun h=>by cases h),by simp only [callB,List.length_append,setSel_len]; omega,fun hp b hb ha=>callB_keep hb fun hm=>by have h9:=hsel hp b hm; rw [show argK g args b=false from ha] at h9; cases h9⟩
theorem viewA_sim {B B0:Bx}:{ps:List PTy}→{az:List AVal}→SimT az B B0→viewA B0 ps az=viewA B ps az
  | [],az,_=>by cases az<;>rfl
  | p::ps,[],_=>rfl
  | p::ps,a::az,hs=>by
    have h1:viewOne B0 p a=viewOne B p a:=by
      cases p with
      | dat T=>
        simp only [viewOne]
        by_cases hp:∃ b q,a=.bptr b q
        · obtain ⟨b,q,rfl⟩:=hp; rfl
        · by_cases hd:∃ T x,a=.d T x
          · obtain ⟨T,x,rfl⟩:=hd; rfl
          · have hbx:B0.box=B.box:=by
              apply List.ext_getElem?
              intro b
              refine hs b ?_
              simp only [argT,List.any_cons,Bool.or_eq_true]
              left
              cases a<;>first | rfl | exact absurd ⟨_,_,rfl⟩ hp | exact absurd ⟨_,_,rfl⟩ hd
            have key:∀ a,thawA B0 a=thawA B a:=fun a=>by
              induction a with
              | cons x y ih1 ih2=>simp only [thawA,ih1,ih2]
              | vec t b T n=>simp only [thawA,hbx]
              | _=>rfl
            exact key a
      | ip T=>cases a with
        | bptr b q=>simp only [viewOne,hs b (by simp [argT])]
        | _=>rfl
      | _=>rfl
    simp only [viewA,h1,viewA_sim (ps:=ps) (az:=az) (fun b hb=>hs b (by simp only [argT,List.any_cons] at hb ⊢; rw [hb]; simp))]
theorem thwP_sim {B B0:Bx}:{ps:List PTy}→{az:List AVal}→SimT az B B0→thwP B ps az→thwP B0 ps az
  | [],az,_,_=>by simp only [thwP]
  | p::ps,[],_,_=>by cases p<;>simp only [thwP]
  | p::ps,a::az,hs,hp=>by
    have ht:SimT az B B0:=fun b hb=>hs b (by simp only [argT,List.any_cons] at hb ⊢; rw [hb]; simp)
    cases p with
    | dat T=>
      refine ⟨?_,thwP_sim ht hp.2⟩
      have h1:=hp.1
      by_cases hq:∃ b q,a=.bptr b q
      · obtain ⟨b,q,rfl⟩:=hq; exact h1
      · by_cases hd:∃ T x,a=.d T x
        · obtain ⟨T,x,rfl⟩:=hd; exact h1
        · have hbx:B0.box=B.box:=by
            apply List.ext_getElem?
            intro b
            refine hs b ?_
            simp only [argT,List.any_cons,Bool.or_eq_true]
            left
            cases a<;>first | rfl | exact absurd ⟨_,_,rfl⟩ hq | exact absurd ⟨_,_,rfl⟩ hd
          have key:∀ a,thawP B a→thawP B0 a:=fun a=>by
            induction a with
            | cons x y ih1 ih2=>exact fun h=>⟨ih1 h.1,ih2 h.2⟩
            | vec t b T n=>intro h; simp only [thawP,hbx]; exact h
            | _=>exact fun h=>h
          exact key a h1
    | _=>
      simp only [thwP] at hp ⊢
      exact thwP_sim ht hp
theorem viewK_at {X:Type} {A:List PTy} {R:PTy} {f:Els A→Option R.El} {args:List AVal} {B:Bx} {k:AVal→Bx→Option X} {res:X} (h:viewK A R f args B k=some res):∃ q,k (R.enc q) B=some res∧∀ B0,SimT args B B0→viewK A R f args B0 (fun v _=>some v)=some (R.enc q):=by
  have hv:∀ B0,SimT args B B0→viewA B0 A args=viewA B A args:=fun B0 hs=>viewA_sim hs
  unfold viewK at h ⊢
  cases hb:args.length==A.length with
  | false=>rw [hb] at h; cases h
  | true=>
    rw [hb] at h
    simp only [cond_true] at h ⊢
    obtain ⟨hok,h⟩:=thwL_spec.1 h
    split at h
    · rename_i x hd
      cases hf:f x.1 with
      | none=>rw [hf] at h; cases h
      | some q=>
        rw [hf] at h
        refine ⟨q,h,fun B0 hs=>thwL_spec.2 ⟨thwP_sim hs hok,?_⟩⟩
        rw [hv B0 hs,hd]
        simp only [hf]
        rfl
    · cases h
theorem viewE_valid {P:Program} {g:FuncId} {A:List PTy} {R:PTy} {f:Els A→Option R.El} (hA:A.all PTy.pure=true) (hR:R.flat=true) (hent:Ent P g)
    (hcall:∀ x r,f x=some r→LCall 0 P g (encs A x) ⟨[],[],0⟩ (R.enc r) ⟨[],[],0⟩):(viewE g A R f).Valid P:=by
  intro X args B k r h
  obtain ⟨q,h1,h2⟩:=viewK_at h
  have hac:∀ B0,SimT args B B0→ACall P g args B0 (R.enc q) B0:=fun B0 hs=>by
    obtain ⟨q',e,hac⟩:=view_sound hA hR hent hcall (h2 B0 hs)
    simp only [Option.some.injEq] at e
    rw [e] at hac
    exact hac
  exact ⟨_,_,h1,hac B (SimT.refl _ _),(fun _=>⟨rfl,hac⟩),(fun h=>by cases h),Nat.le_refl _,fun _ _ _ _=>rfl⟩
def loopAt (c:Code) (i:Nat):Code:=match (loopsOf c)[i]? with
  | some (.loop b)=>b
  | _=>.skip
def bodyOf (f:Func):Code:=f.body.getD .skip
def noL:LoopT:=⟨fun _ _ _ _=>none⟩
end Go.Proofs.YtkeipcalbbmncaaGreat.Abs
set_option linter.unusedVariables false
set_option linter.unusedSimpArgs false
namespace Go.Proofs.YtkeipcalbbmncaaGreat.Abs
def frzF:(R:PTy)→AVal→Bx→Option R.El
  | .ip T,.bptr b [],B=>match B.box[b]? with
    | some c=>bif c.isM then none else asData c T
    | none=>none
  | R,v,_=>match R.dec v with
    | some y=>some y.1
    | none=>none
theorem frz_lcall {P:Program} {C:CalT} {Ls:List LoopT} {g:FuncId} {fn:Func} {c:Code} {A:List PTy} {R:PTy} {f:Els A→Option R.El} (hm:P.follows .mixedOrders=true) (hf:P.funcs[g]?=some fn) (hb:fn.body=some c) (hent:Ent P g) (hC:CV P C)
    (hL:LV 0 P false (loopsOf c) Ls) (hA:A.all PTy.pure=true) (hR:R.pure=true) (hev:∀ x,fnR P C Ls fn c (encs A x) ⟨[],[],0⟩ (frzF R)=f x) :
    ∀ x r,f x=some r→LCall 0 P g (encs A x) ⟨[],[],0⟩ (R.enc r) ⟨[],[],0⟩:=by
  intro x r hr
  obtain ⟨v,B',hk,hl⟩:=fnR_sound (n:=0) hm hf hb hent hC hL ((hev x).trans hr)
  unfold frzF at hk
  split at hk
  · rename_i T b
    split at hk
    · rename_i c hc
      cases hnm:c.isM with
      | true=>rw [hnm] at hk; cases hk
      | false=>
        rw [hnm] at hk
        simp only [cond_false] at hk
        refine ⟨hl.1,fun G w vs hvs hw=>(hl.2 G w vs hvs hw).mono ?_⟩
        rintro e w' ⟨cv,G1,rfl,h1,h2,h3,h4⟩
        obtain ⟨blk,hblk,_,rfl⟩:=ptr_form h1
        obtain ⟨cells,e,hh,hrc⟩:=(h2.boxes b blk c hblk hc).cells (isC_of hnm)
        have hrd:=asData_spec hk _ hrc
        have hmem:blk∈G1.addr:=List.mem_of_getElem? hblk
        have hge:w.heap.size≤blk:=by
          rcases h3.addr blk hmem with h | h
          · have:=hw.len
            have h0:G.addr=[]:=List.length_eq_zero_iff.1 this
            rw [h0] at h; cases h
          · exact h
        have hnone:=h2.disj blk hmem
        let G2:Gh:={ imm:=fun x=>if x=blk then some cells.toList else G1.imm x,own:=fun _=>none,addr:=[] }
        have himm:ImmLe G1.imm G2.imm:=fun b' row h=>by
          have hne:b'≠blk:=fun he=>by subst he; rw [hnone] at h; cases h
          exact ⟨row,by simp [G2,hne,h],List.prefix_refl _⟩
        have hself:G2.imm blk=some cells.toList:=by simp [G2]
        have hlen:=RD.len hrd
        refine ⟨_,G2,rfl,leaf_v rfl ⟨blk,0,cells.toList,rfl,hself,by omega,?_⟩,⟨rfl,List.nodup_nil,fun i b c h=>by simp [G2] at h,fun b' row h=>?_,(fun b h=>by cases h),(fun t b n h=>by cases h),(fun t t' b n n' h=>by cases h),fun q hq=>⟨(h2.tab q hq).1,(fun h=>by cases h),(fun t n h=>by cases h)⟩,fun i t T xs h=>by simp at h⟩,
          ⟨h3.os,h3.tape,h3.output,h3.size,h3.frame,h3.imm.trans himm,fun b' hb' ho=>?_,(fun b hb=>by cases hb),(fun t b n h=>by cases h)⟩,fun i b hi=>by omega⟩
        · rw [List.drop_zero,List.take_of_length_le (by omega)]
          exact RD.mono himm hrd
        · by_cases hbe:b'=blk
          · subst hbe
            rw [hself] at h
            cases h
            exact ⟨cells,e,(0,0),hh,List.prefix_refl _⟩
          · exact h2.imm b' row (by simpa [G2,hbe] using h)
        · have hne:b'≠blk:=by omega
          show (if b'=blk then some cells.toList else G1.imm b')=G.imm b'
          rw [if_neg hne]
          exact h3.same b' hb' ho
    · cases hk
  · split at hk
    · rename_i y hy
      obtain ⟨y,l⟩:=y
      simp only [Option.some.injEq] at hk
      subst hk
      refine ⟨hl.1,fun G w vs hvs hw=>(hl.2 G w vs hvs hw).mono ?_⟩
      rintro e w' ⟨cv,G1,hend,h1,h2,h3,h4⟩
      let G2:Gh:={ imm:=G1.imm,own:=fun _=>none,addr:=[] }
      have hr:ReTok G1 B'.dead G2 0 []:=⟨rfl,by simp [G2],fun k t h=>by cases h⟩
      have e:=pure_toks hR hy
      subst e
      refine ⟨cv,G2,dec_end (pure_notAny hR) hy hend,dec_v hr hy (under_top (pure_under hR)) (fun q hq=>by cases hq) h1,⟨rfl,List.nodup_nil,fun i b c h=>by simp [G2] at h,h2.imm,(fun b h=>by cases h),(fun t b n h=>by cases h),(fun t t' b n n' h=>by cases h),fun q hq=>⟨(h2.tab q hq).1,(fun h=>by cases h),(fun t n h=>by cases h)⟩,fun i t T xs h=>by simp at h⟩,?_,fun i b hi=>by omega⟩
      exact ⟨h3.os,h3.tape,h3.output,h3.size,h3.frame,h3.imm,h3.same,(fun b hb=>by cases hb),(fun t b n h=>by cases h)⟩
    · cases hk
end Go.Proofs.YtkeipcalbbmncaaGreat.Abs
set_option linter.unusedVariables false
set_option linter.unusedSimpArgs false
namespace Go.Proofs.YtkeipcalbbmncaaGreat.Abs
def jumpNo:AExit→Nat
  | .normal=>0
  | .ret=>3
  | .exit id=>id+4
  | .pan _=>3
theorem jump_st (e:AExit):stOf (jumpNo e)=if (pendOf (jumpNo e)).isNone then .ready else .done:=by
  cases e<;>rfl
def setK (B:Bx) (b:Nat) (from' to:Nat):Option Bx:=match B.box[b]? with
  | some (.lobj g i k env)=>bif k==from' then some { B with box:=B.box.set b (.lobj g i to env) } else none
  | _=>none
def setKK {X:Type} (B:Bx) (b:Nat) (from' to:Nat) (k:Bx→Option X):Option X:=match B.box[b]? with
  | some (.lobj g i q env)=>bif q==from' then k { B with box:=B.box.set b (.lobj g i to env) } else none
  | _=>none
theorem setKK_spec {X:Type} {B:Bx} {b from' to:Nat} {k:Bx→Option X} {r:X} (h:setKK B b from' to k=some r):∃ B',setK B b from' to=some B'∧k B'=some r:=by
  unfold setKK at h
  unfold setK
  split at h
  · rename_i g i q env hb
    cases hq:q==from' with
    | false=>rw [hq] at h; cases h
    | true=>
      rw [hq] at h
      exact ⟨_,rfl,h⟩
  · cases h
def setPs:List AVal→List Tmp→List AVal→List AVal
  | env,p::ps,a::az=>setPs (env.set p a) ps az
  | env,_,_=>env
def roundR (P:Program) (C:CalT) {X:Type} (Ls:List LoopT) (g i:Nat) (args:List AVal) (B:Bx) (fin:AVal→Bx→Option X):Option X:=
  match args with
  | .yref b::az=>match B.box[b]? with
    | some (.lobj g' i' k env)=>bif g'==g&&i'==i then natK k (match lcode g i with
      | .rangeFunc _ ps asg bd=>bif ps.size==az.length then
          codeR P C asg [] (setPs (unchain env) ps.toList az) { B with box:=B.box.set b (.lobj g' i' 0 env) } fun e env2 B2=>match e with
            | .normal=>match setK B2 b 0 1 with
              | some B3=>codeR P C bd Ls env2 B3 fun e env4 B4=>match e with
                | .pan _=>none
                | e=>setKK B4 b 1 (jumpNo e) fun B5=>fin (.d .bool (natK (jumpNo e) true fun _=>false)) B5
              | none=>none
            | _=>none
        else none
      | _=>none) (fun _=>none) else none
    | _=>none
  | _=>none
theorem setPs_ok {G:Gh} {dead:List Nat}:{ps:List Tmp}→{az:List AVal}→{vs:List Value}→{env:List AVal}→{tm:Array Value}→Vals G dead az vs→EnvOk G dead env tm→
    EnvOk G dead (setPs env ps az) ((ps.zip vs).foldl (fun t (q:Tmp×Value)=>t.setIfInBounds q.1 q.2) tm)
  | [],az,vs,env,tm,_,h=>by cases az<;>exact h
  | p::ps,_,_,env,tm,.nil,h=>h
  | p::ps,_,_,env,tm,.cons (a:=a) (v:=v) hv t,h=>by
    have:=EnvOk.put (a:={ tmps:=tm,defers:=[] }) h (some p) hv
    exact setPs_ok (ps:=ps) (env:=env.set p a) (tm:=tm.setIfInBounds p v) t this
theorem chain_env {G:Gh} {dead:List Nat} {env:AVal} {vs:List Value} (h:Rl G dead env vs):EnvOk G dead (unchain env) vs.toArray:=by
  have hv:=vals_chain h
  refine ⟨by have:=vals_len hv; simp [this],fun t=>?_⟩
  rcases Nat.lt_or_ge t (unchain env).length with ht | ht
  · obtain ⟨v,h1,h2⟩:=vals_get hv (List.getElem?_eq_getElem ht)
    have e1:(unchain env).getD t .any=(unchain env)[t]:=by simp [List.getD_eq_getElem?_getD,ht]
    have e2:(vs.toArray).getD t undef=v:=by rw [Array.getD_eq_getD_getElem?]; simp [h1]
    rw [e1,e2]; exact h2
  · have e1:(unchain env).getD t .any=.any:=by rw [List.getD_eq_getElem?_getD,List.getElem?_eq_none ht]; rfl
    rw [e1]; exact any_v _
theorem natK_some {X:Type} {k:Nat} {a:Option X} {r:X} (h:natK k a (fun _=>none)=some r):k=0∧a=some r:=by
  cases k with
  | zero=>exact ⟨rfl,h⟩
  | succ k=>cases h
theorem setK_dead {B B':Bx} {b from' to:Nat} (h:setK B b from' to=some B'):B'.dead=B.dead:=by
  unfold setK at h
  split at h
  · rename_i g i k env hbx
    cases hk:k==from' with
    | false=>rw [hk] at h; cases h
    | true=>
      rw [hk] at h
      simp only [cond_true,Option.some.injEq] at h
      subst h
      rfl
  · cases h
theorem setK_ok {G:Gh} {B B':Bx} {w:World} {b l from' to:Nat} (hw:WOk G B w) (h:setK B b from' to=some B') (hb:G.addr[b]?=some l) :
    ∃ r g i,w.heap[l]?=some (.loop r)∧LoopIs g i from' r∧∀ r':Loop,r'.tmps=r.tmps→LoopIs g i to r'→WOk G B' (putO w l (.loop r'))∧Ext G w G (putO w l (.loop r')):=by
  unfold setK at h
  split at h
  · rename_i g i k env hbx
    cases hk:k==from' with
    | false=>rw [hk] at h; cases h
    | true=>
      rw [hk] at h
      simp only [cond_true,Option.some.injEq] at h
      subst h
      have hk:k=from':=by simpa using hk
      subst hk
      obtain ⟨o,cs,h1,⟨r,rfl,h2,h3⟩,h4⟩:=hw.boxes b l _ hb hbx
      refine ⟨r,g,i,h1,h2,fun r' ht hl=>?_⟩
      exact upd_obj (c':=.lobj g i to env) (o':=.loop r') hw hb hbx rfl rfl h1 ⟨r',rfl,hl,by rw [ht,← h3]⟩ h4
  · cases h
theorem round_soundF {n:Nat} {fl:Bool} {P:Program} {C:CalT} {X:Type} {Ls:List LoopT} {g i:Nat} {args:List AVal} {B:Bx} {fin:AVal→Bx→Option X} {res:X} {f:Operand} {ps:Array Tmp} {asg bd:Code} (hm:P.follows .mixedOrders=true) (hC:CV P C)
    (hc:lcode g i=.rangeFunc f ps asg bd) (hL:LVf n P true fl (loopsOf bd) Ls) (hn:∀ b az,args=.yref b::az→b < n) (h:roundR P C Ls g i args B fin=some res):∃ v B',fin v B'=some res∧LCallF n fl P YLD args B v B':=by
  unfold roundR at h
  split at h
  · rename_i b az
    have hbn:=hn b az rfl
    split at h
    · rename_i g' i' k env hbx
      cases hgi:g'==g&&i'==i with
      | false=>rw [hgi] at h; cases h
      | true=>
        rw [hgi] at h
        simp only [cond_true] at h
        simp only [Bool.and_eq_true,beq_iff_eq] at hgi
        obtain ⟨rfl,rfl⟩:=hgi
        obtain ⟨rfl,h⟩:=natK_some h
        have hsame:({ B with box:=B.box.set b (.lobj g' i' 0 env) }:Bx)=B:=by
          obtain ⟨hlt,he⟩:=List.getElem?_eq_some_iff.1 hbx
          rw [← he,List.set_getElem_self]
        rw [hsame] at h
        rw [hc] at h
        simp only at h
        cases hps:ps.size==az.length with
        | false=>rw [hps] at h; cases h
        | true=>
          rw [hps] at h
          simp only [cond_true] at h
          have hps:ps.size=az.length:=by simpa using hps
          obtain ⟨e,env2,B2,h1,w1⟩:=codeR_sound (n:=n) (rd:=true) hm hC asg (by unfold LVf; cases loopsOf asg<;>trivial) h
          cases e with
          | exit id=>cases h1
          | ret=>cases h1
          | pan t=>cases h1
          | normal=>
            simp only at h1
            split at h1
            · rename_i B3 hB3
              obtain ⟨e,env4,B4,h2,w2⟩:=codeR_sound (n:=n) (rd:=true) hm hC bd hL h1
              obtain ⟨hnp,h2⟩:(∀ t,e≠.pan t)∧(setKK B4 b 1 (jumpNo e) fun B5=>fin (.d .bool (natK (jumpNo e) true fun _=>false)) B5)=some res:=by
                cases e with
                | pan t=>cases h2
                | _=>exact ⟨fun t h=>(by cases h),h2⟩
              obtain ⟨B5,hB5,h2⟩:=setKK_spec h2
              · refine ⟨_,_,h2,.inl rfl,fun G w vs hvs hw=>⟨(fun hne=>absurd rfl hne),fun _ l vs' hvse=>?_⟩⟩
                subst hvse
                cases hvs with
                | cons hyv hargs=>
                  have hl:G.addr[b]?=some l:=by
                    obtain ⟨cs,⟨blk,hb,rfl⟩,hh | hh⟩:=hyv
                    · cases hh.1
                    · have:=hh.2
                      simp only [List.cons.injEq,Value.func.injEq,Fn.yield.injEq,and_true] at this
                      rw [← this]; exact hb
                  obtain ⟨o,cs,k1,⟨r,rfl,hr,rfl⟩,k3⟩:=hw.boxes b l _ hl hbx
                  obtain ⟨⟨f',hf'⟩,hst,hpe⟩:=id hr
                  rw [hc] at hf'
                  injection hf' with e1 e2 e3 e4
                  subst e2 e3 e4
                  have hlen:=vals_len hargs
                  refine ⟨r.fn,_,r.assign,r.body,run_yield k1 (by simp [← hlen,hps]),?_⟩
                  refine roundIn_of_wpIn trivial ?_
                  have henv:EnvOk G B.dead (setPs (unchain env) r.params.toList az) ((r.params.zip vs'.toArray).foldl (fun tmps (t,a)=>tmps.setIfInBounds t a) r.tmps):=by
                    have h0:=chain_env (G:=G) (dead:=B.dead) k3
                    have:=setPs_ok (ps:=r.params.toList) hargs h0
                    have e:(r.params.zip vs'.toArray).foldl (fun tmps (t,a)=>tmps.setIfInBounds t a) r.tmps=(r.params.toList.zip vs').foldl (fun t (q:Tmp×Value)=>t.setIfInBounds q.1 q.2) r.tmps.toList.toArray:=by
                      rw [← Array.foldl_toList,Array.toList_zip]
                    rw [e]
                    exact this
                  refine w1 (some l) rfl G _ w _ ⟨henv,hw,trivial⟩ fun G2 a2 w2' x hx g2=>?_
                  cases hx
                  have hl2:G2.addr[b]?=some l:=g2.held b l hbn hl
                  obtain ⟨r2,gg,ii,q1,q2,q3⟩:=setK_ok g2.ok.w hB3 hl2
                  obtain ⟨q3,q4⟩:=q3 { r2 with state:=.busy } rfl ⟨q2.1,rfl,fun _=>q2.2.2 (by decide)⟩
                  refine ⟨_,run_beginRound q1 q2.2.1,?_⟩
                  refine w2 (some l) rfl G2 a2 _ _ ⟨by rw [setK_dead hB3]; exact g2.ok.env,q3,g2.ok.marks.ext q4⟩ fun G4 a4 w4 x hx g4=>?_
                  have hl4:G4.addr[b]?=some l:=g4.held b l hbn hl2
                  obtain ⟨r4,gg4,ii4,p1,p2,p3⟩:=setK_ok g4.ok.w hB5 hl4
                  have fin':∀ (jump:Option Code),jump=pendOf (jumpNo e)→∃ v w',(Instr.endRound l jump).run P w4=.ok v w'∧∃ cv G',Ending.returned v=.returned cv∧Rv G' B5.dead (.d .bool (natK (jumpNo e) true fun _=>false)) cv∧WOk G' B5 w'∧Ext G w G' w'∧(∀ i b,i < n→G.addr[i]?=some b→G'.addr[i]?=some b)∧(fl=true→GLe G B.dead G' B5.dead):=by
                    intro jump hj
                    have hrun:=run_endRound (P:=P) jump p1
                    obtain ⟨p4,p5⟩:=p3 { r4 with state:=if jump.isNone then .ready else .done,pending:=jump } rfl ⟨p2.1,by rw [jump_st,← hj],fun _=>hj⟩
                    refine ⟨_,_,hrun,_,G4,rfl,?_,p4,((g2.ext.trans q4).trans g4.ext).trans p5,(fun j c hj' hc'=>g4.held j c hj' (g2.held j c hj' hc')),fun hf=>by
                      have h4:=g4.full hf
                      rw [setK_dead hB3] at h4
                      rw [setK_dead hB5]
                      exact (g2.full hf).trans h4⟩
                    rw [hj]
                    cases e<;>exact leaf_v rfl rfl
                  cases e with
                  | normal=>cases hx; exact fin' none rfl
                  | ret=>cases hx; exact fin' (some .ret) rfl
                  | exit id=>cases hx; exact fin' (some (.exit id)) rfl
                  | pan t=>exact absurd rfl (hnp t)
            · cases h1
    · cases h
  · cases h
theorem round_sound {n:Nat} {P:Program} {C:CalT} {X:Type} {Ls:List LoopT} {g i:Nat} {args:List AVal} {B:Bx} {fin:AVal→Bx→Option X} {res:X} {f:Operand} {ps:Array Tmp} {asg bd:Code} (hm:P.follows .mixedOrders=true) (hC:CV P C)
    (hc:lcode g i=.rangeFunc f ps asg bd) (hL:LV n P true (loopsOf bd) Ls) (hn:∀ b az,args=.yref b::az→b < n) (h:roundR P C Ls g i args B fin=some res):∃ v B',fin v B'=some res∧LCall n P YLD args B v B':=by
  obtain ⟨v,B',h1,h2⟩:=round_soundF (fl:=false) hm hC hc hL hn h
  exact ⟨v,B',h1,h2.drop⟩
theorem rd_lcall {P:Program} {C:CalT} {Ls:List LoopT} {g i:Nat} {S:CSpec} {f:S.In→Option S.Out} {fo:Operand} {ps:Array Tmp} {asg bd:Code} (hm:P.follows .mixedOrders=true) (hC:CV P C) (hc:lcode g i=.rangeFunc fo ps asg bd)
    (hL:LV S.I.length P true (loopsOf bd) Ls) (hn:∃ A',S.A=.fix (.yref 0)::A') (hI:0 < S.I.length) (hS:S.ok=true) (hS2:S.ok2=true) (hev:∀ x,roundR P C Ls g i (encs S.A x.1) ⟨encs S.I x.2,[],S.nt⟩ (finK S)=f x) :
    ∀ x r,f x=some r→LCall S.I.length P YLD (encs S.A x.1) ⟨encs S.I x.2,[],S.nt⟩ (S.R.enc r.1) ⟨encs S.O r.2,[],S.ntO⟩:=by
  intro x r hr
  obtain ⟨v,B',hk,hl⟩:=round_sound (n:=S.I.length) hm hC hc hL (fun b az he=>by
    obtain ⟨A',hA⟩:=hn
    have:∀ (A:List PTy) (y:Els A),A=.fix (.yref 0)::A'→encs A y=.yref b::az→b=0:=by
      intro A y hA hy
      subst hA
      simp only [encs,List.cons.injEq,AVal.yref.injEq] at hy
      exact hy.1.symm
    rw [this S.A x.1 hA he]
    exact hI) ((hev x).trans hr)
  unfold finK at hk
  split at hk
  · rename_i z hz
    simp only [Option.some.injEq] at hk
    subst hk
    simp only [CSpec.ok,Bool.and_eq_true,decide_eq_true_eq] at hS
    refine ⟨hl.1,fun G w vs hvs hw=>(hl.2 G w vs hvs hw).mono ?_⟩
    rintro e w' ⟨cv,G1,hend,h1,h2,h3,h4⟩
    have hok:Ok G1 B' [v] { tmps:=#[cv],defers:=[] } w':=⟨⟨rfl,fun t=>by
      cases t with
      | zero=>exact h1
      | succ t=>exact any_v _⟩,h2,trivial⟩
    obtain ⟨G2,g2⟩:=norm_sound (n:=S.I.length) (CSpec.ok2_1 hS2) hS.2 hz hok
    refine ⟨cv,G2,decs_end (CSpec.ok2_2 hS2) hz hend,by have:=g2.ok.env.val 0; unfold SPat.encE at this; rw [oneE_enc] at this; exact this,g2.ok.w,h3.trans g2.ext,fun i b hi hb=>g2.held i b hi (h4 i b hi hb)⟩
  · cases hk
end Go.Proofs.YtkeipcalbbmncaaGreat.Abs
set_option linter.unusedVariables false
set_option linter.unusedSimpArgs false
set_option maxRecDepth 100000
namespace Go.Proofs.YtkeipcalbbmncaaGreat.Abs
def frzA:AVal→AVal
  | .own _ T xs=>.d (.list T) xs
  | .cons h t=>.cons (frzA h) (frzA t)
  | .func fn a b=>.func fn (frzA a) (frzA b)
  | .iface t v=>.iface t (frzA v)
  | .tuple v=>.tuple (frzA v)
  | a=>a
theorem frzA_agg (a:AVal):(frzA a).agg=a.agg:=by cases a<;>rfl
theorem frzA_rp {G:Gh} {dead:List Nat}:(a:AVal)→(∀ cs,(Rp G dead a).1 cs→(Rp G dead (frzA a)).1 cs)∧(∀ vs,(Rp G dead a).2 vs→(Rp G dead (frzA a)).2 vs)
  | .own tok T xs=>⟨fun cs h=>h.1,fun _ h=>h.elim⟩
  | .cons a t=>by
    have m1:=frzA_rp (G:=G) (dead:=dead) a
    have m2:=frzA_rp (G:=G) (dead:=dead) t
    exact ⟨fun cs h=>by
      obtain ⟨c1,c2,rfl,h1,h2⟩:=h
      exact ⟨c1,c2,rfl,m1.1 _ h1,m2.1 _ h2⟩,fun vs h=>by
      obtain ⟨v,l,rfl,⟨cs,hc,hv⟩,hl⟩:=h
      exact ⟨v,l,rfl,⟨cs,m1.1 _ hc,by rw [frzA_agg]; exact hv⟩,m2.2 _ hl⟩⟩
  | .func fn f c=>by
    have m1:=frzA_rp (G:=G) (dead:=dead) f
    have m2:=frzA_rp (G:=G) (dead:=dead) c
    exact ⟨fun cs h=>by
      obtain ⟨fv,cv,rfl,h1,h2⟩:=h
      exact ⟨fv,cv,rfl,m1.2 _ h1,m2.2 _ h2⟩,fun _ h=>h⟩
  | .iface t v=>by
    have m1:=frzA_rp (G:=G) (dead:=dead) v
    exact ⟨fun cs h=>by
      obtain ⟨v',rfl,c,hc,hv⟩:=h
      exact ⟨v',rfl,c,m1.1 _ hc,by rw [frzA_agg]; exact hv⟩,fun _ h=>h⟩
  | .tuple vs=>by
    have m1:=frzA_rp (G:=G) (dead:=dead) vs
    exact ⟨fun cs h=>by
      obtain ⟨l,rfl,hl⟩:=h
      exact ⟨l,rfl,m1.2 _ hl⟩,fun _ h=>h⟩
  | .d ..=>⟨fun _ h=>h,fun _ h=>h⟩
  | .nil=>⟨fun _ h=>h,fun _ h=>h⟩
  | .pnil=>⟨fun _ h=>h,fun _ h=>h⟩
  | .bptr ..=>⟨fun _ h=>h,fun _ h=>h⟩
  | .iptr ..=>⟨fun _ h=>h,fun _ h=>h⟩
  | .fnil=>⟨fun _ h=>h,fun _ h=>h⟩
  | .snil=>⟨fun _ h=>h,fun _ h=>h⟩
  | .inil=>⟨fun _ h=>h,fun _ h=>h⟩
  | .any=>⟨fun _ h=>h,fun _ h=>h⟩
  | .mnil=>⟨fun _ h=>h,fun _ h=>h⟩
  | .mref _=>⟨fun _ h=>h,fun _ h=>h⟩
  | .mobj ..=>⟨fun _ h=>h,fun _ h=>h⟩
  | .yref _=>⟨fun _ h=>h,fun _ h=>h⟩
  | .lobj ..=>⟨fun _ h=>h,fun _ h=>h⟩
  | .vec ..=>⟨fun _ h=>h,fun _ h=>h⟩
  | .vptr ..=>⟨fun _ h=>h,fun _ h=>h⟩
  | .vrow ..=>⟨fun _ h=>h,fun _ h=>h⟩
  | .optp _=>⟨fun _ h=>h,fun _ h=>h⟩
  | .bsl ..=>⟨fun _ h=>h,fun _ h=>h⟩
  | .siter ..=>⟨fun _ h=>h,fun _ h=>h⟩
  | .pan _=>⟨fun _ h=>h,fun _ h=>h⟩
  | .tbox ..=>⟨fun _ h=>h,fun _ h=>h⟩
def selJ {X:Type} (k:AExit→Option X):List AExit→Nat→Option X
  | [],_=>none
  | .pan _::xs,j=>selJ k xs j
  | x::xs,j=>bif j==jumpNo x then k x else selJ k xs j
theorem selJ_spec {X:Type} {k:AExit→Option X} {r:X}:{xs:List AExit}→{j:Nat}→selJ k xs j=some r→∃ x,j=jumpNo x∧k x=some r∧∀ t,x≠.pan t
  | .pan _::xs,j,h=>selJ_spec (xs:=xs) h
  | .normal::xs,j,h=>by
    simp only [selJ] at h
    cases hb:j==jumpNo (.normal) with
    | true=>
      rw [hb] at h
      exact ⟨_,by simpa using hb,h,fun t h=>by cases h⟩
    | false=>
      rw [hb] at h
      exact selJ_spec h
  | .ret::xs,j,h=>by
    simp only [selJ] at h
    cases hb:j==jumpNo (.ret) with
    | true=>
      rw [hb] at h
      exact ⟨_,by simpa using hb,h,fun t h=>by cases h⟩
    | false=>
      rw [hb] at h
      exact selJ_spec h
  | .exit id::xs,j,h=>by
    simp only [selJ] at h
    cases hb:j==jumpNo (.exit id) with
    | true=>
      rw [hb] at h
      exact ⟨_,by simpa using hb,h,fun t h=>by cases h⟩
    | false=>
      rw [hb] at h
      exact selJ_spec h
def rangeR {X:Type} (C:CalT) (g i:Nat) (f:Operand) (xs:List AExit) (env:List AVal) (B:Bx) (k:AExit→List AVal→Bx→Option X):Option X:=
  match opA env f with
  | .func (.func gf) first cap=>bif gf==YLD then none else
      C.run X gf (unchain first++[.yref B.box.length]++unchain cap) (B.push (.lobj g i 0 (chain (env.map frzA)))) fun v B2=>bif v.isPan then none else
        match B2.box[B.box.length]? with
        | some (.lobj g' i' j env')=>selJ (fun e=>k e env { B2 with box:=B2.box.set B.box.length (.lobj g' i' 2 env') }) xs j
        | _=>none
  | _=>none
def rfT (C:CalT) (g i:Nat) (f:Operand) (xs:List AExit):LoopT:=⟨fun X env B k=>rangeR C g i f xs env B k⟩
theorem env_chain {G:Gh} {dead:List Nat}:{env:List AVal}→{vs:List Value}→env.length=vs.length→(∀ t,t < env.length→Rv G dead (env.getD t .any) (vs.getD t undef))→Rl G dead (chain (env.map frzA)) vs
  | [],[],_,_=>rfl
  | a::env,v::vs,hl,h=>by
    have h0:=h 0 (by simp)
    refine ⟨v,vs,rfl,?_,env_chain (by simpa using hl) fun t ht=>by simpa using h (t+1) (by simpa using ht)⟩
    obtain ⟨cs,h1,h2⟩:=h0
    simp only [List.getD_cons_zero] at h1 h2
    exact ⟨cs,(frzA_rp a).1 cs h1,by rw [frzA_agg]; exact h2⟩
theorem rfT_valid {n:Nat} {fl:Bool} {P:Program} {C:CalT} {g i:Nat} {f:Operand} {ps:Array Tmp} {asg bd:Code} {xs:List AExit} (hC:CV P C) (hc:lcode g i=.rangeFunc f ps asg bd):LValid n P (.rangeFunc f ps asg bd) (rfT C g i f xs) false fl:=by
  intro X env B k r h
  simp only [rfT] at h
  unfold rangeR at h
  split at h
  · rename_i gf first cap hf
    cases hgy:gf==YLD with
    | true=>rw [hgy] at h; cases h
    | false=>
      rw [hgy] at h
      simp only [cond_false] at h
      have hgy:gf≠YLD:=by simpa using hgy
      obtain ⟨v,B2,hk,hcr⟩:=hC _ _ _ _ _ _ h
      cases hvp:v.isPan with
      | true=>rw [hvp] at hk; cases hk
      | false=>
      rw [hvp] at hk
      simp only [cond_false] at hk
      split at hk
      · rename_i g' i' j env' hbx
        obtain ⟨e,hj,hk,hnp⟩:=selJ_spec hk
        refine ⟨e,env,_,hk,fun ro hro G a w Q hok hQ=>?_⟩
        have hro:ro=none:=by cases ro<;>simp at hro; rfl
        subst hro
        obtain ⟨hent,hcall⟩:=hcr.call
        replace hent:=(hent.resolve_left hgy).2
        refine wpIn_rangeFunc ?_
        intro fn _
        obtain ⟨w1,hw1⟩:∃ w1,w.alloc (.deferred (some []))=w1:=⟨_,rfl⟩
        obtain ⟨r0,hr0⟩:∃ r0:Loop,r0={ state:=.ready,pending:=none,fn,tmps:=a.tmps,params:=ps,assign:=asg,body:=bd,defers:=w.heap.size }:=⟨_,rfl⟩
        have hg1:Grew w w1:=by rw [← hw1]; exact grew_alloc _ _
        have hwok1:=hok.w.grew hg1
        have hsz1:w1.heap.size=w.heap.size+1:=by rw [← hw1]; simp
        have hK:w1.heap[w.heap.size]?=some (.deferred (some [])):=by rw [← hw1]; exact World.alloc_heap_new w _
        have hlen:=hok.env.len
        have hch:Rc G B.dead (.lobj g i 0 (chain (env.map frzA))) a.tmps.toList:=by
          refine env_chain (by simpa using hlen.symm) fun t ht=>?_
          have:=hok.env.val t
          rw [Array.getD_eq_getD_getElem?] at this
          rw [List.getD_eq_getElem?_getD (l:=a.tmps.toList),Array.getElem?_toList]
          exact this
        obtain ⟨G1,ha1,hwok2,hle1,hext1⟩:=new_obj (o:=.loop r0) (c:=.lobj g i 0 (chain (env.map frzA))) (cs:=a.tmps.toList) hwok1 rfl ⟨r0,rfl,⟨⟨f,by rw [hr0]; exact hc⟩,by rw [hr0]; rfl,fun _=>by rw [hr0]; rfl⟩,by rw [hr0]⟩ hch
        have hfv:=hok.env.op (a:=a) f
        rw [hf] at hfv
        obtain ⟨cs,⟨fv,cv,rfl,h1,h2⟩,hh | hh⟩:=hfv
        · cases hh.1
        have hfe:a.eval f=.func (.func gf) fv.toArray cv.toArray:=by simpa using hh.2.symm
        have hyv:Rv G1 B.dead (.yref B.box.length) (.func (.yield w1.heap.size) #[] #[]):=leaf_v rfl ⟨_,ha1,rfl⟩
        have hvals:=((vals_chain (Rl.mono hle1 h1)).append (Vals.cons hyv .nil)).append (vals_chain (Rl.mono hle1 h2))
        refine ⟨w1.heap.size,[{ target:=.collected w.heap.size,args:=#[] }],w1.alloc (.loop r0),{ target:=.fn (.func gf) cv.toArray,args:=(fv++[Value.func (.yield w1.heap.size) #[] #[]]).toArray },w1.alloc (.loop r0),gf,(fv++[Value.func (.yield w1.heap.size) #[] #[]]++cv).toArray,w1.alloc (.loop r0),?_,?_,fun _ _=>trivial,?_,(fun h=>by cases h),?_⟩
        · have:=run_enterLoop_outer (P:=P) (w:=w) fn a.tmps ps asg bd
          rw [hr0,hsz1,← hw1]
          exact this
        · unfold resolve
          simp only [hfe,Deferred.ofValue,Sem.run_bind,Sem.run_pure,Result.andThen_ok]
          refine congrArg (fun z=>Result.ok ({ target:=Target.fn (Fn.func gf) cv.toArray,args:=z }:Deferred) (w1.alloc (.loop r0))) ?_
          apply Array.ext'
          simp [Act.eval]
        · simp only [invoke]
          rw [hent]
          refine congrArg (fun z=>Result.ok (Next.enter gf z) (w1.alloc (.loop r0))) ?_
          apply Array.ext'
          simp
        · refine callsIn_wide.2 (((hcall G1 _ _ hvals hwok2).1 hgy).mono ?_)
          rintro e' w3 ⟨cv',G2,hend,g1,g2,g3,g4⟩
          obtain rfl:=hend.ret hvp
          have hl2:G2.addr[B.box.length]?=some w1.heap.size:=prefix_getElem? g3.addr ha1
          obtain ⟨o,cs3,k1,⟨r3,rfl,hr3,hcs⟩,k3⟩:=g2.boxes _ _ _ hl2 hbx
          have hnb:r3.state≠.busy:=by
            rw [hr3.2.1,hj]
            cases e<;>simp [jumpNo,stOf]
          obtain ⟨p1,p2⟩:=upd_obj (c':=.lobj g' i' 2 env') (o':=.loop { r3 with state:=.exhausted }) g2 hl2 hbx rfl rfl k1 ⟨_,rfl,⟨hr3.1,rfl,fun h=>absurd rfl h⟩,hcs⟩ k3
          have hend:=run_endLoop (P:=P) k1 hnb
          have hpe:r3.pending=pendOf (jumpNo e):=by rw [hr3.2.2 (by rw [hj]; cases e<;>simp [jumpNo]),hj]
          have hx14:Ext G1 (w1.alloc (.loop r0)) G2 (putO w3 w1.heap.size (.loop { r3 with state:=.exhausted })):=g4.trans p2
          have hx04:Ext G w G2 (putO w3 w1.heap.size (.loop { r3 with state:=.exhausted })):=(hg1.ext G).trans (hext1.trans hx14)
          have hDlt:w.heap.size < w1.heap.size:=by omega
          have hDne:w.heap.size ∉ G1.addr:=fun hm=>by
            rcases hext1.addr _ hm with hm | hm
            · have:=hok.w.addr_lt hm; omega
            · omega
          have hDown:∀ t n,G1.own t≠some (w.heap.size,n):=fun t n hn=>by
            rcases hext1.own _ _ _ hn with ⟨t',ht⟩ | hm
            · obtain ⟨_,_,c,e,hh,_⟩:=hok.w.own _ _ _ ht
              have:=heap_lt hh; omega
            · omega
          have hDheap:(w1.alloc (.loop r0)).heap[w.heap.size]?=some (.deferred (some [])):=by
            rw [← hK]; exact heap_push_lt hDlt
          have hm1:Marks G1 (w1.alloc (.loop r0)) ({ target:=.collected w.heap.size,args:=#[] }::a.defers):=by
            refine ⟨.inr ⟨w.heap.size,rfl,hDheap,hDne,hDown,fun d' hd' he=>?_⟩,hok.marks.ext ((hg1.ext G).trans hext1)⟩
            have key:∀ ds,Marks G w ds→∀ d'∈ds,d'.target≠.collected w.heap.size:=by
              intro ds
              induction ds with
              | nil=>intro _ d' h; cases h
              | cons d ds ih=>
                intro hm d' hd'
                rcases List.mem_cons.1 hd' with rfl | hd'
                · intro e3
                  rcases hm.1 with hfn | ⟨D,e1,e2,_⟩
                  · unfold isFnD at hfn; rw [e3] at hfn; cases hfn
                  rw [e1] at e3
                  cases e3
                  have:=heap_lt e2
                  omega
                · exact ih hm.2 d' hd'
            exact key _ hok.marks d' hd' he
          have hgoes:Goes n fl B.dead G a w G2 { B2 with box:=B2.box.set B.box.length (.lobj g' i' 2 env') } env { a with defers:=[{ target:=.collected w.heap.size,args:=#[] }]++a.defers } (putO w3 w1.heap.size (.loop { r3 with state:=.exhausted })):=by
            refine ⟨⟨(hok.env.mono hle1).mono g3,p1,hm1.ext hx14⟩,hx04,⟨fun d hd=>?_,rfl⟩,(fun q b _ hb=>prefix_getElem? g3.addr (prefix_getElem? hle1.addr hb)),fun _=>hle1.trans g3⟩
            rcases List.mem_cons.1 hd with rfl | hd
            · exact .inr ⟨_,rfl,Nat.le_refl _⟩
            · exact .inl hd
          refine ⟨_,_,hend,?_⟩
          split
          · rename_i hp
            rw [hpe] at hp
            cases e with
            | normal=>exact hQ G2 _ _ _ rfl hgoes
            | ret=>cases hp
            | exit id=>cases hp
            | pan t=>exact absurd rfl (hnp t)
          · rename_i c hp
            rw [hpe] at hp
            cases e with
            | normal=>cases hp
            | ret=>cases hp; exact wpIn_ret (hQ G2 _ _ _ rfl hgoes)
            | exit id=>cases hp; exact wpIn_exit (hQ G2 _ _ _ rfl hgoes)
            | pan t=>exact absurd rfl (hnp t)
      · cases hk
  · cases h
theorem rf_form:{c:Code}→{f:Operand}→rfOp c=some f→∃ ps asg bd,c=.rangeFunc f ps asg bd
  | .rangeFunc f' ps asg bd,f,h=>by
    simp only [rfOp,Option.some.injEq] at h
    subst h
    exact ⟨ps,asg,bd,rfl⟩
theorem isRf_form:{c:Code}→isRf c=true→∃ f ps asg bd,c=.rangeFunc f ps asg bd
  | .rangeFunc f ps asg bd,_=>⟨f,ps,asg,bd,rfl⟩
theorem rfT_valid' {n:Nat} {fl:Bool} {P:Program} {C:CalT} {g i:Nat} {f:Operand} {xs:List AExit} (hC:CV P C) (hf:rfOp (lcode g i)=some f):LValid n P (lcode g i) (rfT C g i f xs) false fl:=by
  obtain ⟨ps,asg,bd,hc⟩:=rf_form hf
  have:=rfT_valid (n:=n) (fl:=fl) (P:=P) (C:=C) (xs:=xs) hC hc
  rw [← hc] at this
  exact this
theorem rd_lcall' {P:Program} {C:CalT} {Ls:List LoopT} {g i:Nat} {S:CSpec} {f:S.In→Option S.Out} (hm:P.follows .mixedOrders=true) (hC:CV P C) (hc:isRf (lcode g i)=true)
    (hL:LV S.I.length P true (loopsOf (rfBody (lcode g i))) Ls) (hn:∃ A',S.A=.fix (.yref 0)::A') (hI:0 < S.I.length) (hS:S.ok=true) (hS2:S.ok2=true) (hev:∀ x,roundR P C Ls g i (encs S.A x.1) ⟨encs S.I x.2,[],S.nt⟩ (finK S)=f x) :
    ∀ x r,f x=some r→LCall S.I.length P YLD (encs S.A x.1) ⟨encs S.I x.2,[],S.nt⟩ (S.R.enc r.1) ⟨encs S.O r.2,[],S.ntO⟩:=by
  obtain ⟨f',ps,asg,bd,hcc⟩:=isRf_form hc
  rw [hcc] at hL
  exact rd_lcall hm hC hcc hL hn hI hS hS2 hev
end Go.Proofs.YtkeipcalbbmncaaGreat.Abs
set_option linter.unusedVariables false
set_option linter.unusedSimpArgs false
namespace Go.Proofs.YtkeipcalbbmncaaGreat.Abs
def seqL:Code→Code
  | .seq a _=>a
  | c=>c
def seqR:Code→Code
  | .seq _ b=>b
  | c=>c
def conL:Code→Code
  | .cond _ a _=>a
  | c=>c
def conR:Code→Code
  | .cond _ _ b=>b
  | c=>c
def blkC:Code→Code
  | .block _ c=>c
  | c=>c
def scpC:Code→Code
  | .scope c=>c
  | c=>c
def isSeq:Code→Bool
  | .seq _ _=>true
  | _=>false
def isCon:Code→Bool
  | .cond _ _ _=>true
  | _=>false
def isBlk:Code→Bool
  | .block _ _=>true
  | _=>false
def isScp:Code→Bool
  | .scope _=>true
  | _=>false
inductive Jn
  | whole (Ls:List LoopT)
  | cut (L:LoopT)
  | seq (x y:Jn)
  | cond (x y:Jn)
  | block (x:Jn)
  | scope (x:Jn)
def codeJ (P:Program) (C:CalT) {X:Type}:Jn→Code→List AVal→Bx→(AExit→List AVal→Bx→Option X)→Option X
  | .whole Ls,c,env,B,k=>codeR P C c Ls env B k
  | .cut L,_,env,B,k=>L.run X env B k
  | .seq x y,.seq a b,env,B,k=>codeJ P C x a env B fun e env' B'=>match e with
    | .normal=>codeJ P C y b env' B' k
    | e=>k e env' B'
  | .cond x y,.cond c a b,env,B,k=>match opA env c with
    | .d .bool t=>bif t then codeJ P C x a env B k else codeJ P C y b env B k
    | _=>none
  | .block x,.block id c,env,B,k=>codeJ P C x c env B (blockK id k)
  | .scope x,.scope c,env,B,k=>codeJ P C x c env B k
  | _,_,_,_,_=>none
def JV (n:Nat) (P:Program) (rd:Bool):Jn→Code→Prop
  | .whole Ls,c=>LV n P rd (loopsOf c) Ls
  | .cut L,c=>LValid n P c L rd
  | .seq x y,c=>isSeq c=true∧JV n P rd x (seqL c)∧JV n P rd y (seqR c)
  | .cond x y,c=>isCon c=true∧JV n P rd x (conL c)∧JV n P rd y (conR c)
  | .block x,c=>isBlk c=true∧JV n P rd x (blkC c)
  | .scope x,c=>isScp c=true∧JV n P rd x (scpC c)
theorem lv_nil {n:Nat} {P:Program} {rd:Bool} (cs:List Code):LV n P rd cs []:=by unfold LV; cases cs<;>trivial
section
variable {n:Nat} {P:Program} {rd:Bool} {x y:Jn} {c:Code}
theorem jv_whole {Ls:List LoopT} (h:LV n P rd (loopsOf c) Ls):JV n P rd (.whole Ls) c:=h
theorem jv_nil:JV n P rd (.whole []) c:=lv_nil _
theorem jv_cut {L:LoopT} (h:LValid n P c L rd):JV n P rd (.cut L) c:=h
theorem jv_seq (h:isSeq c=true) (h1:JV n P rd x (seqL c)) (h2:JV n P rd y (seqR c)):JV n P rd (.seq x y) c:=⟨h,h1,h2⟩
end
theorem codeJ_sound {n:Nat} {P:Program} {rd:Bool} {C:CalT} {X:Type} {r:X} (hm:P.follows .mixedOrders=true) (hC:CV P C):(J:Jn)→(c:Code)→{env:List AVal}→{B:Bx}→{k:AExit→List AVal→Bx→Option X}→JV n P rd J c→codeJ P C J c env B k=some r→
    ∃ e env' B',k e env' B'=some r∧AW n P c env B e env' B' rd
  | .whole Ls,c,env,B,k,hJ,h=>by
    unfold codeJ at h
    exact codeR_sound hm hC c hJ h
  | .cut L,c,env,B,k,hJ,h=>by
    unfold codeJ at h
    exact hJ _ _ _ _ _ h
  | .seq x y,c,env,B,k,hJ,h=>by
    obtain ⟨hs,h1,h2⟩:=hJ
    cases c with
    | seq a b=>
      simp only [codeJ] at h
      obtain ⟨e,env1,B1,k1,w1⟩:=codeJ_sound hm hC x a h1 h
      cases e with
      | normal=>
        simp only at k1
        obtain ⟨e2,env2,B2,k2,w2⟩:=codeJ_sound hm hC y b h2 k1
        refine ⟨e2,env2,B2,k2,fun ro hro G a w Q hok hQ=>wpIn_seq (w1 ro hro G a w _ hok fun G1 a1 w1' x hx g1=>?_)⟩
        cases hx
        exact w2 ro hro G1 a1 w1' Q g1.ok fun G2 a2 w2' x hx g2=>hQ G2 a2 w2' x hx (g1.trans g2)
      | exit id=>exact ⟨.exit id,env1,B1,k1,fun ro hro G a w Q hok hQ=>wpIn_seq (w1 ro hro G a w _ hok fun G1 a1 w1' x hx g1=>by cases hx; exact hQ G1 a1 w1' _ rfl g1)⟩
      | ret=>exact ⟨.ret,env1,B1,k1,fun ro hro G a w Q hok hQ=>wpIn_seq (w1 ro hro G a w _ hok fun G1 a1 w1' x hx g1=>by cases hx; exact hQ G1 a1 w1' _ rfl g1)⟩
      | pan t=>exact ⟨.pan t,env1,B1,k1,fun ro hro G a w Q hok hQ=>wpIn_seq (w1 ro hro G a w _ hok fun G1 a1 w1' x hx g1=>by obtain ⟨pv,rfl⟩:=hx; exact hQ G1 a1 w1' _ ⟨pv,rfl⟩ g1)⟩
    | _=>simp [isSeq] at hs
  | .cond x y,c,env,B,k,hJ,h=>by
    obtain ⟨hs,h1,h2⟩:=hJ
    cases c with
    | cond c a b=>
      simp only [codeJ] at h
      split at h
      · rename_i t ht
        cases t with
        | true=>
          obtain ⟨e,env1,B1,k1,w1⟩:=codeJ_sound hm hC x a h1 h
          refine ⟨e,env1,B1,k1,fun ro hro G a w Q hok hQ=>wpIn_cond_true ?_ (w1 ro hro G a w Q hok hQ)⟩
          have:=hok.env.op c
          rw [ht] at this
          exact bool_form this
        | false=>
          obtain ⟨e,env1,B1,k1,w1⟩:=codeJ_sound hm hC y b h2 h
          refine ⟨e,env1,B1,k1,fun ro hro G a w Q hok hQ=>wpIn_cond_false ?_ (w1 ro hro G a w Q hok hQ)⟩
          have:=hok.env.op c
          rw [ht] at this
          exact bool_form this
      · cases h
    | _=>simp [isCon] at hs
  | .block x,c,env,B,k,hJ,h=>by
    obtain ⟨hs,hJ⟩:=hJ
    cases c with
    | block id c=>
      simp only [codeJ] at h
      obtain ⟨e,env1,B1,h1,w1⟩:=codeJ_sound hm hC x c hJ h
      cases e with
      | normal=>exact ⟨.normal,env1,B1,h1,fun ro hro G a w Q hok hQ=>wpIn_block (w1 ro hro G a w _ hok fun G1 a1 w1' x hx g1=>by cases hx; exact hQ G1 a1 w1' _ rfl g1)⟩
      | ret=>exact ⟨.ret,env1,B1,h1,fun ro hro G a w Q hok hQ=>wpIn_block (w1 ro hro G a w _ hok fun G1 a1 w1' x hx g1=>by cases hx; exact hQ G1 a1 w1' _ rfl g1)⟩
      | pan t=>exact ⟨.pan t,env1,B1,h1,fun ro hro G a w Q hok hQ=>wpIn_block (w1 ro hro G a w _ hok fun G1 a1 w1' x hx g1=>by obtain ⟨pv,rfl⟩:=hx; exact hQ G1 a1 w1' _ ⟨pv,rfl⟩ g1)⟩
      | exit i=>
        simp only [blockK] at h1
        by_cases hi:i=id
        · simp only [hi,beq_self_eq_true,cond_true] at h1
          exact ⟨.normal,env1,B1,h1,fun ro hro G a w Q hok hQ=>wpIn_block (w1 ro hro G a w _ hok fun G1 a1 w1' x hx g1=>by
            cases hx
            simp only [Exit.inBlock,hi,if_true]
            exact hQ G1 a1 w1' _ rfl g1)⟩
        · have hb:(i==id)=false:=by simpa using hi
          simp only [hb,cond_false] at h1
          exact ⟨.exit i,env1,B1,h1,fun ro hro G a w Q hok hQ=>wpIn_block (w1 ro hro G a w _ hok fun G1 a1 w1' x hx g1=>by
            cases hx
            simp only [Exit.inBlock,hi,if_false]
            exact hQ G1 a1 w1' _ rfl g1)⟩
    | _=>simp [isBlk] at hs
  | .scope x,c,env,B,k,hJ,h=>by
    obtain ⟨hs,hJ⟩:=hJ
    cases c with
    | scope c=>
      simp only [codeJ] at h
      obtain ⟨e,env1,B1,h1,w1⟩:=codeJ_sound hm hC x c hJ h
      exact ⟨e,env1,B1,h1,fun ro hro G a w Q hok hQ=>wpIn_scope_straight (w1 ro hro G a w _ hok fun G1 a1 w1' x hx g1=>by
        cases e with
        | pan t=>obtain ⟨pv,rfl⟩:=hx; exact hQ G1 a1 w1' _ ⟨pv,rfl⟩ g1
        | _=>cases hx; exact hQ G1 a1 w1' _ rfl g1)⟩
    | _=>simp [isScp] at hs
def jnT (P:Program) (C:CalT) (J:Jn) (c:Code):LoopT:=⟨fun _ env B k=>codeJ P C J c env B k⟩
theorem jnT_valid {n:Nat} {P:Program} {rd:Bool} {C:CalT} {J:Jn} {c:Code} (hm:P.follows .mixedOrders=true) (hC:CV P C) (hJ:JV n P rd J c):LValid n P c (jnT P C J c) rd:=
  fun _ _ _ _ _ h=>codeJ_sound hm hC J c hJ h
def idxX:List AExit→AExit→Option Nat
  | [],_=>none
  | x::xs,e=>bif sameX x e then some 0 else match idxX xs e with
    | some n=>some (n+1)
    | none=>none
theorem idxX_spec:{xs:List AExit}→{e:AExit}→{n:Nat}→idxX xs e=some n→xs[n]?=some e
  | x::xs,e,n,h=>by
    simp only [idxX] at h
    cases hb:sameX x e with
    | true=>
      simp only [hb,cond_true,Option.some.injEq] at h
      subst h
      rw [sameX_eq hb]; rfl
    | false=>
      simp only [hb,cond_false] at h
      split at h
      · rename_i m hm
        simp only [Option.some.injEq] at h
        subst h
        simpa using idxX_spec hm
      · cases h
  | [],e,n,h=>by simp [idxX] at h
def kstJ (S:SPat) (xs:List AExit) (e:AExit) (env:List AVal) (B:Bx):Option (Nat×S.El):=
  match idxX xs e with
  | some n=>match S.dec env B with
    | some s=>some (n,s)
    | none=>none
  | none=>none
def cutT (S0 S1:SPat) (xs:List AExit) (run:S0.El→Option (Nat×S1.El)):LoopT:=
  ⟨fun X env B k=>match S0.dec env B with
    | some s=>(run s).bind fun r=>selX (fun e=>k e (S1.encE r.2) (S1.encB r.2)) xs r.1
    | none=>none⟩
theorem cutT_valid {n:Nat} {rd:Bool} {P:Program} {ev:LoopT} {c:Code} {S0 S1:SPat} {xs:List AExit} {run:S0.El→Option (Nat×S1.El)} (hE:LValid n P c ev rd) (h0:S0.ok=true) (h1:S1.ok=true) (hn0:n≤S0.box.length) (hn1:n≤S1.box.length)
    (hbody:∀ s,ev.run (Nat×S1.El) (S0.encE s) (S0.encB s) (kstJ S1 xs)=run s):LValid n P c (cutT S0 S1 xs run) rd:=by
  intro X env B k r h
  unfold cutT at h
  simp only at h
  split at h
  · rename_i s hd
    cases hr:run s with
    | none=>rw [hr] at h; cases h
    | some q=>
      rw [hr] at h
      simp only [Option.bind_some] at h
      obtain ⟨e,env1,B1,hk,haw⟩:=hE _ _ _ _ _ ((hbody s).trans hr)
      unfold kstJ at hk
      split at hk
      · rename_i m hi
        split at hk
        · rename_i s1 hd1
          simp only [Option.some.injEq] at hk
          subst hk
          have hx:=idxX_spec hi
          have hlt:=(List.getElem?_eq_some_iff.1 hx).1
          have he:nthX xs (m+1)=e:=by simp [nthX,List.getD_eq_getElem?_getD,hx]
          have hsel:=selX_spec h hlt
          rw [he] at hsel
          refine ⟨e,S1.encE s1,S1.encB s1,hsel,fun ro hro G a w Q hok hQ=>?_⟩
          obtain ⟨G1,g1⟩:=norm_sound (n:=n) h0 hn0 hd hok
          refine haw ro hro G1 a w Q g1.ok fun G2 a2 w2 x hx' g2=>?_
          obtain ⟨G3,g3⟩:=norm_sound (n:=n) h1 hn1 hd1 g2.ok
          exact hQ G3 a2 w2 x hx' ((g1.trans g2).trans g3)
        · cases hk
      · cases hk
  · cases h
def fnE (ev:LoopT) (P:Program) {X:Type} (fn:Func) (args:List AVal) (B:Bx) (k:AVal→Bx→Option X):Option X:=
  ev.run X (args++List.replicate (fn.ntmps - args.length) .any) B (endK P fn k)
theorem fnE_sound {n:Nat} {P:Program} {ev:LoopT} {X:Type} {f:FuncId} {fn:Func} {c:Code} {args:List AVal} {B:Bx} {k:AVal→Bx→Option X} {r:X} (hf:P.funcs[f]?=some fn) (hb:fn.body=some c) (hent:Ent P f)
    (hE:LValid n P c ev false) (h:fnE ev P fn args B k=some r):∃ v B',k v B'=some r∧LCall n P f args B v B':=by
  unfold fnE at h
  obtain ⟨e,env,B',h1,w1⟩:=hE _ _ _ _ _ h
  exact body_lcall hf hb hent w1 h1
theorem frz_lcallE {P:Program} {ev:LoopT} {g:FuncId} {fn:Func} {c:Code} {A:List PTy} {R:PTy} {f:Els A→Option R.El} (hf:P.funcs[g]?=some fn) (hb:fn.body=some c) (hent:Ent P g) (hE:LValid 0 P c ev false) (hA:A.all PTy.pure=true) (hR:R.pure=true) (hev:∀ x,fnE ev P fn (encs A x) ⟨[],[],0⟩ (frzF R)=f x) :
    ∀ x r,f x=some r→LCall 0 P g (encs A x) ⟨[],[],0⟩ (R.enc r) ⟨[],[],0⟩:=by
  intro x r hr
  obtain ⟨v,B',hk,hl⟩:=fnE_sound (n:=0) hf hb hent hE ((hev x).trans hr)
  unfold frzF at hk
  split at hk
  · rename_i T b
    split at hk
    · rename_i c hc
      cases hnm:c.isM with
      | true=>rw [hnm] at hk; cases hk
      | false=>
        rw [hnm] at hk
        simp only [cond_false] at hk
        refine ⟨hl.1,fun G w vs hvs hw=>(hl.2 G w vs hvs hw).mono ?_⟩
        rintro e w' ⟨cv,G1,rfl,h1,h2,h3,h4⟩
        obtain ⟨blk,hblk,_,rfl⟩:=ptr_form h1
        obtain ⟨cells,e,hh,hrc⟩:=(h2.boxes b blk c hblk hc).cells (isC_of hnm)
        have hrd:=asData_spec hk _ hrc
        have hmem:blk∈G1.addr:=List.mem_of_getElem? hblk
        have hge:w.heap.size≤blk:=by
          rcases h3.addr blk hmem with h | h
          · have:=hw.len
            have h0:G.addr=[]:=List.length_eq_zero_iff.1 this
            rw [h0] at h; cases h
          · exact h
        have hnone:=h2.disj blk hmem
        let G2:Gh:={ imm:=fun x=>if x=blk then some cells.toList else G1.imm x,own:=fun _=>none,addr:=[] }
        have himm:ImmLe G1.imm G2.imm:=fun b' row h=>by
          have hne:b'≠blk:=fun he=>by subst he; rw [hnone] at h; cases h
          exact ⟨row,by simp [G2,hne,h],List.prefix_refl _⟩
        have hself:G2.imm blk=some cells.toList:=by simp [G2]
        have hlen:=RD.len hrd
        refine ⟨_,G2,rfl,leaf_v rfl ⟨blk,0,cells.toList,rfl,hself,by omega,?_⟩,⟨rfl,List.nodup_nil,fun i b c h=>by simp [G2] at h,fun b' row h=>?_,(fun b h=>by cases h),(fun t b n h=>by cases h),(fun t t' b n n' h=>by cases h),fun q hq=>⟨(h2.tab q hq).1,(fun h=>by cases h),(fun t n h=>by cases h)⟩,fun i t T xs h=>by simp at h⟩,
          ⟨h3.os,h3.tape,h3.output,h3.size,h3.frame,h3.imm.trans himm,fun b' hb' ho=>?_,(fun b hb=>by cases hb),(fun t b n h=>by cases h)⟩,fun i b hi=>by omega⟩
        · rw [List.drop_zero,List.take_of_length_le (by omega)]
          exact RD.mono himm hrd
        · by_cases hbe:b'=blk
          · subst hbe
            rw [hself] at h
            cases h
            exact ⟨cells,e,(0,0),hh,List.prefix_refl _⟩
          · exact h2.imm b' row (by simpa [G2,hbe] using h)
        · have hne:b'≠blk:=by omega
          show (if b'=blk then some cells.toList else G1.imm b')=G.imm b'
          rw [if_neg hne]
          exact h3.same b' hb' ho
    · cases hk
  · split at hk
    · rename_i y hy
      obtain ⟨y,l⟩:=y
      simp only [Option.some.injEq] at hk
      subst hk
      refine ⟨hl.1,fun G w vs hvs hw=>(hl.2 G w vs hvs hw).mono ?_⟩
      rintro e w' ⟨cv,G1,hend,h1,h2,h3,h4⟩
      let G2:Gh:={ imm:=G1.imm,own:=fun _=>none,addr:=[] }
      have hr:ReTok G1 B'.dead G2 0 []:=⟨rfl,by simp [G2],fun k t h=>by cases h⟩
      have e:=pure_toks hR hy
      subst e
      refine ⟨cv,G2,dec_end (pure_notAny hR) hy hend,dec_v hr hy (under_top (pure_under hR)) (fun q hq=>by cases hq) h1,⟨rfl,List.nodup_nil,fun i b c h=>by simp [G2] at h,h2.imm,(fun b h=>by cases h),(fun t b n h=>by cases h),(fun t t' b n n' h=>by cases h),fun q hq=>⟨(h2.tab q hq).1,(fun h=>by cases h),(fun t n h=>by cases h)⟩,fun i t T xs h=>by simp at h⟩,?_,fun i b hi=>by omega⟩
      exact ⟨h3.os,h3.tape,h3.output,h3.size,h3.frame,h3.imm,h3.same,(fun b hb=>by cases hb),(fun t b n h=>by cases h)⟩
    · cases hk
end Go.Proofs.YtkeipcalbbmncaaGreat.Abs
set_option linter.unusedVariables false
set_option linter.unusedSimpArgs false
namespace Go.Proofs.YtkeipcalbbmncaaGreat.Abs
end Go.Proofs.YtkeipcalbbmncaaGreat.Abs
set_option linter.unusedVariables false
set_option linter.unusedSimpArgs false
namespace Go.Proofs.YtkeipcalbbmncaaGreat.Abs
def immOf (w:World):Nat→Option (List Value):=fun b=>match w.heap[b]? with
  | some (.cells c _ _)=>some c.toList
  | _=>none
def layFs (P:Program) (rec:TypeId→DTy→Bool):List Field→DTy→Nat→Bool
  | [],.nil,_=>true
  | f::fs,.cons h t,o=>f.offset==o&&P.cellsOf f.type==h.sz&&rec f.type h&&layFs P rec fs t (o+h.sz)
  | _,_,_=>false
def layT (P:Program):Nat→TypeId→DTy→Bool
  | 0,_,_=>false
  | n+1,t,T=>P.cellsOf t==T.sz&&match P.underlying t with
    | some .bool=>match T with
      | .bool=>true
      | _=>false
    | some (.int k)=>match T with
      | .int k'=>k==k'
      | _=>false
    | some .string=>match T with
      | .str=>true
      | _=>false
    | some (.slice e)=>match T with
      | .list E=>decide (0 < E.sz)&&layT P n e E
      | _=>false
    | some (.array m e)=>match T with
      | .arr m' E=>m==m'&&layT P n e E
      | _=>false
    | some (.struct fs)=>layFs P (layT P n) fs.toList T 0
    | _=>false
theorem layT_sz {P:Program} {n:Nat} {t:TypeId} {T:DTy} (h:layT P n t T=true):P.cellsOf t=T.sz:=by
  cases n with
  | zero=>simp [layT] at h
  | succ n=>
    simp only [layT,Bool.and_eq_true,beq_iff_eq] at h
    exact h.1
variable {H:Type} {enc:TypeId×Value→H} {P:Program} {w:World} {base:Nat} {sp:Nat→Bool} {held:Bool}
theorem cells_imm {a:Addr} {n:Nat} {cs:List Value} (hn:0 < n) (h:w.cells? base a n=some cs):∃ b off row,a=⟨b,off,none⟩∧immOf w b=some row∧off+n≤row.length∧cs=(row.drop off).take n:=by
  unfold World.cells? at h
  split at h
  · have hlen:=mapM_some_length h
    simp only [List.length_range] at hlen
    have hget:∀ i,i < n→w.cell? (a.add i)=cs[i]?:=fun i hi=>mapM_some_get h i i (by simp [hi])
    obtain ⟨b,off,spot⟩:=a
    have h0:=hget 0 hn
    have hcs0:cs[0]?=some (cs[0]'(by omega)):=List.getElem?_eq_getElem (by omega)
    rw [hcs0] at h0
    have hadd0:(⟨b,off,spot⟩:Addr).add 0=⟨b,off,spot⟩:=by unfold Addr.add; rw [if_pos rfl]
    rw [hadd0] at h0
    unfold World.cell? at h0
    simp only at h0
    split at h0
    · rename_i c e fr hb
      cases hsp:spot.isSome with
      | true=>rw [hsp] at h0; simp at h0
      | false=>
        have hnone:spot=none:=by cases spot<;>simp at hsp; rfl
        subst hnone
        have hcell:∀ i,i < n→c[off+i]?=cs[i]?:=fun i hi=>by
          have:=hget i hi
          rw [addr_add] at this
          unfold World.cell? at this
          simp only [hb] at this
          simpa using this
        have hroom:off+n≤c.size:=by
          have:=hcell (n - 1) (by omega)
          rw [List.getElem?_eq_getElem (by omega:n - 1 < cs.length)] at this
          have:=(Array.getElem?_eq_some_iff.1 this).1
          omega
        refine ⟨b,off,c.toList,rfl,by unfold immOf; rw [hb],by simpa using hroom,?_⟩
        apply List.ext_getElem?
        intro i
        by_cases hi:i < n
        · rw [List.getElem?_take_of_lt hi,List.getElem?_drop,← hcell i hi]
          simp
        · rw [List.getElem?_eq_none (by omega),List.getElem?_eq_none (by simp; omega)]
    · cases h0
  · cases h
theorem choose_list {α:Type} {p:Nat→α→Prop}:(n:Nat)→(∀ i,i < n→∃ x,p i x)→∃ xs:List α,xs.length=n∧∀ i x,xs[i]?=some x→p i x
  | 0,_=>⟨[],rfl,fun i x h=>by simp at h⟩
  | n+1,h=>by
    obtain ⟨xs,h1,h2⟩:=choose_list n fun i hi=>h i (by omega)
    obtain ⟨x,hx⟩:=h n (by omega)
    refine ⟨xs++[x],by simp [h1],fun i y hy=>?_⟩
    rw [List.getElem?_append] at hy
    split at hy
    · exact h2 i y hy
    · have hi:i=n:=by
        have:=(List.getElem?_eq_some_iff.1 hy).1
        simp at this; omega
      subst hi
      simp [h1] at hy
      subst hy
      exact hx
theorem trod_RD:∀ (n:Nat) (fuel:Nat) (t:TypeId) (T:DTy) (cs:List Value) (x:DataW H×List MemPlace),layT P n t T=true→DataW.trod enc P w base sp held fuel t cs=some x→∃ y:T.El,RD (immOf w) T y cs:=by
  intro n
  induction n with
  | zero=>intro fuel t T cs x h _; simp [layT] at h
  | succ n ih=>
    intro fuel t T cs x hl ht
    have hsz:=layT_sz hl
    simp only [layT,Bool.and_eq_true] at hl
    replace hl:=hl.2
    cases fuel with
    | zero=>simp [DataW.trod] at ht
    | succ fuel=>
    split at hl
    · rename_i hu
      cases T<;>simp only [Bool.false_eq_true] at hl
      unfold DataW.trod at ht
      rw [hu] at ht
      split at ht<;>simp_all
      rename_i b
      cases b
      · exact .inl rfl
      · exact .inr rfl
    · rename_i k hu
      cases T<;>simp only [Bool.false_eq_true,beq_iff_eq] at hl
      subst hl
      obtain ⟨m,rfl,_⟩:=DataW.trod_int hu ht
      exact ⟨m,rfl⟩
    · rename_i hu
      cases T<;>simp only [Bool.false_eq_true] at hl
      unfold DataW.trod at ht
      rw [hu] at ht
      split at ht<;>simp_all
      rename_i s
      exact ⟨s,rfl⟩
    · rename_i e hu
      cases T<;>simp only [Bool.false_eq_true,Bool.and_eq_true,decide_eq_true_eq] at hl
      rename_i E
      have hes:=layT_sz hl.2
      rcases DataW.trod_slice hu ht with ⟨rfl,_⟩ | ⟨a,len,cap,elems,rest,m,_,rfl,_,_,hlc,_,hlen,hel,_,_⟩
      · exact ⟨[],none,0,rfl,Nat.le_refl _,fun h=>absurd rfl h⟩
      · by_cases h0:len=0
        · subst h0
          exact ⟨[],some a,cap,rfl,Nat.zero_le _,fun h=>absurd rfl h⟩
        · have each:∀ i,i < len→∃ (cs:List Value) (y:E.El),w.cells? base (a.add (i*E.sz)) E.sz=some cs∧RD (immOf w) E y cs:=fun i hi=>by
            have h1:=hel i hi
            rw [List.getElem?_eq_getElem (by omega),hes] at h1
            cases hc:w.cells? base (a.add (i*E.sz)) E.sz with
            | none=>rw [hc] at h1; cases h1
            | some cs=>
              rw [hc] at h1
              simp only [Option.bind_some] at h1
              obtain ⟨y,hy⟩:=ih m e E cs _ hl.2 h1
              exact ⟨cs,y,rfl,hy⟩
          obtain ⟨c0,_,hc0,_⟩:=each 0 (by omega)
          obtain ⟨b,off,row,ha,hrow,_,_⟩:=cells_imm hl.1 hc0
          have ha':a=⟨b,off,none⟩:=by
            have:a.add (0*E.sz)=a:=by unfold Addr.add; rw [Nat.zero_mul,if_pos rfl]
            rw [this] at ha; exact ha
          subst ha'
          have each2:∀ i,i < len→∃ y:E.El,off+i*E.sz+E.sz≤row.length∧RD (immOf w) E y ((row.drop (off+i*E.sz)).take E.sz):=fun i hi=>by
            obtain ⟨cs,y,h1,h2⟩:=each i hi
            rw [addr_add] at h1
            obtain ⟨b',off',row',e1,e2,e3,e4⟩:=cells_imm hl.1 h1
            simp only [Addr.mk.injEq,and_true] at e1
            obtain ⟨rfl,rfl⟩:=e1
            rw [hrow] at e2
            cases e2
            exact ⟨y,e3,by rw [← e4]; exact h2⟩
          obtain ⟨ys,hy1,hy2⟩:=choose_list len each2
          refine ⟨ys,some ⟨b,off,none⟩,cap,by rw [hy1],by rw [hy1]; exact hlc,fun _=>⟨b,off,row,rfl,hrow,?_,fun i y hy=>(hy2 i y hy).2⟩⟩
          have hlast:=hy2 (len - 1) _ (List.getElem?_eq_getElem (by omega))
          have:(len - 1)*E.sz+E.sz=len*E.sz:=by
            have h1:len - 1+1=len:=by omega
            rw [← Nat.succ_mul]; show (len - 1+1)*E.sz=_; rw [h1]
          rw [hy1]
          omega
    · rename_i q e hu
      cases T<;>simp only [Bool.false_eq_true,Bool.and_eq_true,beq_iff_eq] at hl
      rename_i q' E
      obtain ⟨rfl,hle⟩:=hl
      have hes:=layT_sz hle
      obtain ⟨xs,m,_,_,hlen,hxl,hf⟩:=DataW.trod_array hu ht
      rw [hsz] at hlen
      have each:∀ i,i < q→∃ y:E.El,RD (immOf w) E y ((cs.drop (i*E.sz)).take E.sz):=fun i hi=>by
        have h1:=hf i hi
        rw [List.getElem?_eq_getElem (by omega),hes] at h1
        exact ih m e E _ _ hle h1
      obtain ⟨ys,hy1,hy2⟩:=choose_list q each
      exact ⟨ys,hy1,hlen,hy2⟩
    · rename_i fs hu
      obtain ⟨xs,m,_,_,hlen,hxl,hf⟩:=DataW.trod_struct hu ht
      rw [hsz] at hlen
      have main:∀ (l:List Field) (T:DTy) (o:Nat),layFs P (layT P n) l T o=true→(∀ f∈l,∃ z,DataW.trod enc P w base sp held m f.type ((cs.drop f.offset).take (P.cellsOf f.type))=some z)→o+T.sz≤cs.length→∃ y:T.El,RD (immOf w) T y ((cs.drop o).take T.sz):=by
        intro l
        induction l with
        | nil=>intro T o h _ _; cases T<;>simp [layFs] at h; exact ⟨(),by simp [DTy.sz]; rfl⟩
        | cons f fs ihf=>
          intro T o h hz hr
          cases T with
          | cons a b=>
            simp only [layFs,Bool.and_eq_true,beq_iff_eq] at h
            obtain ⟨⟨⟨rfl,hcs⟩,hrec⟩,hrest⟩:=h
            obtain ⟨z,hz1⟩:=hz f (by simp)
            rw [hcs] at hz1
            obtain ⟨y1,hy1⟩:=ih m f.type a _ z hrec hz1
            have hs:(DTy.cons a b).sz=a.sz+b.sz:=rfl
            rw [hs] at hr
            obtain ⟨y2,hy2⟩:=ihf b (f.offset+a.sz) hrest (fun g hg=>hz g (by simp [hg])) (by omega)
            refine ⟨(y1,y2),_,_,?_,hy1,hy2⟩
            rw [hs,List.take_add,List.drop_drop]
          | _=>simp [layFs] at h
      obtain ⟨y,hy⟩:=main fs.toList T 0 hl (fun f hf'=>by
        obtain ⟨i,hi,he⟩:=List.mem_iff_getElem.1 hf'
        have hfi:fs[i]?=some f:=by
          rw [← Array.getElem?_toList,List.getElem?_eq_getElem hi,he]
        have:=hf i f hfi
        rw [List.getElem?_eq_getElem (by rw [hxl]; simpa using hi)] at this
        exact ⟨_,this⟩) (by omega)
      rw [List.drop_zero,List.take_of_length_le (by omega)] at hy
      exact ⟨y,hy⟩
    · cases hl
open Go.ChangeShapes Go.WideShapes Go.RowKit
theorem lay_agg {P:Program} {n:Nat} {t:TypeId} {T:DTy} (h:layT P n t T=true):(T.agg=true→(∃ fs,P.underlying t=some (.struct fs))∨∃ m e,P.underlying t=some (.array m e))∧
    (T.agg=false→(P.underlying t=some .bool∨(∃ k,P.underlying t=some (.int k))∨P.underlying t=some .string∨∃ e,P.underlying t=some (.slice e))):=by
  cases n with
  | zero=>simp [layT] at h
  | succ n=>
    simp only [layT,Bool.and_eq_true] at h
    replace h:=h.2
    split at h
    · rename_i hu
      cases T<;>simp only [Bool.false_eq_true] at h
      exact ⟨fun h=>by simp [DTy.agg] at h,fun _=>.inl hu⟩
    · rename_i k hu
      cases T<;>simp only [Bool.false_eq_true] at h
      exact ⟨fun h=>by simp [DTy.agg] at h,fun _=>.inr (.inl ⟨k,hu⟩)⟩
    · rename_i hu
      cases T<;>simp only [Bool.false_eq_true] at h
      exact ⟨fun h=>by simp [DTy.agg] at h,fun _=>.inr (.inr (.inl hu))⟩
    · rename_i e hu
      cases T<;>simp only [Bool.false_eq_true] at h
      exact ⟨fun h=>by simp [DTy.agg] at h,fun _=>.inr (.inr (.inr ⟨e,hu⟩))⟩
    · rename_i m e hu
      cases T<;>simp only [Bool.false_eq_true] at h
      exact ⟨fun _=>.inr ⟨m,e,hu⟩,fun h=>by simp [DTy.agg] at h⟩
    · rename_i fs hu
      refine ⟨fun _=>.inl ⟨fs,hu⟩,fun ha=>?_⟩
      generalize fs.toList=l at h
      generalize (0:Nat)=o at h
      cases l<;>cases T<;>simp [layFs,DTy.agg] at h ha
    · cases h
theorem arg_v {H:Type} {enc:TypeId×Value→H} {P:Program} {W:World} {base base' n:Nat} {sp:Nat→Bool} {held:Bool} {t:TypeId} {T:DTy} {v:Value} {d:DataW H} {ps:List MemPlace} (hl:layT P n t T=true) (hok:Value.okWide P W .any base' t v) (h:DataW.Trod enc P W base sp held t v d ps):∃ y:T.El,VD (immOf W) T y v:=by
  obtain ⟨fuel,hf⟩:=h
  obtain ⟨y,hy⟩:=trod_RD n fuel t T _ _ hl hf
  refine ⟨y,v.cells.toList,hy,?_⟩
  obtain ⟨h1,h2⟩:=lay_agg hl
  cases ha:T.agg with
  | true=>
    refine .inl ⟨rfl,?_⟩
    have:∃ cs,v=.agg cs:=by
      rcases h1 ha with ⟨fs,hu⟩ | ⟨m,e,hu⟩
      · unfold Value.okWide at hok
        rw [hu] at hok
        obtain ⟨cs,h,_⟩:=hok
        exact ⟨cs,h⟩
      · unfold Value.okWide at hok
        rw [hu] at hok
        obtain ⟨cs,h,_⟩:=hok
        exact ⟨cs,h⟩
    obtain ⟨cs,rfl⟩:=this
    simp [Value.cells]
  | false=>
    refine .inr ⟨rfl,?_⟩
    have hna:∀ cs,v≠.agg cs:=fun cs hv=>by
      subst hv
      rcases h2 ha with hu | ⟨k,hu⟩ | hu | ⟨e,hu⟩<;>simp [Value.okWide,hu,Cell.okWide,Cell.ok] at hok
    cases v<;>first | rfl | exact absurd rfl (hna _)
def layA (P:Program) (n:Nat):List TypeId→List PTy→Bool
  | [],[]=>true
  | t::ts,.dat T::A=>layT P n t T&&layA P n ts A
  | _,_=>false
def wfD:(T:DTy)→T.El→Prop
  | .arr n e,xs=>xs.length=n∧∀ x∈xs,wfD e x
  | .list e,xs=>∀ x∈xs,wfD e x
  | .cons h t,x=>wfD h x.1∧wfD t x.2
  | .int _,_=>True
  | .bool,_=>True
  | .str,_=>True
  | .nil,_=>True
  | .mapr,_=>True
  | .opq,_=>True
theorem RD.wf {imm:Nat→Option (List Value)}:{T:DTy}→{x:T.El}→{cs:List Value}→RD imm T x cs→wfD T x
  | .int _,_,_,_=>by simp [wfD]
  | .bool,_,_,_=>by simp [wfD]
  | .str,_,_,_=>by simp [wfD]
  | .nil,_,_,_=>by simp [wfD]
  | .mapr,_,_,_=>by simp [wfD]
  | .opq,_,_,_=>by simp [wfD]
  | .cons a t,x,cs,h=>by
    obtain ⟨c1,c2,rfl,h1,h2⟩:=h
    simp only [wfD]
    exact ⟨RD.wf h1,RD.wf h2⟩
  | .arr n e,xs,cs,h=>by
    obtain ⟨h1,h2,h3⟩:=h
    simp only [wfD]
    refine ⟨h1,fun x hx=>?_⟩
    obtain ⟨i,hi⟩:=List.mem_iff_getElem?.1 hx
    have:=RD.wf (T:=e) (h3 i x hi)
    exact this
  | .list e,xs,cs,h=>by
    obtain ⟨A,cap,rfl,_,h3⟩:=h
    simp only [wfD]
    intro x hx
    obtain ⟨i,hi⟩:=List.mem_iff_getElem?.1 hx
    obtain ⟨b,off,row,_,_,_,h4⟩:=h3 (by intro h0; subst h0; simp at hi)
    have:=RD.wf (T:=e) (h4 i x hi)
    exact this
def wfs:(ps:List PTy)→Els ps→Prop
  | .dat T::ps,x=>wfD T x.1∧wfs ps x.2
  | _,_=>True
theorem args_vals {H:Type} {enc:TypeId×Value→H} {P:Program} {W:World} {base base' n:Nat} {sp:Nat→Bool} {held:Bool} {G:Gh} (hG:G.imm=immOf W):{ts:List TypeId}→{A:List PTy}→{vs:List Value}→{ds:List (DataW H)}→{ps:List MemPlace}→layA P n ts A=true→
    (∀ (j:Nat) t v,ts[j]?=some t→vs[j]?=some v→Value.okWide P W .any base' t v)→DataW.TrodAll enc P W base sp held ts vs ds ps→∃ x:Els A,Vals G [] (encs A x) vs∧wfs A x
  | [],[],vs,ds,ps,_,_,h=>by
    obtain ⟨rfl,_,_⟩:=trodAll_nil h
    exact ⟨(),.nil,trivial⟩
  | t::ts,.dat T::A,vs,ds,ps,hl,hok,h=>by
    simp only [layA,Bool.and_eq_true] at hl
    obtain ⟨v,vs',d,ds',p,q,rfl,rfl,rfl,h1,h2⟩:=trodAll_cons h
    obtain ⟨y,hy⟩:=arg_v hl.1 (hok 0 t v rfl rfl) h1
    obtain ⟨x,hx,hwx⟩:=args_vals hG hl.2 (fun j t' v' ht hv=>hok (j+1) t' v' (by simpa using ht) (by simpa using hv)) h2
    rw [← hG] at hy
    refine ⟨(y,x),.cons hy hx,?_,hwx⟩
    obtain ⟨cs,h,_⟩:=hy
    exact h.wf
  | [],.dat _::_,_,_,_,hl,_,_=>by simp [layA] at hl
  | [],.any::_,_,_,_,hl,_,_=>by simp [layA] at hl
  | [],.fix _::_,_,_,_,hl,_,_=>by simp [layA] at hl
  | [],.own _ _::_,_,_,_,hl,_,_=>by simp [layA] at hl
  | [],.cons _ _::_,_,_,_,hl,_,_=>by simp [layA] at hl
  | [],.nil::_,_,_,_,hl,_,_=>by simp [layA] at hl
  | [],.tup _::_,_,_,_,hl,_,_=>by simp [layA] at hl
  | [],.map _ _::_,_,_,_,hl,_,_=>by simp [layA] at hl
  | [],.ip _::_,_,_,_,hl,_,_=>by simp [layA] at hl
  | [],.lp _ _ _::_,_,_,_,hl,_,_=>by simp [layA] at hl
  | _::_,[],_,_,_,hl,_,_=>by simp [layA] at hl
  | _::_,.any::_,_,_,_,hl,_,_=>by simp [layA] at hl
  | _::_,.fix _::_,_,_,_,hl,_,_=>by simp [layA] at hl
  | _::_,.own _ _::_,_,_,_,hl,_,_=>by simp [layA] at hl
  | _::_,.cons _ _::_,_,_,_,hl,_,_=>by simp [layA] at hl
  | _::_,.nil::_,_,_,_,hl,_,_=>by simp [layA] at hl
  | _::_,.tup _::_,_,_,_,hl,_,_=>by simp [layA] at hl
  | _::_,.map _ _::_,_,_,_,hl,_,_=>by simp [layA] at hl
  | _::_,.ip _::_,_,_,_,hl,_,_=>by simp [layA] at hl
  | _::_,.lp _ _ _::_,_,_,_,hl,_,_=>by simp [layA] at hl
theorem trodAll_len {H:Type} {enc:TypeId×Value→H} {P:Program} {W:World} {base:Nat} {sp:Nat→Bool} {held:Bool}:{ts:List TypeId}→{vs:List Value}→{ds:List (DataW H)}→{ps:List MemPlace}→DataW.TrodAll enc P W base sp held ts vs ds ps→ds.length=ts.length
  | [],vs,ds,ps,h=>by
    obtain ⟨rfl,rfl,rfl⟩:=trodAll_nil h
    rfl
  | t::ts,vs,ds,ps,h=>by
    obtain ⟨v,vs',d,ds',p,q,rfl,rfl,rfl,h1,h2⟩:=trodAll_cons h
    simp [trodAll_len h2]
theorem trodAll_stays {H:Type} {enc:TypeId×Value→H} {P:Program} (hlo:laidOutB P=true) {W W':World} {sp':Nat→Bool}:{ts:List TypeId}→{vs:List Value}→{ds:List (DataW H)}→{ps:List MemPlace}→(∀ t∈ts,P.readableRec t=true∧t < P.types.size)→DataW.TrodAll enc P W 0 (fun _=>true) true ts vs ds ps→(∀ p∈ps,W.sameAt W' p)→(∀ p∈ps,sp' p.block=true)→DataW.TrodAll enc P W' 0 sp' true ts vs ds ps
  | [],vs,ds,ps,_,h,_,_=>by
    obtain ⟨rfl,rfl,rfl⟩:=trodAll_nil h
    rfl
  | t::ts,vs,ds,ps,hr,h,hs,hsp=>by
    obtain ⟨v,vs',d,ds',p,q,rfl,rfl,rfl,h1,h2⟩:=trodAll_cons h
    have ht:=hr t (by simp)
    exact ⟨p,q,WideElems.Trod_stays hlo ht.1 ht.2 h1 (fun x hx=>hs x (by simp [hx])) (fun x hx=>hsp x (by simp [hx])),trodAll_stays hlo (fun t' ht'=>hr t' (by simp [ht'])) h2 (fun x hx=>hs x (by simp [hx])) (fun x hx=>hsp x (by simp [hx])),rfl⟩
theorem law_contract {P:Program} {g:FuncId} {fn:Func} {A:List PTy} {f:Els A→Option Bool} {n:Nat} {s:ChangeSpec} {tb:TypeId} (hl:∀ x r,f x=some r→LCall 0 P g (encs A x) ⟨[],[],0⟩ (.d .bool r) ⟨[],[],0⟩) (hf:∀ x,wfs A x→f x=some true) (hg:g≠YLD)
    (hrt:fn.resultTypes=#[tb]) (hub:P.underlying tb=some .bool) (hlay:layA P n fn.params.toList A=true) (hlo:laidOutB P=true) (hread:∀ t∈fn.params.toList,P.readableRec t=true∧t < P.types.size)
    (hvars:s.vars=[]) (hfn:∀ (H:Type) (ds:List (DataW H)),ds.length=fn.params.toList.length→(s.fn H ds).results=[.lit (.bool true)]∧(s.fn H ds).args=ds∧(s.fn H ds).vars=[])
    {H:Type} {enc:TypeId×Value→H} {W:World} {base:Nat} {args:Array Value} {ds gs:List (DataW H)} {before:List MemPlace} {apart fresh handsOn again:Bool}
    (hval:∀ (j:Nat) t v,fn.params[j]?=some t→args[j]?=some v→Value.okWide P W .any base t v)
    (hW:DataW.Whole enc P fn.params.toList s.vars apart W args.toList ds gs before) (htab:∀ q∈TABS,∃ e fr,W.heap[q.1]?=some (.cells q.2 e fr)) :
    Calls P g args W fun e W'=>∃ v,e=.returned v∧s.post enc P fn apart fresh handsOn again W args v W':=by
  have hW0:=hW
  obtain ⟨p,q,hA,hV,rfl,hfz,hnd⟩:=hW
  rw [hvars] at hV
  obtain ⟨rfl,rfl⟩:=trodVars_none hV
  let G:Gh:={ imm:=immOf W,own:=fun _=>none,addr:=[] }
  obtain ⟨x,hx,hwx⟩:=args_vals (G:=G) (n:=n) (base':=base) rfl hlay (fun j t v ht hv=>hval j t v (by rw [← Array.getElem?_toList]; exact ht) (by rw [← Array.getElem?_toList]; exact hv)) hA
  have himm:∀ b row,G.imm b=some row→∃ cells e fr,W.heap[b]?=some (.cells cells e fr)∧row <+: cells.toList:=fun b row hb=>by
    have hb':immOf W b=some row:=hb
    unfold immOf at hb'
    split at hb'
    · rename_i c e fr hc
      simp only [Option.some.injEq] at hb'
      exact ⟨c,e,fr,hc,by rw [hb']; exact List.prefix_refl _⟩
    · cases hb'
  have hwok:WOk G ⟨[],[],0⟩ W:=⟨rfl,List.nodup_nil,(fun i b c h=>by simp [G] at h),himm,(fun b h=>by cases h),(fun t b n h=>by cases h),(fun t t' b n n' h=>by cases h),fun q hq=>⟨htab q hq,(fun h=>by cases h),(fun t n h=>by cases h)⟩,fun i t T xs h=>by simp at h⟩
  have hcall:=((hl x true (hf x hwx)).2 G W args.toList hx hwok).1 hg
  refine Calls.mono hcall ?_
  rintro e W' ⟨cv,G',hend,hcv,hw',hext,_⟩
  have hrfl:=EndIs.ret hend rfl
  subst hrfl
  have hsame:∀ b,b < W.heap.size→W'.heap[b]?=W.heap[b]?:=fun b hb=>hext.frame b hb (by simp [G]) (fun t n h=>by cases h)
  have hcv':=bool_form hcv
  subst hcv'
  refine ⟨_,rfl,?_⟩
  have hlen:ds.length=fn.params.toList.length:=(trodAll_len hA)
  obtain ⟨e1,e2,e3⟩:=hfn H (ds++[]) (by simpa using hlen)
  have hlt:∀ p'∈p,p'.block < W.heap.size:=fun p' hp'=>hA.lt p' hp'
  have hsa:∀ p'∈p,W.sameAt W' p':=fun p' hp'=>by
    have hb:=hsame p'.block (hlt p' hp')
    cases p' with
    | cell b off=>
      show W'.cell? ⟨b,off,none⟩=W.cell? ⟨b,off,none⟩
      unfold World.cell?
      rw [show W'.heap[b]?=W.heap[b]? from hb]
    | map b=>exact hb
  have hargs:∀ sp:Nat→Bool,(∀ p'∈p,sp p'.block=true)→DataW.TrodAll enc P W' 0 sp true fn.params.toList args.toList ds p:=fun sp hsp=>trodAll_stays hlo hread hA hsa hsp
  have hres:∀ (b:Nat) (sp:Nat→Bool) (hd:Bool),DataW.TrodAll enc P W' b sp hd fn.resultTypes.toList ((Value.bool true).resultList fn.resultTypes.size) [.lit (.bool true)] []:=fun b sp hd=>by
    rw [hrt]
    exact trodAll_cons_mk (shut_bool hub _) trodAll_mk0
  have hvv:∀ sp:Nat→Bool,DataW.TrodVars enc P W' sp s.vars ([]:List (DataW H)) []:=fun sp=>by rw [hvars]; rfl
  have hold:∀ p'∈p,(fun b=>decide (b < W.heap.size)) p'.block=true:=fun p' hp'=>by simpa using hlt p' hp'
  refine ⟨ds,[],p++[],[],p,[],hW0,?_,?_,?_,?_,fun _=>?_⟩
  · rw [e1]; exact hres _ _ _
  · rw [e2,List.append_nil]; exact hargs _ hold
  · rw [e3]; exact hvv _
  · have hk:W.keptBut W' (fun _=>False):=⟨hext.os,hext.output,fun i hi=>by
      rw [hsame i hi]
      exact (World.keptBut_refl W (fun _=>False)).2.2 i hi⟩
    exact World.keptBut_mono (fun _ f=>f.elim) hk
  · refine ⟨ok_one hrt rfl (okWide_bool_mk hub _),_,_,([]++p)++[],⟨[]++p,[],trodAll_append (hargs _ (fun _ _=>rfl)) (hres _ _ _),hvv _,rfl,?_,?_⟩,?_⟩
    · intro b off hp
      have hp':MemPlace.cell b off∈p:=by simpa using hp
      have hz:=hfz b off (by simpa using hp')
      have hb:=hsame b (hlt _ hp')
      unfold World.frozen? at hz ⊢
      rw [show W'.heap[b]?=W.heap[b]? from hb]
      exact hz
    · intro ha
      have:=hnd ha
      simpa using this
    · intro p' hp' _
      simpa using hp'
end Go.Proofs.YtkeipcalbbmncaaGreat.Abs
set_option linter.unusedVariables false
set_option linter.unusedSimpArgs false
namespace Go.Proofs.YtkeipcalbbmncaaGreat.Abs
def orT (ok:List AVal→Bx→Bool) (L M:LoopT):LoopT:=⟨fun X env B k=>bif ok env B then L.run X env B k else M.run X env B k⟩
theorem orT_valid {n:Nat} {P:Program} {c:Code} {ok:List AVal→Bx→Bool} {L M:LoopT} {rd:Bool} (hL:LValid n P c L rd) (hM:LValid n P c M rd):LValid n P c (orT ok L M) rd:=by
  intro X env B k r h
  unfold orT at h
  simp only at h
  cases hb:ok env B with
  | true=>rw [hb] at h; exact hL X env B k r h
  | false=>rw [hb] at h; exact hM X env B k r h
def SPat.fit (S:SPat) (env:List AVal) (B:Bx):Bool:=(S.dec env B).isSome
end Go.Proofs.YtkeipcalbbmncaaGreat.Abs
set_option linter.unusedVariables false
set_option linter.unusedSimpArgs false
namespace Go.Proofs.YtkeipcalbbmncaaGreat.Abs
def altK {A B X:Type} (v:A ⊕ B) (f:A→Option X) (g:B→Option X):Option X:=match v with
  | .inl a=>f a
  | .inr b=>g b
@[reducible] def CSpec.alt (S:CSpec) (O:List PTy) (ntO:Nat) (R:PTy):CSpec:=⟨S.A,S.I,S.nt,O,ntO,R⟩
def callK2 {X:Type} (S:CSpec) (O:List PTy) (ntO:Nat) (R:PTy) (f:S.In→Option (S.Out ⊕ (S.alt O ntO R).Out)) (args:List AVal) (B:Bx) (k:AVal→Bx→Option X):Option X:=
  let sel:=selA S args B
  let fb:=fun b=>idxIn b sel
  bif nodupB sel&&sel.length==S.I.length&&sel.all (fun b=>decide (b < B.box.length))&&args.length==S.A.length then
    match SPat.dec ⟨S.A,S.I,S.nt⟩ (args.map fun a=>a.ren fb id) ⟨sel.map fun b=>(B.box.getD b .any).ren fb id,B.dead,B.nt⟩ with
    | some x=>bif vecFree B sel (SPat.toks ⟨S.A,S.I,S.nt⟩ (args.map fun a=>a.ren fb id) ⟨sel.map fun b=>(B.box.getD b .any).ren fb id,B.dead,B.nt⟩) then
        (f x).bind fun r=>altK r (fun r=>k (callB S args B r).1 (callB S args B r).2) (fun r=>k (callB (S.alt O ntO R) args B r).1 (callB (S.alt O ntO R) args B r).2) else none
    | none=>none
  else none
def altE (g:FuncId) (S:CSpec) (O:List PTy) (ntO:Nat) (R:PTy) (f:S.In→Option (S.Out ⊕ (S.alt O ntO R).Out)):CEnt:=⟨g,fun args B=>fits S args B,fun _ args B k=>bif !kpF g||(selA S args B).all (fun b=>argK g args b) then callK2 S O ntO R f args B k else none,false,false⟩
def inlF {A B:Type}:Option (A ⊕ B)→Option A
  | some (.inl a)=>some a
  | _=>none
def inrF {A B:Type}:Option (A ⊕ B)→Option B
  | some (.inr a)=>some a
  | _=>none
theorem inlF_spec {A B:Type} {v:Option (A ⊕ B)} {a:A} (h:inlF v=some a):v=some (.inl a):=by
  unfold inlF at h
  split at h
  · simp only [Option.some.injEq] at h; subst h; rfl
  · cases h
theorem inrF_spec {A B:Type} {v:Option (A ⊕ B)} {a:B} (h:inrF v=some a):v=some (.inr a):=by
  unfold inrF at h
  split at h
  · simp only [Option.some.injEq] at h; subst h; rfl
  · cases h
theorem callK2_spec {X:Type} {S:CSpec} {O:List PTy} {ntO:Nat} {R:PTy} {f:S.In→Option (S.Out ⊕ (S.alt O ntO R).Out)} {args:List AVal} {B:Bx} {k:AVal→Bx→Option X} {res:X} (h:callK2 S O ntO R f args B k=some res) :
    callK S (fun x=>inlF (f x)) args B k=some res∨callK (S.alt O ntO R) (fun x=>inrF (f x)) args B k=some res:=by
  unfold callK2 at h
  simp only at h
  unfold callK
  simp only
  have hsel:selA (S.alt O ntO R) args B=selA S args B:=rfl
  rw [hsel]
  generalize selA S args B=sel at h ⊢
  cases hb:nodupB sel&&sel.length==S.I.length&&sel.all (fun b=>decide (b < B.box.length))&&args.length==S.A.length with
  | false=>rw [hb] at h; cases h
  | true=>
    rw [hb] at h
    simp only [cond_true] at h ⊢
    split at h
    · rename_i x hdec
      cases hvf:vecFree B sel (SPat.toks ⟨S.A,S.I,S.nt⟩ (args.map fun a=>a.ren (fun b=>idxIn b sel) id) ⟨sel.map fun b=>(B.box.getD b .any).ren (fun b=>idxIn b sel) id,B.dead,B.nt⟩) with
      | false=>rw [hvf] at h; cases h
      | true=>
        rw [hvf] at h
        simp only [cond_true] at h ⊢
        cases hfx:f x with
        | none=>rw [hfx] at h; cases h
        | some r=>
          rw [hfx] at h
          simp only [Option.bind_some] at h
          cases r with
          | inl a=>left; simp only [hdec,hvf,cond_true,hfx,inlF,Option.bind_some]; exact h
          | inr a=>right; simp only [hdec,hvf,cond_true,hfx,inrF,Option.bind_some]; exact h
    · cases h
theorem altE_valid {P:Program} {g:FuncId} {S:CSpec} {O:List PTy} {ntO:Nat} {R:PTy} {f:S.In→Option (S.Out ⊕ (S.alt O ntO R).Out)} (hS:S.ok=true) (hT:(S.alt O ntO R).ok=true) (hent:Ent' P g)
    (hcall:(∀ x r,f x=some (.inl r)→LCall S.I.length P g (encs S.A x.1) ⟨encs S.I x.2,[],S.nt⟩ (S.R.enc r.1) ⟨encs S.O r.2,[],S.ntO⟩)∧
      (∀ x r,f x=some (.inr r)→LCall S.I.length P g (encs S.A x.1) ⟨encs S.I x.2,[],S.nt⟩ (R.enc r.1) ⟨encs O r.2,[],ntO⟩)):(altE g S O ntO R f).Valid P:=by
  intro X args B k r h
  have hsel:kpF g=true→∀ b∈selA S args B,argK g args b=true:=fun hp b hb=>by
    simp only [altE,hp,Bool.not_true,Bool.false_or] at h
    cases ha:(selA S args B).all (fun b=>argK g args b) with
    | false=>rw [ha] at h; cases h
    | true=>exact List.all_eq_true.1 ha b hb
  have h':callK2 S O ntO R f args B k=some r:=by
    simp only [altE,cond_eq_ite] at h
    split at h
    · exact h
    · cases h
  rcases callK2_spec h' with h | h
  · obtain ⟨q,h1,h2⟩:=call_sound hS hent (fun x r hr=>hcall.1 x r (inlF_spec hr)) h
    exact ⟨_,_,h1,h2,(fun h=>by cases h),(fun h=>by cases h),by simp only [callB,List.length_append,setSel_len]; omega,fun hp b hb ha=>callB_keep hb fun hm=>by have h9:=hsel hp b hm; rw [show argK g args b=false from ha] at h9; cases h9⟩
  · obtain ⟨q,h1,h2⟩:=call_sound (S:=S.alt O ntO R) hT hent (fun x r hr=>hcall.2 x r (inrF_spec hr)) h
    exact ⟨_,_,h1,h2,(fun h=>by cases h),(fun h=>by cases h),by simp only [callB,List.length_append,setSel_len]; omega,fun hp b hb ha=>callB_keep hb fun hm=>by have h9:=hsel hp b hm; rw [show argK g args b=false from ha] at h9; cases h9⟩
def finK2 (S:CSpec) (O:List PTy) (ntO:Nat) (R:PTy) (v:AVal) (B:Bx):Option (S.Out ⊕ (S.alt O ntO R).Out):=
  match finK S v B with
  | some r=>some (.inl r)
  | none=>match finK (S.alt O ntO R) v B with
    | some r=>some (.inr r)
    | none=>none
theorem fin_lcall {n:Nat} {P:Program} {g:FuncId} {S:CSpec} {args:List AVal} {B B':Bx} {v:AVal} {r:S.Out} (hn:n≤S.O.length) (hS2:S.ok2=true) (hk:finK S v B'=some r) (hl:LCall n P g args B v B') :
    LCall n P g args B (S.R.enc r.1) ⟨encs S.O r.2,[],S.ntO⟩:=by
  unfold finK at hk
  split at hk
  · rename_i z hz
    simp only [Option.some.injEq] at hk
    subst hk
    refine ⟨hl.1,fun G w vs hvs hw=>(hl.2 G w vs hvs hw).mono ?_⟩
    rintro e w' ⟨cv,G1,hend,h1,h2,h3,h4⟩
    have hok:Ok G1 B' [v] { tmps:=#[cv],defers:=[] } w':=⟨⟨rfl,fun t=>by
      cases t with
      | zero=>exact h1
      | succ t=>exact any_v _⟩,h2,trivial⟩
    obtain ⟨G2,g2⟩:=norm_sound (n:=n) (CSpec.ok2_1 hS2) hn hz hok
    refine ⟨cv,G2,decs_end (CSpec.ok2_2 hS2) hz hend,by have:=g2.ok.env.val 0; unfold SPat.encE at this; rw [oneE_enc] at this; exact this,g2.ok.w,h3.trans g2.ext,fun i b hi hb=>g2.held i b hi (h4 i b hi hb)⟩
  · cases hk
theorem finK2_lcall {n:Nat} {P:Program} {g:FuncId} {S:CSpec} {O:List PTy} {ntO:Nat} {R:PTy} {args:List AVal} {B B':Bx} {v:AVal} (hn:n≤S.O.length) (hn2:n≤O.length) (hS2:S.ok2=true) (hT2:(S.alt O ntO R).ok2=true) (hl:LCall n P g args B v B') :
    (∀ r,finK2 S O ntO R v B'=some (.inl r)→LCall n P g args B (S.R.enc r.1) ⟨encs S.O r.2,[],S.ntO⟩)∧(∀ r,finK2 S O ntO R v B'=some (.inr r)→LCall n P g args B (R.enc r.1) ⟨encs O r.2,[],ntO⟩):=by
  refine ⟨fun r hr=>?_,fun r hr=>?_⟩
  · unfold finK2 at hr
    split at hr
    · rename_i q hq
      simp only [Option.some.injEq,Sum.inl.injEq] at hr
      subst hr
      exact fin_lcall hn hS2 hq hl
    · split at hr<;>cases hr
  · unfold finK2 at hr
    split at hr
    · cases hr
    · split at hr
      · rename_i q hq
        simp only [Option.some.injEq,Sum.inr.injEq] at hr
        subst hr
        exact fin_lcall (S:=S.alt O ntO R) hn2 hT2 hq hl
      · cases hr
theorem alt_lcall {P:Program} {C:CalT} {Ls:List LoopT} {g:FuncId} {fn:Func} {c:Code} {S:CSpec} {O:List PTy} {ntO:Nat} {R:PTy} {f:S.In→Option (S.Out ⊕ (S.alt O ntO R).Out)} (hm:P.follows .mixedOrders=true) (hf:P.funcs[g]?=some fn) (hb:fn.body=some c) (hent:Ent P g) (hC:CV P C)
    (hL:LV S.I.length P false (loopsOf c) Ls) (hS:S.ok=true) (hS2:S.ok2=true) (hT:(S.alt O ntO R).ok=true) (hT2:(S.alt O ntO R).ok2=true) (hev:∀ x,fnR P C Ls fn c (encs S.A x.1) ⟨encs S.I x.2,[],S.nt⟩ (finK2 S O ntO R)=f x) :
    (∀ x r,f x=some (.inl r)→LCall S.I.length P g (encs S.A x.1) ⟨encs S.I x.2,[],S.nt⟩ (S.R.enc r.1) ⟨encs S.O r.2,[],S.ntO⟩)∧
      (∀ x r,f x=some (.inr r)→LCall S.I.length P g (encs S.A x.1) ⟨encs S.I x.2,[],S.nt⟩ (R.enc r.1) ⟨encs O r.2,[],ntO⟩):=by
  simp only [CSpec.ok,Bool.and_eq_true,decide_eq_true_eq] at hS hT
  refine ⟨fun x r hr=>?_,fun x r hr=>?_⟩
  all_goals
    obtain ⟨v,B',hk,hl⟩:=fnR_sound hm hf hb hent hC hL ((hev x).trans hr)
    have:=finK2_lcall (n:=S.I.length) hS.2 hT.2 hS2 hT2 hl
  · exact this.1 r hk
  · exact this.2 r hk
end Go.Proofs.YtkeipcalbbmncaaGreat.Abs
set_option linter.unusedVariables false
set_option linter.unusedSimpArgs false
namespace Go.Proofs.YtkeipcalbbmncaaGreat.Abs
def PTy.fresh:PTy→Bool
  | .dat T=>T.flat
  | .own _ T=>T.flat
  | .cons h t=>h.fresh&&t.fresh
  | .nil=>true
  | .tup p=>p.fresh
  | _=>false
theorem enc_fresh {G G':Gh} {d':List Nat} (hi:∀ t b n,G.own t=some (b,n)→∀ row,G.imm b=some row→G'.imm b=some row):{p:PTy}→p.fresh=true→(x:p.El)→(∀ cs,Rc G [] (p.enc x) cs→Rc G' d' (frzA (p.enc x)) cs)∧(∀ vs,Rl G [] (p.enc x) vs→Rl G' d' (frzA (p.enc x)) vs)
  | .dat T,h,x=>⟨fun cs hc=>RD.flat (T:=T) h hc,fun _ h=>h⟩
  | .own t T,h,xs=>⟨fun cs hc=>by
      obtain ⟨hr,A,cap,rfl,hor⟩:=hc
      obtain ⟨A',cap',e,hcap,hq⟩:=hr
      simp only [List.cons.injEq,Value.slice.injEq,and_true,true_and] at e
      obtain ⟨rfl,rfl⟩:=e
      refine ⟨A,cap,rfl,hcap,fun hne=>?_⟩
      obtain ⟨b,off,row,rfl,k1,k2,k3⟩:=hq hne
      rcases hor with hor | hor | ⟨b',off',row',e,ho,hm,_⟩
      · cases hor
      · exact absurd hor.1 hne
      · simp only [Option.some.injEq,Addr.mk.injEq] at e
        obtain ⟨rfl,rfl,_⟩:=e
        exact ⟨b,off,row,rfl,hi t b _ ho row k1,k2,fun i x hx=>RD.flat (T:=T) h (k3 i x hx)⟩,fun _ h=>h.elim⟩
  | .cons p q,h,x=>by
    simp only [PTy.fresh,Bool.and_eq_true] at h
    have m1:=enc_fresh (d':=d') hi h.1 x.1
    have m2:=enc_fresh (d':=d') hi h.2 x.2
    exact ⟨fun cs h=>by
      obtain ⟨c1,c2,rfl,h1,h2⟩:=h
      exact ⟨c1,c2,rfl,m1.1 _ h1,m2.1 _ h2⟩,fun vs h=>by
      obtain ⟨v,l,rfl,⟨cs,hc,hv⟩,hl⟩:=h
      exact ⟨v,l,rfl,⟨cs,m1.1 _ hc,by rw [frzA_agg]; exact hv⟩,m2.2 _ hl⟩⟩
  | .nil,_,x=>⟨fun _ h=>h,fun _ h=>h⟩
  | .tup p,h,x=>by
    have m1:=enc_fresh (p:=p) (d':=d') hi h x
    exact ⟨fun cs h=>by
      obtain ⟨l,rfl,hl⟩:=h
      exact ⟨l,rfl,m1.2 _ hl⟩,fun _ h=>h⟩
  | .tbox _ _,h,_ | .optp _,h,_ | .siter,h,_ | .fnp _ _ _,h,_ | .any,h,_ | .fix _,h,_ | .map _ _,h,_ | .ip _,h,_ | .lp _ _ _,h,_ | .vec _ _ _,h,_ | .vrow _ _,h,_=>by simp [PTy.fresh] at h
theorem frzA_pan (v:AVal) (t:TypeId):v=.pan t↔frzA v=.pan t:=by
  cases v<;>simp [frzA]
def view2K {X:Type} (A:List PTy) (R:PTy) (f:Els A→Option R.El) (args:List AVal) (B:Bx) (k:AVal→Bx→Option X):Option X:=
  bif args.length==A.length then
    thwL B A args (match decs A (viewA B A args) with
    | some x=>(f x.1).bind fun r=>k (frzA (R.enc r)) B
    | none=>none)
  else none
theorem view2_sound {P:Program} {g:FuncId} {A:List PTy} {nt:Nat} {R:PTy} {f:Els A→Option R.El} (hA:A.all PTy.pure=true) (hR:R.fresh=true) (hent:Ent P g)
    (hcall:∀ x r,f x=some r→LCall 0 P g (encs A x) ⟨[],[],0⟩ (R.enc r) ⟨[],[],nt⟩)
    {X:Type} {args:List AVal} {B:Bx} {k:AVal→Bx→Option X} {res:X} (h:view2K A R f args B k=some res):∃ r,k (frzA (R.enc r)) B=some res∧ACall P g args B (frzA (R.enc r)) B:=by
  unfold view2K at h
  cases hb:args.length==A.length with
  | false=>rw [hb] at h; cases h
  | true=>
    rw [hb] at h
    simp only [cond_true] at h
    have hlen:args.length=A.length:=by simpa using hb
    obtain ⟨hok,h⟩:=thwL_spec.1 h
    split at h
    · rename_i x hd
      obtain ⟨x,l⟩:=x
      cases hfx:f x with
      | none=>simp only [hfx] at h; cases h
      | some r=>
        simp only [hfx,Option.bind_some] at h
        refine ⟨r,h,.inr hent,fun G w vs hvs hw=>?_⟩
        have hvs':=viewA_vals hw (ps:=A) hok hvs
        let Gn:Gh:={ imm:=(frzG G w).imm,own:=fun _=>none,addr:=[] }
        have hr:ReTok (frzG G w) B.dead Gn 0 []:=⟨rfl,by simp [Gn],fun k t h=>by cases h⟩
        have hvn:=decs_vals hr hA (by rw [viewA_len]; exact hlen) hd vs hvs'
        have hwn:WOk Gn ⟨[],[],0⟩ w:=⟨rfl,List.nodup_nil,fun i b c h=>by simp [Gn] at h,fun b row hb=>frzG_imm hw hb,(fun b h=>by cases h),(fun t b n h=>by cases h),(fun t t' b n n' h=>by cases h),fun q hq=>⟨(hw.tab q hq).1,(fun h=>by cases h),(fun t n h=>by cases h)⟩,fun i t T xs h=>by simp at h⟩
        refine ((hcall x r hfx).2 Gn w vs hvn hwn).mono ?_
        rintro e w' ⟨cv,Gc,hend,hcv,hwc,hext,_⟩
        have noown:∀ b t n,Gn.own t≠some (b,n):=fun b t n h=>by cases h
        have hfr:∀ b,b < w.heap.size→w'.heap[b]?=w.heap[b]?:=fun b hb=>hext.frame b hb (by simp [Gn]) (noown b)
        let Go:Gh:={ G with imm:=fun b=>if b < w.heap.size then G.imm b else Gc.imm b }
        have hGs:∀ b,b < w.heap.size→Go.imm b=G.imm b:=fun b hb=>by show (if b < w.heap.size then _ else _)=_; rw [if_pos hb]
        have hGn:∀ b,w.heap.size≤b→Go.imm b=Gc.imm b:=fun b hb=>by show (if b < w.heap.size then _ else _)=_; rw [if_neg (by omega)]
        have ilt:∀ b row,G.imm b=some row→b < w.heap.size:=fun b row hb=>by
          obtain ⟨c,e,fr,h1,_⟩:=hw.imm b row hb
          exact heap_lt h1
        have hle:ImmLe G.imm Go.imm:=fun b row hb=>⟨row,by rw [hGs b (ilt b row hb)]; exact hb,List.prefix_refl _⟩
        have hgle:GLe G B.dead Go B.dead:=⟨hle,List.prefix_refl _,fun _ h=>h,fun t b n _ ho=>⟨ho,fun row hi=>by rw [hGs b (ilt b row hi)]; exact hi⟩⟩
        refine ⟨cv,Go,hend.same (frzA_pan _),?_,?_,hgle,?_⟩
        · obtain ⟨cs,h1,h2⟩:=hcv
          refine ⟨cs,(enc_fresh (G:=Gc) (G':=Go) (fun t b n ho row hrow=>?_) hR r).1 cs h1,by rw [frzA_agg]; exact h2⟩
          have hge:w.heap.size≤b:=by
            rcases hext.own t b n ho with ⟨t',ht'⟩ | h
            · exact absurd ht' (noown b t' n)
            · exact h
          rw [hGn b hge]
          exact hrow
        · refine ⟨hw.len,hw.nodup,fun i b c hib hc=>?_,fun b row hb=>?_,fun b hb=>by rw [hGs b (hw.addr_lt hb)]; exact hw.disj b hb,fun t b n ht=>?_,hw.inj,fun q hq=>⟨(hwc.tab q hq).1,(hw.tab q hq).2⟩,?_⟩
          · have hbo:=hw.boxes i b c hib hc
            obtain ⟨o',cs,k1,_,_⟩:=id hbo
            exact hbo.mono hgle (hfr b (heap_lt k1))
          · rcases Nat.lt_or_ge b w.heap.size with hlt | hge
            · rw [hGs b hlt] at hb
              obtain ⟨c,e,fr,h1,h2⟩:=hw.imm b row hb
              exact ⟨c,e,fr,by rw [hfr b hlt]; exact h1,h2⟩
            · rw [hGn b hge] at hb
              exact hwc.imm b row hb
          · obtain ⟨k1,k2,cells,e,k3,k4⟩:=hw.own t b n ht
            exact ⟨k1,k2.of (hGs b (heap_lt k3)) fun i c e1 e2=>.inr ⟨i,c,e1,e2,fun h=>h⟩,cells,e,by rw [hfr b (heap_lt k3)]; exact k3,k4.1,by rw [hGs b (heap_lt k3)]; exact k4.2⟩
          · refine hw.vec.mono (fun _ _ _ _ hx=>hx) (fun _ h=>.inl h) (fun t b n _ h1 h2=>?_) hle
            obtain ⟨_,_,cells,e,k3,_⟩:=hw.own t b n h1
            exact ⟨h1,by rw [hGs b (heap_lt k3)]; exact h2,hfr b (heap_lt k3)⟩
        · refine ⟨hext.os,hext.tape,hext.output,hext.size,fun b hb _ _=>hfr b hb,hle,fun b hb _=>hGs b hb,fun b hb=>.inl hb,fun t b n ht=>.inl ⟨t,ht⟩⟩
    · cases h
def view2E (g:FuncId) (A:List PTy) (R:PTy) (f:Els A→Option R.El):CEnt:=⟨g,fun args B=>args.length==A.length&&(match decs A (viewA B A args) with | some _=>true | none=>false),fun _ args B k=>view2K A R f args B k,true,false⟩
theorem view2K_at {X:Type} {A:List PTy} {R:PTy} {f:Els A→Option R.El} {args:List AVal} {B:Bx} {k:AVal→Bx→Option X} {res:X} (h:view2K A R f args B k=some res):∃ q,k (frzA (R.enc q)) B=some res∧∀ B0,SimT args B B0→view2K A R f args B0 (fun v _=>some v)=some (frzA (R.enc q)):=by
  have hv:∀ B0,SimT args B B0→viewA B0 A args=viewA B A args:=fun B0 hs=>viewA_sim hs
  unfold view2K at h ⊢
  cases hb:args.length==A.length with
  | false=>rw [hb] at h; cases h
  | true=>
    rw [hb] at h
    simp only [cond_true] at h ⊢
    obtain ⟨hok,h⟩:=thwL_spec.1 h
    split at h
    · rename_i x hd
      cases hf:f x.1 with
      | none=>rw [hf] at h; cases h
      | some q=>
        rw [hf] at h
        refine ⟨q,h,fun B0 hs=>thwL_spec.2 ⟨thwP_sim hs hok,?_⟩⟩
        rw [hv B0 hs,hd]
        simp only [hf]
        rfl
    · cases h
theorem view2E_valid {P:Program} {g:FuncId} {A:List PTy} {nt:Nat} {R:PTy} {f:Els A→Option R.El} (hA:A.all PTy.pure=true) (hR:R.fresh=true) (hent:Ent P g)
    (hcall:∀ x r,f x=some r→LCall 0 P g (encs A x) ⟨[],[],0⟩ (R.enc r) ⟨[],[],nt⟩):(view2E g A R f).Valid P:=by
  intro X args B k r h
  obtain ⟨q,h1,h2⟩:=view2K_at h
  have hac:∀ B0,SimT args B B0→ACall P g args B0 (frzA (R.enc q)) B0:=fun B0 hs=>by
    obtain ⟨q',e,hac⟩:=view2_sound hA hR hent hcall (h2 B0 hs)
    simp only [Option.some.injEq] at e
    rw [e] at hac
    exact hac
  exact ⟨_,_,h1,hac B (SimT.refl _ _),(fun _=>⟨rfl,hac⟩),(fun h=>by cases h),Nat.le_refl _,fun _ _ _ _=>rfl⟩
def finO (A:List PTy) (nt:Nat) (R:PTy) (v:AVal) (B:Bx):Option R.El:=match finK ⟨A,[],0,[],nt,R⟩ v B with
  | some q=>some q.1
  | none=>none
theorem finO_lcall {P:Program} {g:FuncId} {A:List PTy} {nt:Nat} {R:PTy} {args:List AVal} {B B':Bx} {v:AVal} {r:R.El} (hS2:CSpec.ok2 ⟨A,[],0,[],nt,R⟩=true) (hk:finO A nt R v B'=some r) (hl:LCall 0 P g args B v B'):LCall 0 P g args B (R.enc r) ⟨[],[],nt⟩:=by
  unfold finO at hk
  split at hk
  · rename_i q hq
    simp only [Option.some.injEq] at hk
    subst hk
    exact fin_lcall (S:=⟨A,[],0,[],nt,R⟩) (Nat.le_refl _) hS2 hq hl
  · cases hk
theorem own_lcall {P:Program} {C:CalT} {Ls:List LoopT} {g:FuncId} {fn:Func} {c:Code} {A:List PTy} {nt:Nat} {R:PTy} {f:Els A→Option R.El} (hm:P.follows .mixedOrders=true) (hf:P.funcs[g]?=some fn) (hb:fn.body=some c) (hent:Ent P g) (hC:CV P C)
    (hL:LV 0 P false (loopsOf c) Ls) (hS2:CSpec.ok2 ⟨A,[],0,[],nt,R⟩=true) (hev:∀ x,fnR P C Ls fn c (encs A x) ⟨[],[],0⟩ (finO A nt R)=f x) :
    ∀ x r,f x=some r→LCall 0 P g (encs A x) ⟨[],[],0⟩ (R.enc r) ⟨[],[],nt⟩:=by
  intro x r hr
  obtain ⟨v,B',hk,hl⟩:=fnR_sound (n:=0) hm hf hb hent hC hL ((hev x).trans hr)
  exact finO_lcall hS2 hk hl
end Go.Proofs.YtkeipcalbbmncaaGreat.Abs
set_option linter.unusedVariables false
set_option linter.unusedSimpArgs false
namespace Go.Proofs.YtkeipcalbbmncaaGreat.Abs
theorem leaveM {P:Program} {fn:Func} {tm:Array Value} {R:Ending→World→Prop} {rest:List Deferred} {u:FrameMode} {G G1:Gh} {w:World} {B':Bx} (hu:u≠.run):∀ (ds:List Deferred) (w2:World),WOk G1 B' w2→Ext G w G1 w2→Marks G1 w2 (ds++rest)→(∀ d∈ds,∃ D,d.target=.collected D∧w.heap.size≤D)→
    (∀ w3,WOk G1 B' w3→Ext G w G1 w3→Marks G1 w3 rest→LeavesInM Fence.wide 0 P fn tm R rest u w3)→LeavesInM Fence.wide 0 P fn tm R (ds++rest) u w2:=by
  intro ds
  induction ds with
  | nil=>
    intro w2 hw2 hx2 hm _ hk
    exact hk w2 hw2 hx2 hm
  | cons d ds ih=>
    intro w2 hw2 hx2 hm hd hk
    obtain ⟨h0,h6⟩:=hm
    obtain ⟨D,h1,h2,h3,h4,h5⟩:=h0.resolve_left (fun h=>by
      obtain ⟨D,e1,_⟩:=hd d (by simp)
      unfold isFnD at h; rw [e1] at h; cases h)
    have hge:w.heap.size≤D:=by
      obtain ⟨D',e1,e2⟩:=hd d (by simp)
      rw [h1] at e1
      cases e1
      exact e2
    have hput:∀ b,b≠D→(w2.putObj D (.deferred none)).heap[b]?=w2.heap[b]?:=fun b hb=>World.putObj_heap_other hb
    have hcell:∀ b c e fr,w2.heap[b]?=some (.cells c e fr)→b≠D:=fun b c e fr hb hbD=>by subst hbD; rw [h2] at hb; cases hb
    refine ⟨hu,.inl ⟨D,_,h1,run_takeDeferred h2,ih _ ⟨hw2.len,hw2.nodup,fun i b c hb hc=>?_,fun b row hb=>?_,hw2.disj,fun t b n ht=>?_,hw2.inj,fun q hq=>?_,?_⟩ ⟨hx2.os,hx2.tape,hx2.output,by rw [World.putObj_size]; exact hx2.size,fun b hb ha ho=>?_,hx2.imm,hx2.same,hx2.addr,hx2.own⟩ ?_ (fun d' hd'=>hd d' (by simp [hd'])) hk⟩⟩
    · exact (hw2.boxes i b c hb hc).mono (GLe.refl _ _) (hput b (fun e=>h3 (by rw [← e]; exact List.mem_of_getElem? hb)))
    · obtain ⟨c,e,fr,k1,k2⟩:=hw2.imm b row hb
      exact ⟨c,e,fr,by rw [hput b (hcell b c e fr k1)]; exact k1,k2⟩
    · obtain ⟨k1,k2,c,e,k3,k4⟩:=hw2.own t b n ht
      exact ⟨k1,k2,c,e,by rw [hput b (hcell b c e _ k3)]; exact k3,k4⟩
    · obtain ⟨⟨e,fr,k1⟩,k2,k3⟩:=hw2.tab q hq
      exact ⟨⟨e,fr,by rw [hput q.1 (hcell _ _ e fr k1)]; exact k1⟩,k2,k3⟩
    · refine hw2.vec.mono (fun _ _ _ _ hx=>hx) (fun _ h=>.inl h) (fun t b n _ h1 h2=>⟨h1,h2,?_⟩) (ImmLe.refl _)
      obtain ⟨_,_,c,e,k3,_⟩:=hw2.own t b n h1
      exact hput b (hcell b c e _ k3)
    · rw [hput b (by omega)]
      exact hx2.frame b hb ha ho
    · have key:∀ ds',(∀ d'∈ds',d'.target≠.collected D)→Marks G1 w2 ds'→Marks G1 (w2.putObj D (.deferred none)) ds':=by
        intro ds'
        induction ds' with
        | nil=>intro _ _; trivial
        | cons d' ds' ih'=>
          intro hn hm'
          obtain ⟨h0,a6⟩:=hm'
          rcases h0 with h0 | ⟨D',a1,a2,a3,a4,a5⟩
          · exact ⟨.inl h0,ih' (fun d2 hd2=>hn d2 (by simp [hd2])) a6⟩
          have hne:D'≠D:=fun e=>hn d' (by simp) (by rw [a1,e])
          exact ⟨.inr ⟨D',a1,by rw [hput D' hne]; exact a2,a3,a4,a5⟩,ih' (fun d2 hd2=>hn d2 (by simp [hd2])) a6⟩
      exact key (ds++rest) h5 h6
theorem fnDs_split {d:Deferred}:∀ {ds:List Deferred},fnDs ds=[d]→∃ l r,ds=l++d::r∧fnDs l=[]∧fnDs r=[]
  | [],h=>by cases h
  | x::ds,h=>by
    unfold fnDs at h
    cases hx:isFnD x with
    | true=>
      rw [List.filter_cons_of_pos hx] at h
      simp only [List.cons.injEq] at h
      exact ⟨[],ds,by rw [h.1]; rfl,rfl,h.2⟩
    | false=>
      rw [List.filter_cons_of_neg (by rw [hx]; simp)] at h
      obtain ⟨l,r,h1,h2,h3⟩:=fnDs_split (ds:=ds) h
      exact ⟨x::l,r,by rw [h1]; rfl,by unfold fnDs; rw [List.filter_cons_of_neg (by rw [hx]; simp)]; exact h2,h3⟩
theorem not_fn {ds:List Deferred} (h:fnDs ds=[]) {d:Deferred} (hd:d∈ds):isFnD d=false:=by
  unfold fnDs at h
  have:=List.filter_eq_nil_iff.1 h d hd
  simpa using this
theorem leaveF {T:Gh→Prop} {P:Program} {fn:Func} {tm:Array Value} {R:Ending→World→Prop} {G G1:Gh} {w w2:World} {B1 B2:Bx} {g:FuncId} {caps:Array Value} {ds:List Deferred} {u u':FrameMode} (hu:u≠.run) (hu':settle u'=.returning) (hent:Ent P g)
    (hds:fnDs ds=[{ target:=.fn (.func g) caps,args:=#[] }]) (hd:∀ d∈ds,isFnD d=true∨∃ D,d.target=.collected D∧w.heap.size≤D) (hw2:WOk G1 B1 w2) (hx2:Ext G w G1 w2) (hm:Marks G1 w2 ds)
    (hcall:∀ w3,WOk G1 B1 w3→Ext G w G1 w3→CallsDIn Fence.wide 0 P g caps u w3 fun e u2 w4=>(∃ v,e=.returned v)∧u2=u'∧∃ G2,WOk G2 B2 w4∧T G2∧Ext G1 w3 G2 w4)
    (hfin:∀ G2 w5,WOk G2 B2 w5→T G2→Ext G w G2 w5→LeavesInM Fence.wide 0 P fn tm R [] .returning w5):LeavesInM Fence.wide 0 P fn tm R ds u w2:=by
  obtain ⟨l,r,rfl,hl,hr⟩:=fnDs_split hds
  refine leaveM hu l w2 hw2 hx2 hm (fun d hdl=>(hd d (by simp [hdl])).resolve_left (fun h=>by rw [not_fn hl hdl] at h; cases h)) fun w3 hw3 hx3 hm3=>?_
  refine ⟨hu,.inr ⟨(fun h=>by cases h),Fn.func g,caps,g,caps,rfl,?_,(fun _ _=>trivial),(hcall w3 hw3 hx3).mono ?_⟩⟩
  · show (callFunc g (#[]++caps)).run P w3=_
    rw [Array.empty_append]
    exact hent.2 _ _
  · rintro e u2 w4 ⟨⟨v,rfl⟩,rfl,G2,k1,k2,k3⟩
    show LeavesInM Fence.wide 0 P fn tm R r (settle u2) w4
    rw [hu']
    have hx4:=hx3.trans k3
    have:=leaveM (P:=P) (fn:=fn) (tm:=tm) (R:=R) (rest:=[]) (u:=.returning) (G:=G) (G1:=G2) (w:=w) (B':=B2) (by simp) r w4 k1 hx4 (by rw [List.append_nil]; exact hm3.2.ext k3) (fun d hdr=>(hd d (by simp [hdr])).resolve_left (fun h=>by rw [not_fn hr hdr] at h; cases h)) fun w5 hw5 hx5 _=>hfin G2 w5 hw5 k2 hx5
    rw [List.append_nil] at this
    exact this
theorem vals_getD {G:Gh} {dead:List Nat} {az:List AVal} {vs:List Value} (h:Vals G dead az vs):∀ (i:Nat) (a:AVal),az[i]?=some a→∃ v,vs[i]?=some v∧Rv G dead a v:=fun i a ha=>vals_get h ha
def isSet (o:Oper):Bool:=match o.op with
  | .build .. | .store .. | .move _ | .assign _ | .fieldAddr .. | .load ..=>true
  | _=>false
theorem exec_set {P:Program} {o:Oper} {ev:Operand→Value} {w w':World} {x:Next} (ho:isSet o=true) (h:(execOp ev o).run P w=.ok x w'):(∃ v,x=.value v)∨x=.skip:=by
  have bindv:∀ {s:Sem Value},((do pure (.value (← s)):Sem Next)).run P w=.ok x w'→∃ v,x=.value v:=fun {s} hh=>by
    rw [Sem.run_bind] at hh
    cases hs:s.run P w with
    | ok v w2=>
      rw [hs] at hh
      simp only [Result.andThen_ok,Sem.run_pure,Result.ok.injEq] at hh
      exact ⟨v,hh.1.symm⟩
    | _=>rw [hs] at hh; cases hh
  have bindu:∀ {s:Sem Unit},((do s; pure .skip:Sem Next)).run P w=.ok x w'→x=.skip:=fun {s} hh=>by
    rw [Sem.run_bind] at hh
    cases hs:s.run P w with
    | ok v w2=>
      rw [hs] at hh
      simp only [Result.andThen_ok,Sem.run_pure,Result.ok.injEq] at hh
      exact hh.1.symm
    | _=>rw [hs] at hh; cases hh
  unfold isSet at ho
  split at ho
  · rename_i hop
    simp only [execOp,hop] at h
    exact .inl (bindv h)
  · rename_i hop
    simp only [execOp,hop] at h
    exact .inr (bindu h)
  · rename_i hop
    simp only [execOp,hop,Sem.run_pure,Result.ok.injEq] at h
    exact .inl ⟨_,h.1.symm⟩
  · rename_i hop
    simp only [execOp,hop,Sem.run_pure,Result.ok.injEq] at h
    exact .inl ⟨_,h.1.symm⟩
  · rename_i hop
    simp only [execOp,hop] at h
    exact .inl (bindv h)
  · rename_i hop
    simp only [execOp,hop] at h
    exact .inl (bindv h)
  · cases ho
theorem oper_keep {P:Program} {r:Option Nat} {o:Oper} {a:Act} {w:World} {next next':Act→World→Prop} {Q Q':Exit→Act→World→Prop} (ho:isSet o=true) (hn:∀ a' w',a'.defers=a.defers→next a' w'→next' a' w') (hq:∀ e w',Q e a w'→Q' e a w') (h:o.wpIn (Fr r) 0 P a w next Q):o.wpIn (Fr r) 0 P a w next' Q':=by
  refine ⟨h.1,?_⟩
  have h2:=h.2
  rw [Oper.semAt_eq _ _ _ (fun c hc=>by simp [isSet,hc] at ho)] at h2 ⊢
  cases hr:(execOp a.eval o).run P w with
  | ok x w'=>
    rw [hr] at h2
    rcases exec_set ho hr with ⟨v,rfl⟩ | rfl
    · exact hn _ _ (put_defers' _ _ _) h2
    · exact hn _ _ (put_defers' _ _ _) h2
  | halt y w'=>
    rw [hr] at h2
    cases y<;>first | exact hq _ _ h2 | exact h2
theorem list_keep {P:Program} {r:Option Nat} {ops:Array Oper} {Q:Exit→Act→World→Prop}:∀ (l:List Oper) (a:Act) (w:World),l.all isSet=true→wpListIn (Fr r) 0 P ops Q l a w→wpListIn (Fr r) 0 P ops (fun e a' w'=>Q e a' w'∧a'.defers=a.defers) l a w
  | [],a,w,_,h=>⟨h,rfl⟩
  | o::l,a,w,hl,h=>by
    simp only [List.all_cons,Bool.and_eq_true] at hl
    unfold wpListIn at h ⊢
    split
    · rename_i hw
      rw [if_pos hw] at h
      refine oper_keep hl.1 (fun a' w' e hh=>?_) (fun e w' hh=>⟨hh,rfl⟩) h
      have:=list_keep l a' w' hl.2 hh
      rw [e] at this
      exact this
    · rename_i hw
      rw [if_neg hw] at h
      refine ⟨h.1,?_⟩
      have:=list_keep l _ w hl.2 h.2
      rw [put_defers'] at this
      exact this
def defAt:Code→Option (FuncId×Array Operand×Tmp)
  | .region _ ops false=>match ops.toList with
    | [m,d]=>match m.op,m.guard,m.dst,d.op,d.guard,d.dst with
      | .makeFunc (.func g) first cap,none,some t,.defer cl,none,none=>match cl.callee with
        | .value (.tmp t')=>bif t'==t&&first.isEmpty&&cl.args.isEmpty then some (g,cap,t) else none
        | _=>none
      | _,_,_,_,_,_=>none
    | _=>none
  | _=>none
theorem def_wp {P:Program} {c:Code} {g:FuncId} {cap:Array Operand} {t:Tmp} (h:defAt c=some (g,cap,t)) {a:Act} {w:World} {Q:Exit→Act→World→Prop} (ht:t < a.tmps.size)
    (hQ:Q .normal { (a.put (some t) (.func (.func g) #[] (cap.map a.eval))) with defers:={ target:=.fn (.func g) (cap.map a.eval),args:=#[] }::a.defers } w):c.wpIn Fence.wide 0 P Q a w:=by
  unfold defAt at h
  split at h
  · rename_i id ops
    split at h
    · rename_i m d hops
      split at h
      · rename_i g' first cap' t1 cl hm hmg hmd hd hdg hdd
        split at h
        · rename_i t' hcal
          cases hb:t'==t1&&first.isEmpty&&cl.args.isEmpty with
          | false=>rw [hb] at h; cases h
          | true=>
            rw [hb] at h
            simp only [cond_true,Option.some.injEq,Prod.mk.injEq] at h
            obtain ⟨rfl,rfl,rfl⟩:=h
            simp only [Bool.and_eq_true,beq_iff_eq,Array.isEmpty_iff] at hb
            obtain ⟨⟨rfl,hf⟩,ha⟩:=hb
            refine wpIn_region_list ?_
            rw [hops]
            have hw:∀ (o:Oper) (a:Act),o.guard=none→Region.wanted o (yielded ops a.tmps)=true:=fun o a hg=>by unfold Region.wanted; rw [hg]
            unfold wpListIn
            rw [if_pos (hw m a hmg)]
            refine ⟨fun _ _=>trivial,?_⟩
            rw [Oper.semAt_eq _ _ _ (fun c hc=>by rw [hm] at hc; cases hc)]
            have e1:(execOp a.eval m).run P w=.ok (.value (.func (.func g') #[] (cap'.map a.eval))) w:=by
              simp only [execOp,hm,Instr.makeFunc,hf]
              simp [Sem.run_bind]
            rw [e1,Oper.uponIn_value,hmd]
            unfold wpListIn
            rw [if_pos (hw d _ hdg)]
            refine ⟨fun _ _=>trivial,?_⟩
            have e2:(a.put (some t') (.func (.func g') #[] (cap'.map a.eval))).eval (.tmp t')=.func (.func g') #[] (cap'.map a.eval):=put_new ht
            have e3:(execOp (a.put (some t') (.func (.func g') #[] (cap'.map a.eval))).eval d).run P w=.ok (.defer { target:=.fn (.func g') (cap'.map a.eval),args:=#[] }) w:=by
              simp only [execOp,hd,resolve,hcal,ha,e2]
              simp [Deferred.ofValue,Sem.run_bind]
            show Oper.uponIn Fence.wide 0 P d _ _ Q ((execOp (a.put (some t') (.func (.func g') #[] (cap'.map a.eval))).eval d).run P w)
            rw [e3,Oper.uponIn_defer,hdd]
            exact hQ
        · cases h
      · cases h
    · cases h
  · cases h
theorem map_vals {G:Gh} {dead:List Nat} {env:List AVal} {a:Act} (he:EnvOk G dead env a.tmps) (l:List Operand):Vals G dead (l.map (opA env)) (l.map a.eval):=vals_map fun x _=>he.op x
end Go.Proofs.YtkeipcalbbmncaaGreat.Abs
set_option linter.unusedVariables false
set_option linter.unusedSimpArgs false
namespace Go.Proofs.YtkeipcalbbmncaaGreat.Abs
end Go.Proofs.YtkeipcalbbmncaaGreat.Abs
set_option linter.unusedVariables false
set_option linter.unusedSimpArgs false
namespace Go.Proofs.YtkeipcalbbmncaaGreat.Abs
end Go.Proofs.YtkeipcalbbmncaaGreat.Abs
end
