import Derived.WalkKit
import Derived.OrdersIn
import Derived.TacticsIn
import Derived.LoopNIn
import Derived.RangeFuncRecord
import Derived.RangeFuncIn
import Derived.RangeFuncCalls
import Derived.Test.YtkeipcalbbmncaaGreatProg
import Derived.Orders
noncomputable section
namespace Go.Proofs.YtkeipcalbbmncaaGreat.Abs
def TABS:List (Nat×Array Value):=[]
def BLDS:List TypeId:=[999983]
def PANS:List FuncId:=[999999]
def KEEPS:List FuncId:=[341,87]
def KEEPA:List FuncId:=[198,199,201,203,204,316,196,197,200,202,83,84,88,81,484,82,86,85,317]
def kpF (g:FuncId):Bool:=PANS.contains g||(KEEPS.contains g||KEEPA.contains g)
def BYTE:TypeId:=5
def loopsOf:Code→List Code
  | .seq a b=>loopsOf a++loopsOf b
  | .cond _ x y=>loopsOf x++loopsOf y
  | .block _ c=>loopsOf c
  | .scope c=>loopsOf c
  | .loop c=>[.loop c]
  | .rangeFunc f ps a b=>[.rangeFunc f ps a b]
  | _=>[]
def rfsOf:Code→List Code
  | .seq a b=>rfsOf a++rfsOf b
  | .cond _ x y=>rfsOf x++rfsOf y
  | .block _ c=>rfsOf c
  | .scope c=>rfsOf c
  | .loop c=>rfsOf c
  | .rangeFunc f ps a b=>.rangeFunc f ps a b::rfsOf b
  | _=>[]
def rfOp:Code→Option Operand
  | .rangeFunc f _ _ _=>some f
  | _=>none
def rfBody:Code→Code
  | .rangeFunc _ _ _ b=>b
  | _=>.skip
def isRf:Code→Bool
  | .rangeFunc _ _ _ _=>true
  | _=>false
def lcode (g i:Nat):Code:=match Tryz.prog.funcs[g]? with
  | some f=>match f.body with
    | some c=>(rfsOf c).getD i .skip
    | none=>.skip
  | none=>.skip
def Fr (r:Option Nat):Fence:={ Fence.wide with round:=r }
end Go.Proofs.YtkeipcalbbmncaaGreat.Abs
set_option linter.unusedVariables false
set_option linter.unusedSimpArgs false
namespace Go.Proofs.YtkeipcalbbmncaaGreat.Abs
inductive DTy where
  | int (k:IntKind) | bool | str | list (e:DTy) | nil | cons (h t:DTy) | arr (n:Nat) (e:DTy) | mapr | opq
  deriving DecidableEq
@[reducible] def DTy.El:DTy→Type
  | .int _=>Int
  | .bool=>Bool
  | .str=>ByteArray
  | .list e=>List e.El
  | .nil=>Unit
  | .cons h t=>h.El×t.El
  | .arr _ e=>List e.El
  | .mapr=>Unit
  | .opq=>Unit
def DTy.sz:DTy→Nat
  | .int _=>1
  | .bool=>1
  | .str=>1
  | .list _=>1
  | .nil=>0
  | .cons h t=>h.sz+t.sz
  | .arr n e=>n*e.sz
  | .mapr=>1
  | .opq=>1
def DTy.agg:DTy→Bool
  | .nil=>true
  | .cons _ _=>true
  | .arr _ _=>true
  | _=>false
def DTy.dflt:(T:DTy)→T.El
  | .int _=>(0:Int)
  | .bool=>false
  | .str=>(⟨#[]⟩:ByteArray)
  | .list _=>[]
  | .nil=>()
  | .cons h t=>(h.dflt,t.dflt)
  | .arr n e=>List.replicate n e.dflt
  | .mapr=>()
  | .opq=>()
def opqV:Value→Bool
  | .agg _=>false
  | .tuple _=>false
  | .int .u8 _=>false
  | _=>true
def RD (imm:Nat→Option (List Value)):(T:DTy)→T.El→List Value→Prop
  | .int k,n,cs=>cs=[.int k n]
  | .bool,b,cs=>cs=[.bool b]
  | .str,s,cs=>cs=[.string s]
  | .nil,_,cs=>cs=[]
  | .cons h t,x,cs=>∃ c1 c2,cs=c1++c2∧RD imm h x.1 c1∧RD imm t x.2 c2
  | .arr n e,xs,cs=>xs.length=n∧cs.length=n*e.sz∧∀ (i:Nat) (x:e.El),xs[i]?=some x→RD imm e x ((cs.drop (i*e.sz)).take e.sz)
  | .mapr,_,cs=>∃ o,cs=[.map o]
  | .opq,_,cs=>∃ v,cs=[v]∧opqV v=true
  | .list e,xs,cs=>∃ A cap,cs=[.slice A xs.length cap]∧xs.length≤cap∧(xs≠[]→∃ b off row,A=some ⟨b,off,none⟩∧imm b=some row∧
      off+xs.length*e.sz≤row.length∧∀ (i:Nat) (x:e.El),xs[i]?=some x→RD imm e x ((row.drop (off+i*e.sz)).take e.sz))
def ImmLe (imm imm':Nat→Option (List Value)):Prop:=∀ b row,imm b=some row→∃ row',imm' b=some row'∧row <+: row'
theorem ImmLe.refl (imm:Nat→Option (List Value)):ImmLe imm imm:=fun b row h=>⟨row,h,List.prefix_refl _⟩
theorem ImmLe.trans {a b c:Nat→Option (List Value)} (h:ImmLe a b) (h':ImmLe b c):ImmLe a c:=fun x row hx=>by
  obtain ⟨r1,h1,p1⟩:=h x row hx
  obtain ⟨r2,h2,p2⟩:=h' x r1 h1
  exact ⟨r2,h2,p1.trans p2⟩
theorem take_drop_prefix {α:Type} {l l':List α} (h:l <+: l') {i n:Nat} (hn:i+n≤l.length):(l'.drop i).take n=(l.drop i).take n:=by
  obtain ⟨t,rfl⟩:=h
  rw [List.drop_append_of_le_length (by omega),List.take_append_of_le_length (by simp; omega)]
theorem RD.len {imm:Nat→Option (List Value)}:{T:DTy}→{x:T.El}→{cs:List Value}→RD imm T x cs→cs.length=T.sz
  | .int k,n,cs,h=>by have h:cs=[.int k n]:=h; subst h; rfl
  | .bool,b,cs,h=>by have h:cs=[.bool b]:=h; subst h; rfl
  | .str,s,cs,h=>by have h:cs=[.string s]:=h; subst h; rfl
  | .nil,_,cs,h=>by have h:cs=[]:=h; subst h; rfl
  | .cons a t,x,cs,h=>by
    obtain ⟨c1,c2,rfl,h1,h2⟩:=h
    have e1:=RD.len h1
    have e2:=RD.len h2
    simp [DTy.sz,e1,e2]
  | .arr n e,xs,cs,h=>h.2.1
  | .mapr,_,cs,h=>by obtain ⟨o,rfl⟩:=h; rfl
  | .opq,_,cs,h=>by obtain ⟨o,rfl,_⟩:=h; rfl
  | .list e,xs,cs,h=>by obtain ⟨A,cap,rfl,_⟩:=h; rfl
theorem RD.mono {imm imm':Nat→Option (List Value)} (hi:ImmLe imm imm'):{T:DTy}→{x:T.El}→{cs:List Value}→RD imm T x cs→RD imm' T x cs
  | .int k,n,cs,h=>h
  | .bool,b,cs,h=>h
  | .str,s,cs,h=>h
  | .nil,_,cs,h=>h
  | .cons a t,x,cs,h=>by
    obtain ⟨c1,c2,rfl,h1,h2⟩:=h
    exact ⟨c1,c2,rfl,RD.mono hi h1,RD.mono hi h2⟩
  | .arr n e,xs,cs,h=>⟨h.1,h.2.1,fun i x hx=>RD.mono hi (h.2.2 i x hx)⟩
  | .mapr,_,cs,h=>h
  | .opq,_,cs,h=>h
  | .list e,xs,cs,h=>by
    obtain ⟨A,cap,rfl,hc,hr⟩:=h
    refine ⟨A,cap,rfl,hc,fun hne=>?_⟩
    obtain ⟨b,off,row,rfl,hb,hl,hx⟩:=hr hne
    obtain ⟨row',hb',hp⟩:=hi b row hb
    refine ⟨b,off,row',rfl,hb',Nat.le_trans hl hp.length_le,fun i x hix=>?_⟩
    have hil:i < xs.length:=(List.getElem?_eq_some_iff.1 hix).1
    have:off+i*e.sz+e.sz≤row.length:=by
      have h1:(i+1)*e.sz≤xs.length*e.sz:=Nat.mul_le_mul_right _ hil
      rw [Nat.add_mul,Nat.one_mul] at h1
      omega
    rw [take_drop_prefix hp this]
    exact RD.mono hi (hx i x hix)
inductive PStep where
  | fld (k off:Nat)
  | ix (i esz n:Nat)
def PStep.off:PStep→Nat
  | .fld _ o=>o
  | .ix i s _=>i*s
def offP:List PStep→Nat
  | []=>0
  | s::p=>s.off+offP p
def okP:List PStep→Prop
  | []=>True
  | .fld _ _::p=>okP p
  | .ix i _ n::p=>i < n∧okP p
inductive AVal where
  | d (T:DTy) (x:T.El)
  | own (tok:Nat) (T:DTy) (xs:List T.El)
  | nil
  | cons (h t:AVal)
  | pnil
  | bptr (b:Nat) (p:List PStep)
  | iptr (T:DTy) (x:T.El)
  | func (fn:Fn) (first cap:AVal)
  | fnil
  | snil
  | iface (t:TypeId) (v:AVal)
  | inil
  | tuple (vs:AVal)
  | any
  | mnil
  | mref (b:Nat)
  | mobj (K V:DTy) (xs:List (K.El×V.El))
  | yref (b:Nat)
  | lobj (g i k:Nat) (env:AVal)
  | vec (t b:Nat) (T:DTy) (n:Nat)
  | vptr (t b:Nat) (T:DTy) (i:Nat) (p:List PStep)
  | vrow (t:Nat) (T:DTy) (xs:List T.El)
  | optp (b:Nat)
  | bsl (b:Nat) (p:List PStep) (T:DTy) (n:Nat)
  | siter (s:ByteArray) (pos:Nat)
  | pan (t:TypeId)
  | tbox (t:TypeId) (a:AVal)
def AVal.clen:AVal→Nat
  | .cons _ t=>t.clen+1
  | _=>0
def AVal.size:AVal→Nat
  | .d T _=>T.sz
  | .nil=>0
  | .cons h t=>h.size+t.size
  | .mobj _ _ xs=>2*xs.length
  | .lobj _ _ _ env=>env.clen
  | .vrow _ _ _=>0
  | .siter _ _=>0
  | .tbox _ a=>a.size
  | _=>1
inductive Knd where
  | cells
  | map
  | loop (g i k:Nat)
  | name
  | iter (s:ByteArray) (pos:Nat)
  | cellsT (t:TypeId)
def AVal.knd:AVal→Knd
  | .mobj _ _ _=>.map
  | .lobj g i k _=>.loop g i k
  | .vrow _ _ _=>.name
  | .siter s n=>.iter s n
  | .tbox t _=>.cellsT t
  | _=>.cells
def AVal.isV:AVal→Bool
  | .vrow _ _ _=>true
  | _=>false
def AVal.isM:AVal→Bool
  | .mobj _ _ _=>true
  | .lobj _ _ _ _=>true
  | .vrow _ _ _=>true
  | .siter _ _=>true
  | .tbox _ _=>true
  | _=>false
def AVal.agg:AVal→Bool
  | .d T _=>T.agg
  | .nil=>true
  | .cons _ _=>true
  | .mobj _ _ _=>true
  | .lobj _ _ _ _=>true
  | .vrow _ _ _=>true
  | .siter _ _=>true
  | .tbox _ _=>true
  | _=>false
def AVal.isT (t:Nat):AVal→Bool
  | .vrow t' _ _=>t'==t
  | _=>false
theorem isT_form {t:Nat} {a:AVal} (h:a.isT t=true):∃ T xs,a=.vrow t T xs:=by
  cases a with
  | vrow t' T xs=>
    have:t'=t:=by simpa [AVal.isT] using h
    subst this
    exact ⟨T,xs,rfl⟩
  | _=>simp [AVal.isT] at h
theorem isT_self (t:Nat) (T:DTy) (xs:List T.El):(AVal.vrow t T xs).isT t=true:=by simp [AVal.isT]
theorem isT_V {t:Nat} {a:AVal} (h:a.isT t=true):a.isV=true:=by
  obtain ⟨T,xs,rfl⟩:=isT_form h
  rfl
def AVal.isC:AVal→Bool
  | .tbox _ _=>true
  | a=>!a.isM
theorem isC_of {a:AVal} (h:a.isM=false):a.isC=true:=by
  cases a<;>first | rfl | simp [AVal.isM] at h
def sameK:AVal→AVal→Bool
  | .tbox t _,.tbox t' _=>t==t'
  | .tbox _ _,_=>false
  | a,b=>!a.isM&&!b.isM
theorem sameK_C {a b:AVal} (h:sameK a b=true):a.isC=true:=by
  cases a<;>first | rfl | simp [sameK,AVal.isM] at h
theorem isC_V {a:AVal} (h:a.isC=true):a.isV=false:=by
  cases a<;>first | rfl | simp [AVal.isC,AVal.isM] at h
theorem sameK_V {a b:AVal} (h:sameK a b=true):b.isV=false:=by
  cases b<;>first | rfl | (cases a<;>simp [sameK,AVal.isM] at h)
theorem knd_cells {a:AVal} (h:a.isM=false):a.knd=.cells:=by
  cases a<;>first | rfl | simp [AVal.isM] at h
def VD (imm:Nat→Option (List Value)) (T:DTy) (x:T.El) (v:Value):Prop:=∃ cs,RD imm T x cs∧((T.agg=true∧v=.agg cs.toArray)∨(T.agg=false∧cs=[v]))
theorem VD.mono {imm imm':Nat→Option (List Value)} (hi:ImmLe imm imm') {T:DTy} {x:T.El} {v:Value} (h:VD imm T x v):VD imm' T x v:=by
  obtain ⟨cs,h1,h2⟩:=h
  exact ⟨cs,RD.mono hi h1,h2⟩
def RM (imm:Nat→Option (List Value)) (K V:DTy):List (K.El×V.El)→List Value→Prop
  | [],cs=>cs=[]
  | x::xs,cs=>∃ k v l,cs=k::v::l∧VD imm K x.1 k∧VD imm V x.2 v∧RM imm K V xs l
theorem RM.len {imm:Nat→Option (List Value)} {K V:DTy}:{xs:List (K.El×V.El)}→{cs:List Value}→RM imm K V xs cs→cs.length=2*xs.length
  | [],cs,h=>by have h:cs=[]:=h; subst h; rfl
  | x::xs,cs,h=>by
    obtain ⟨k,v,l,rfl,_,_,h⟩:=h
    have:=RM.len h
    simp only [List.length_cons,this]
    omega
theorem RM.mono {imm imm':Nat→Option (List Value)} (hi:ImmLe imm imm') {K V:DTy}:{xs:List (K.El×V.El)}→{cs:List Value}→RM imm K V xs cs→RM imm' K V xs cs
  | [],cs,h=>h
  | x::xs,cs,h=>by
    obtain ⟨k,v,l,e,h1,h2,h⟩:=h
    exact ⟨k,v,l,e,h1.mono hi,h2.mono hi,RM.mono hi h⟩
structure Gh where
  imm:Nat→Option (List Value)
  own:Nat→Option (Nat×Nat)
  addr:List Nat
def u8F:DTy→Bool
  | .int .u8=>true
  | .cons h t=>bif h.sz==0 then u8F t else u8F h
  | .arr _ e=>u8F e
  | _=>false
def Rp (G:Gh) (dead:List Nat):AVal→(List Value→Prop)×(List Value→Prop)
  | .d T x=>(RD G.imm T x,fun _=>False)
  | .own tok T xs=>(fun cs=>RD G.imm (.list T) xs cs∧∃ A cap,cs=[.slice A xs.length cap]∧
      (tok∈dead∨(xs=[]∧cap=0)∨∃ b off row,A=some ⟨b,off,none⟩∧G.own tok=some (b,off+cap*T.sz)∧G.imm b=some row∧row.length=off+xs.length*T.sz∧(off=0→xs=[]→cap=0∨u8F T=false)),fun _=>False)
  | .nil=>(fun cs=>cs=[],fun vs=>vs=[])
  | .cons h t=>(fun cs=>∃ c1 c2,cs=c1++c2∧(Rp G dead h).1 c1∧(Rp G dead t).1 c2,
      fun vs=>∃ v l,vs=v::l∧(∃ cs,(Rp G dead h).1 cs∧((h.agg=true∧v=.agg cs.toArray)∨(h.agg=false∧cs=[v])))∧(Rp G dead t).2 l)
  | .pnil=>(fun cs=>cs=[.pointer none],fun _=>False)
  | .bptr b p=>(fun cs=>∃ blk,G.addr[b]?=some blk∧okP p∧cs=[.pointer (some ⟨blk,offP p,none⟩)],fun _=>False)
  | .iptr T x=>(fun cs=>∃ b off row,cs=[.pointer (some ⟨b,off,none⟩)]∧G.imm b=some row∧off+T.sz≤row.length∧RD G.imm T x ((row.drop off).take T.sz),fun _=>False)
  | .func fn f c=>(fun cs=>∃ fv cv,cs=[.func fn fv.toArray cv.toArray]∧(Rp G dead f).2 fv∧(Rp G dead c).2 cv,fun _=>False)
  | .fnil=>(fun cs=>cs=[.nilFunc],fun _=>False)
  | .snil=>(fun cs=>cs=[.slice none 0 0],fun _=>False)
  | .iface t v=>(fun cs=>∃ v',cs=[.iface t v']∧∃ c,(Rp G dead v).1 c∧((v.agg=true∧v'=.agg c.toArray)∨(v.agg=false∧c=[v'])),fun _=>False)
  | .inil=>(fun cs=>cs=[.nilIface],fun _=>False)
  | .tuple vs=>(fun cs=>∃ l,cs=[.tuple l.toArray]∧(Rp G dead vs).2 l,fun _=>False)
  | .any=>(fun cs=>cs.length=1,fun _=>False)
  | .mnil=>(fun cs=>cs=[.map none],fun _=>False)
  | .mref b=>(fun cs=>∃ blk,G.addr[b]?=some blk∧cs=[.map (some blk)],fun _=>False)
  | .mobj K V xs=>(RM G.imm K V xs,fun _=>False)
  | .yref b=>(fun cs=>∃ blk,G.addr[b]?=some blk∧cs=[.func (.yield blk) #[] #[]],fun _=>False)
  | .lobj _ _ _ env=>((Rp G dead env).2,fun _=>False)
  | .vec t _ T n=>(fun cs=>∃ blk cap,cs=[.slice (some ⟨blk,0,none⟩) n cap]∧(t∈dead∨(G.own t=some (blk,cap*T.sz)∧n≤cap)),fun _=>False)
  | .vptr t _ T i p=>(fun cs=>∃ blk off,cs=[.pointer (some ⟨blk,off,none⟩)]∧(t∈dead∨(∃ n,G.own t=some (blk,n))∧okP p∧off=i*T.sz+offP p),fun _=>False)
  | .vrow _ _ _=>(fun cs=>cs=[],fun _=>False)
  | .optp b=>(fun cs=>cs=[.pointer none]∨∃ blk,G.addr[b]?=some blk∧cs=[.pointer (some ⟨blk,0,none⟩)],fun _=>False)
  | .bsl b p _ n=>(fun cs=>∃ blk,G.addr[b]?=some blk∧okP p∧cs=[.slice (some ⟨blk,offP p,none⟩) n n],fun _=>False)
  | .siter _ _=>(fun cs=>cs=[],fun _=>False)
  | .pan _=>(fun cs=>cs=[.nilIface],fun _=>False)
  | .tbox _ a=>((Rp G dead a).1,fun _=>False)
abbrev Rc (G:Gh) (dead:List Nat) (a:AVal) (cs:List Value):Prop:=(Rp G dead a).1 cs
abbrev Rl (G:Gh) (dead:List Nat) (a:AVal) (vs:List Value):Prop:=(Rp G dead a).2 vs
def Rv (G:Gh) (dead:List Nat) (a:AVal) (v:Value):Prop:=
  ∃ cs,Rc G dead a cs∧((a.agg=true∧v=.agg cs.toArray)∨(a.agg=false∧cs=[v]))
theorem Rl.len {G:Gh} {dead:List Nat}:{a:AVal}→{vs:List Value}→(Rp G dead a).2 vs→vs.length=a.clen
  | .nil,vs,h=>by have h:vs=[]:=h; subst h; rfl
  | .cons a t,vs,h=>by
    obtain ⟨v,l,rfl,_,h2⟩:=h
    have:=Rl.len (a:=t) h2
    simp [AVal.clen,this]
  | .d ..,vs,h | .own ..,vs,h | .pnil,vs,h | .bptr ..,vs,h | .iptr ..,vs,h | .func ..,vs,h | .fnil,vs,h | .snil,vs,h | .iface ..,vs,h | .inil,vs,h | .tuple ..,vs,h | .any,vs,h | .mnil,vs,h | .mref _,vs,h | .mobj ..,vs,h | .yref _,vs,h | .lobj ..,vs,h | .vec ..,vs,h | .vptr ..,vs,h | .vrow ..,vs,h | .optp ..,vs,h | .bsl ..,vs,h | .siter ..,vs,h | .pan ..,vs,h | .tbox ..,vs,h=>h.elim
theorem Rc.len {G:Gh} {dead:List Nat}:{a:AVal}→{cs:List Value}→Rc G dead a cs→cs.length=a.size
  | .d T x,cs,h=>RD.len h
  | .own tok T xs,cs,h=>by obtain ⟨_,A,cap,rfl,_⟩:=h; rfl
  | .nil,cs,h=>by have h:cs=[]:=h; subst h; rfl
  | .cons a t,cs,h=>by
    obtain ⟨c1,c2,rfl,h1,h2⟩:=h
    have e1:=Rc.len (a:=a) h1
    have e2:=Rc.len (a:=t) h2
    simp [AVal.size,e1,e2]
  | .pnil,cs,h=>by have h:cs=[.pointer none]:=h; subst h; rfl
  | .bptr b p,cs,h=>by obtain ⟨_,_,_,rfl⟩:=h; rfl
  | .iptr T x,cs,h=>by obtain ⟨_,_,_,rfl,_⟩:=h; rfl
  | .func fn f c,cs,h=>by obtain ⟨_,_,rfl,_⟩:=h; rfl
  | .fnil,cs,h=>by have h:cs=[.nilFunc]:=h; subst h; rfl
  | .snil,cs,h=>by have h:cs=[.slice none 0 0]:=h; subst h; rfl
  | .iface t v,cs,h=>by obtain ⟨_,rfl,_⟩:=h; rfl
  | .inil,cs,h=>by have h:cs=[.nilIface]:=h; subst h; rfl
  | .tuple vs,cs,h=>by obtain ⟨_,rfl,_⟩:=h; rfl
  | .any,cs,h=>h
  | .mnil,cs,h=>by have h:cs=[.map none]:=h; subst h; rfl
  | .mref b,cs,h=>by obtain ⟨_,_,rfl⟩:=h; rfl
  | .mobj K V xs,cs,h=>RM.len h
  | .yref b,cs,h=>by obtain ⟨_,_,rfl⟩:=h; rfl
  | .lobj _ _ _ env,cs,h=>Rl.len (a:=env) h
  | .vec t b T n,cs,h=>by obtain ⟨_,_,rfl,_⟩:=h; rfl
  | .vptr t b T i p,cs,h=>by obtain ⟨_,_,rfl,_⟩:=h; rfl
  | .vrow t T xs,cs,h=>by have h:cs=[]:=h; subst h; rfl
  | .optp b,cs,h=>by rcases h with rfl | ⟨_,_,rfl⟩<;>rfl
  | .bsl b p T n,cs,h=>by obtain ⟨_,_,_,rfl⟩:=h; rfl
  | .siter _ _,cs,h=>by have h:cs=[]:=h; subst h; rfl
  | .pan _,cs,h=>by have h:cs=[.nilIface]:=h; subst h; rfl
  | .tbox _ a,cs,h=>Rc.len (a:=a) h
structure GLe (G:Gh) (dead:List Nat) (G':Gh) (dead':List Nat):Prop where
  imm:ImmLe G.imm G'.imm
  addr:G.addr <+: G'.addr
  dead:∀ t,t∈dead→t∈dead'
  own:∀ t b n,t ∉ dead'→G.own t=some (b,n)→G'.own t=some (b,n)∧∀ row,G.imm b=some row→G'.imm b=some row
theorem GLe.refl (G:Gh) (dead:List Nat):GLe G dead G dead:=⟨ImmLe.refl _,List.prefix_refl _,fun _ h=>h,fun _ _ _ _ h=>⟨h,fun _ h=>h⟩⟩
theorem prefix_getElem? {α:Type} {l l':List α} (h:l <+: l') {i:Nat} {x:α} (hx:l[i]?=some x):l'[i]?=some x:=by
  obtain ⟨t,rfl⟩:=h
  rw [List.getElem?_append_left (List.getElem?_eq_some_iff.1 hx).1,hx]
theorem Rp.mono {G G':Gh} {dead dead':List Nat} (g:GLe G dead G' dead'):(a:AVal)→(∀ cs,(Rp G dead a).1 cs→(Rp G' dead' a).1 cs)∧(∀ vs,(Rp G dead a).2 vs→(Rp G' dead' a).2 vs)
  | .d T x=>⟨fun cs h=>RD.mono g.imm h,fun _ h=>h⟩
  | .own tok T xs=>⟨fun cs h=>by
      obtain ⟨hr,A,cap,rfl,h⟩:=h
      refine ⟨RD.mono g.imm hr,A,cap,rfl,?_⟩
      by_cases hd:tok∈dead'
      · exact .inl hd
      · rcases h with h | h | ⟨b,off,row,rfl,h1,h2,h3⟩
        · exact .inl (g.dead _ h)
        · exact .inr (.inl h)
        · obtain ⟨e1,e2⟩:=g.own tok b _ hd h1
          exact .inr (.inr ⟨b,off,row,rfl,e1,e2 row h2,h3⟩),fun _ h=>h⟩
  | .nil=>⟨fun _ h=>h,fun _ h=>h⟩
  | .cons a t=>by
    have m1:=Rp.mono g a
    have m2:=Rp.mono g t
    exact ⟨fun cs h=>by
      obtain ⟨c1,c2,rfl,h1,h2⟩:=h
      exact ⟨c1,c2,rfl,m1.1 _ h1,m2.1 _ h2⟩,fun vs h=>by
      obtain ⟨v,l,rfl,⟨cs,hc,hv⟩,hl⟩:=h
      exact ⟨v,l,rfl,⟨cs,m1.1 _ hc,hv⟩,m2.2 _ hl⟩⟩
  | .pnil=>⟨fun _ h=>h,fun _ h=>h⟩
  | .bptr b p=>⟨fun cs h=>by
      obtain ⟨blk,hb,ho,rfl⟩:=h
      exact ⟨blk,prefix_getElem? g.addr hb,ho,rfl⟩,fun _ h=>h⟩
  | .iptr T x=>⟨fun cs h=>by
      obtain ⟨b,off,row,rfl,hb,hl,hr⟩:=h
      obtain ⟨row',hb',hp⟩:=g.imm b row hb
      refine ⟨b,off,row',rfl,hb',Nat.le_trans hl hp.length_le,?_⟩
      rw [take_drop_prefix hp hl]
      exact RD.mono g.imm hr,fun _ h=>h⟩
  | .func fn f c=>by
    have m1:=Rp.mono g f
    have m2:=Rp.mono g c
    exact ⟨fun cs h=>by
      obtain ⟨fv,cv,rfl,h1,h2⟩:=h
      exact ⟨fv,cv,rfl,m1.2 _ h1,m2.2 _ h2⟩,fun _ h=>h⟩
  | .fnil=>⟨fun _ h=>h,fun _ h=>h⟩
  | .snil=>⟨fun _ h=>h,fun _ h=>h⟩
  | .iface t v=>by
    have m1:=Rp.mono g v
    exact ⟨fun cs h=>by
      obtain ⟨v',rfl,c,hc,hv⟩:=h
      exact ⟨v',rfl,c,m1.1 _ hc,hv⟩,fun _ h=>h⟩
  | .inil=>⟨fun _ h=>h,fun _ h=>h⟩
  | .tuple vs=>by
    have m1:=Rp.mono g vs
    exact ⟨fun cs h=>by
      obtain ⟨l,rfl,hl⟩:=h
      exact ⟨l,rfl,m1.2 _ hl⟩,fun _ h=>h⟩
  | .any=>⟨fun _ h=>h,fun _ h=>h⟩
  | .mnil=>⟨fun _ h=>h,fun _ h=>h⟩
  | .mref b=>⟨fun cs h=>by
      obtain ⟨blk,hb,rfl⟩:=h
      exact ⟨blk,prefix_getElem? g.addr hb,rfl⟩,fun _ h=>h⟩
  | .mobj K V xs=>⟨fun cs h=>RM.mono g.imm h,fun _ h=>h⟩
  | .yref b=>⟨fun cs h=>by
      obtain ⟨blk,hb,rfl⟩:=h
      exact ⟨blk,prefix_getElem? g.addr hb,rfl⟩,fun _ h=>h⟩
  | .lobj _ _ _ env=>⟨(Rp.mono g env).2,fun _ h=>h⟩
  | .vec t b T n=>⟨fun cs h=>by
      obtain ⟨A,cap,rfl,h⟩:=h
      refine ⟨A,cap,rfl,?_⟩
      by_cases hd:t∈dead'
      · exact .inl hd
      · rcases h with h | ⟨h1,h2⟩
        · exact .inl (g.dead _ h)
        · exact .inr ⟨(g.own t A _ hd h1).1,h2⟩,fun _ h=>h⟩
  | .vptr t b T i p=>⟨fun cs h=>by
      obtain ⟨blk,off,rfl,h⟩:=h
      refine ⟨blk,off,rfl,?_⟩
      by_cases hd:t∈dead'
      · exact .inl hd
      · rcases h with h | ⟨⟨n,h1⟩,h2⟩
        · exact .inl (g.dead _ h)
        · exact .inr ⟨⟨n,(g.own t blk _ hd h1).1⟩,h2⟩,fun _ h=>h⟩
  | .vrow t T xs=>⟨fun _ h=>h,fun _ h=>h⟩
  | .optp b=>⟨fun cs h=>by
      rcases h with rfl | ⟨blk,hb,rfl⟩
      · exact .inl rfl
      · exact .inr ⟨blk,prefix_getElem? g.addr hb,rfl⟩,fun _ h=>h⟩
  | .bsl b p T n=>⟨fun cs h=>by
      obtain ⟨blk,hb,ho,rfl⟩:=h
      exact ⟨blk,prefix_getElem? g.addr hb,ho,rfl⟩,fun _ h=>h⟩
  | .siter _ _=>⟨fun _ h=>h,fun _ h=>h⟩
  | .pan _=>⟨fun _ h=>h,fun _ h=>h⟩
  | .tbox _ a=>⟨(Rp.mono g a).1,fun _ h=>h⟩
theorem Rc.mono {G G':Gh} {dead dead':List Nat} (g:GLe G dead G' dead') {a:AVal} {cs:List Value} (h:Rc G dead a cs):Rc G' dead' a cs:=(Rp.mono g a).1 cs h
theorem Rl.mono {G G':Gh} {dead dead':List Nat} (g:GLe G dead G' dead') {a:AVal} {vs:List Value} (h:Rl G dead a vs):Rl G' dead' a vs:=(Rp.mono g a).2 vs h
theorem Rv.mono {G G':Gh} {dead dead':List Nat} (g:GLe G dead G' dead') {a:AVal} {v:Value} (h:Rv G dead a v):Rv G' dead' a v:=by
  obtain ⟨cs,hc,hv⟩:=h
  exact ⟨cs,hc.mono g,hv⟩
end Go.Proofs.YtkeipcalbbmncaaGreat.Abs
set_option linter.unusedVariables false
set_option linter.unusedSimpArgs false
namespace Go.Proofs.YtkeipcalbbmncaaGreat.Abs
structure Bx where
  box:List AVal
  dead:List Nat
  nt:Nat
def stOf:Nat→LoopState
  | 0=>.ready
  | 1=>.busy
  | 2=>.exhausted
  | _=>.done
def pendOf:Nat→Option Code
  | 0=>none
  | 1=>none
  | 2=>none
  | 3=>some .ret
  | n+4=>some (.exit n)
def LoopIs (g i k:Nat) (r:Loop):Prop:=(∃ f,lcode g i=.rangeFunc f r.params r.assign r.body)∧r.state=stOf k∧(k≠2→r.pending=pendOf k)
def Holds:Knd→List Value→Obj→Prop
  | .cells,cs,o=>∃ cells e,o=.cells cells e (0,0)∧cs=cells.toList
  | .loop g i k,cs,o=>∃ r,o=.loop r∧LoopIs g i k r∧cs=r.tmps.toList
  | .name,cs,_=>cs=[]
  | .iter s n,cs,o=>o=.stringIter s n∧cs=[]
  | .cellsT t,cs,o=>∃ cells,o=.cells cells t (0,0)∧cs=cells.toList
  | .map,cs,o=>∃ es clock,o=.map es clock∧cs=es.toList.flatMap fun e=>[e.key,e.val]
def BoxOk (G:Gh) (dead:List Nat) (c:AVal) (w:World) (b:Nat):Prop:=∃ o cs,w.heap[b]?=some o∧Holds c.knd cs o∧Rc G dead c cs
theorem BoxOk.cells {G:Gh} {dead:List Nat} {c:AVal} {w:World} {b:Nat} (h:BoxOk G dead c w b) (hc:c.isC=true):∃ cells e,w.heap[b]?=some (.cells cells e (0,0))∧Rc G dead c cells.toList:=by
  obtain ⟨o,cs,h1,h2,h3⟩:=h
  have main:c.isM=false→∃ cells e,w.heap[b]?=some (.cells cells e (0,0))∧Rc G dead c cells.toList:=fun hc=>by
    rw [knd_cells hc] at h2
    obtain ⟨cells,e,rfl,rfl⟩:=h2
    exact ⟨cells,e,h1,h3⟩
  cases c with
  | tbox t a=>
    obtain ⟨cells,rfl,rfl⟩:=h2
    exact ⟨cells,t,h1,h3⟩
  | _=>exact main (by simpa [AVal.isC] using hc)
theorem BoxOk.mono {G G':Gh} {dead dead':List Nat} {c:AVal} {w w':World} {b:Nat} (h:BoxOk G dead c w b) (g:GLe G dead G' dead') (hw:w'.heap[b]?=w.heap[b]?):BoxOk G' dead' c w' b:=by
  obtain ⟨o,cs,h1,h2,h3⟩:=h
  exact ⟨o,cs,hw.trans h1,h2,h3.mono g⟩
def Tab (G:Gh) (w:World):Prop:=∀ q∈TABS,(∃ e fr,w.heap[q.1]?=some (.cells q.2 e fr))∧q.1 ∉ G.addr∧∀ t n,G.own t≠some (q.1,n)
def VecOk (G:Gh) (B:Bx) (w:World):Prop:=∀ (i t:Nat) (T:DTy) (xs:List T.El),B.box[i]?=some (.vrow t T xs)→t ∉ B.dead∧(∀ (j:Nat) (T':DTy) (ys:List T'.El),B.box[j]?=some (.vrow t T' ys)→j=i)∧∃ blk n cells e,G.own t=some (blk,n)∧w.heap[blk]?=some (.cells cells e (0,0))∧xs.length*T.sz≤n∧cells.size=n∧G.imm blk=none∧RD G.imm (.arr xs.length T) xs (cells.toList.take (xs.length*T.sz))
theorem VecOk.mono {G G':Gh} {B B':Bx} {w w':World} (h:VecOk G B w) (hb:∀ (i t:Nat) (T:DTy) (xs:List T.El),B'.box[i]?=some (AVal.vrow t T xs)→B.box[i]?=some (AVal.vrow t T xs)) (hd:∀ t,t∈B'.dead→t∈B.dead∨∃ b n row,G.own t=some (b,n)∧G.imm b=some row)
    (ho:∀ t b n,t ∉ B'.dead→G.own t=some (b,n)→G.imm b=none→G'.own t=some (b,n)∧G'.imm b=none∧w'.heap[b]?=w.heap[b]?) (hi:ImmLe G.imm G'.imm):VecOk G' B' w':=fun i t T xs hx=>by
  obtain ⟨h1,hu,blk,n,cells,e,h2,h3,h4,h5,h6,h7⟩:=h i t T xs (hb i t T xs hx)
  have hnd:t ∉ B'.dead:=fun hm=>by
    rcases hd t hm with hm | ⟨b,n',row,k1,k2⟩
    · exact h1 hm
    · rw [h2] at k1
      obtain ⟨rfl,rfl⟩:blk=b∧n=n':=by simpa using k1
      rw [h6] at k2; cases k2
  obtain ⟨o1,o2,o3⟩:=ho t blk n hnd h2 h6
  exact ⟨hnd,fun j T' ys hj=>hu j T' ys (hb j t T' ys hj),blk,n,cells,e,o1,by rw [o3]; exact h3,h4,h5,o2,RD.mono hi h7⟩
def ByR (r:Option (List Value)) (e:TypeId):Prop:=∀ row x,r=some row→row[0]?=some (.int .u8 x)→e=BYTE
def RowOk (G:Gh) (B:Bx) (t b:Nat):Prop:=(∃ row,G.imm b=some row)∨(G.imm b=none∧∀ (i:Nat) (c:AVal),G.addr[i]?=some b→B.box[i]?=some c→c.isT t=true)
structure WOk (G:Gh) (B:Bx) (w:World):Prop where
  len:G.addr.length=B.box.length
  nodup:G.addr.Nodup
  boxes:∀ (i b:Nat) (c:AVal),G.addr[i]?=some b→B.box[i]?=some c→BoxOk G B.dead c w b
  imm:∀ b row,G.imm b=some row→∃ cells e fr,w.heap[b]?=some (.cells cells e fr)∧row <+: cells.toList
  disj:∀ b,b∈G.addr→G.imm b=none
  own:∀ t b n,G.own t=some (b,n)→t < B.nt∧RowOk G B t b∧∃ cells e,w.heap[b]?=some (.cells cells e (0,0))∧cells.size=n∧ByR (G.imm b) e
  inj:∀ t t' b n n',G.own t=some (b,n)→G.own t'=some (b,n')→t=t'
  tab:Tab G w
  vec:VecOk G B w
structure Ext (G:Gh) (w:World) (G':Gh) (w':World):Prop where
  os:w'.os=w.os
  tape:w'.tape=w.tape
  output:w'.output=w.output
  size:w.heap.size≤w'.heap.size
  frame:∀ b,b < w.heap.size→b ∉ G.addr→(∀ t n,G.own t≠some (b,n))→w'.heap[b]?=w.heap[b]?
  imm:ImmLe G.imm G'.imm
  same:∀ b,b < w.heap.size→(∀ t n,G.own t≠some (b,n))→G'.imm b=G.imm b
  addr:∀ b∈G'.addr,b∈G.addr∨w.heap.size≤b
  own:∀ t b n,G'.own t=some (b,n)→(∃ t',G.own t'=some (b,n))∨w.heap.size≤b
theorem Tab.ext {G G':Gh} {w w':World} (h:Tab G w) (x:Ext G w G' w'):Tab G' w':=fun q hq=>by
  obtain ⟨⟨e,fr,h1⟩,h2,h3⟩:=h q hq
  have hlt:q.1 < w.heap.size:=by
    rcases Nat.lt_or_ge q.1 w.heap.size with hl | hl
    · exact hl
    · rw [Array.getElem?_eq_none hl] at h1; cases h1
  refine ⟨⟨e,fr,by rw [x.frame q.1 hlt h2 h3]; exact h1⟩,fun hm=>?_,fun t n hn=>?_⟩
  · rcases x.addr _ hm with hm | hm
    · exact h2 hm
    · omega
  · rcases x.own t _ n hn with ⟨t',ht⟩ | hm
    · exact h3 t' n ht
    · omega
theorem Ext.refl (G:Gh) (w:World):Ext G w G w:=
  ⟨rfl,rfl,rfl,Nat.le_refl _,fun _ _ _ _=>rfl,ImmLe.refl _,fun _ _ _=>rfl,fun _ h=>.inl h,fun t b n h=>.inl ⟨t,h⟩⟩
theorem Ext.trans {G G1 G2:Gh} {w w1 w2:World} (h:Ext G w G1 w1) (k:Ext G1 w1 G2 w2):Ext G w G2 w2:=by
  have fresh:∀ b,b < w.heap.size→(∀ t n,G.own t≠some (b,n))→∀ t n,G1.own t≠some (b,n):=fun b hb ho t n hn=>by
    rcases h.own t b n hn with ⟨t',ht⟩ | hle
    · exact ho t' n ht
    · omega
  refine ⟨k.os.trans h.os,k.tape.trans h.tape,k.output.trans h.output,Nat.le_trans h.size k.size,fun b hb ha ho=>?_,h.imm.trans k.imm,fun b hb ho=>?_,fun b hb=>?_,fun t b n hn=>?_⟩
  · rw [k.frame b (Nat.lt_of_lt_of_le hb h.size) (fun hm=>?_) (fresh b hb ho),h.frame b hb ha ho]
    rcases h.addr b hm with hm | hm
    · exact ha hm
    · omega
  · rw [k.same b (Nat.lt_of_lt_of_le hb h.size) (fresh b hb ho),h.same b hb ho]
  · rcases k.addr b hb with hb | hb
    · exact h.addr b hb
    · exact .inr (Nat.le_trans h.size hb)
  · rcases k.own t b n hn with ⟨t',ht⟩ | hle
    · exact h.own t' b n ht
    · exact .inr (Nat.le_trans h.size hle)
theorem GLe.trans {G G1 G2:Gh} {d d1 d2:List Nat} (h:GLe G d G1 d1) (k:GLe G1 d1 G2 d2):GLe G d G2 d2:=by
  refine ⟨h.imm.trans k.imm,h.addr.trans k.addr,fun t ht=>k.dead t (h.dead t ht),fun t b n ht ho=>?_⟩
  obtain ⟨o1,i1⟩:=h.own t b n (fun hd=>ht (k.dead t hd)) ho
  obtain ⟨o2,i2⟩:=k.own t b n ht o1
  exact ⟨o2,fun row hr=>i2 row (i1 row hr)⟩
def chain:List AVal→AVal
  | []=>.nil
  | a::l=>.cons a (chain l)
def unchain:AVal→List AVal
  | .cons h t=>h::unchain t
  | _=>[]
def constA:Value→AVal
  | .int k n=>.d (.int k) n
  | .bool b=>.d .bool b
  | .string s=>.d .str s
  | .pointer none=>.pnil
  | .nilFunc=>.fnil
  | .slice none 0 0=>.snil
  | .nilIface=>.inil
  | _=>.any
theorem any_v {G:Gh} {dead:List Nat} (v:Value):Rv G dead .any v:=⟨[v],rfl,.inr ⟨rfl,rfl⟩⟩
theorem leaf_v {G:Gh} {dead:List Nat} {a:AVal} {v:Value} (ha:a.agg=false) (h:Rc G dead a [v]):Rv G dead a v:=⟨[v],h,.inr ⟨ha,rfl⟩⟩
theorem constA_v {G:Gh} {dead:List Nat} (v:Value):Rv G dead (constA v) v:=by
  unfold constA
  split<;>first | exact leaf_v rfl rfl | exact any_v _
def opA (env:List AVal):Operand→AVal
  | .tmp t=>env.getD t .any
  | .const v=>constA v
  | .global _=>.any
  | .func f=>.func (.func f) .nil .nil
structure EnvOk (G:Gh) (dead:List Nat) (env:List AVal) (tm:Array Value):Prop where
  len:tm.size=env.length
  val:∀ t,Rv G dead (env.getD t .any) (tm.getD t undef)
theorem EnvOk.mono {G G':Gh} {dead dead':List Nat} {env:List AVal} {tm:Array Value} (h:EnvOk G dead env tm) (g:GLe G dead G' dead'):EnvOk G' dead' env tm:=
  ⟨h.len,fun t=>(h.val t).mono g⟩
theorem EnvOk.op {G:Gh} {dead:List Nat} {env:List AVal} {a:Act} (h:EnvOk G dead env a.tmps) (x:Operand):Rv G dead (opA env x) (a.eval x):=by
  cases x with
  | tmp t=>exact h.val t
  | const v=>exact constA_v v
  | global g=>exact any_v _
  | func f=>exact leaf_v rfl ⟨[],[],rfl,rfl,rfl⟩
def setA (env:List AVal) (dst:Option Tmp) (v:AVal):List AVal:=
  match dst with
  | some t=>env.set t v
  | none=>env
theorem EnvOk.put {G:Gh} {dead:List Nat} {env:List AVal} {a:Act} (h:EnvOk G dead env a.tmps) (dst:Option Tmp) {v:AVal} {cv:Value} (hv:Rv G dead v cv) :
    EnvOk G dead (setA env dst v) (a.put dst cv).tmps:=by
  cases dst with
  | none=>exact h
  | some t=>
    refine ⟨by simp [setA,Act.put,h.len],fun u=>?_⟩
    simp only [setA,Act.put]
    by_cases hu:u=t
    · subst hu
      by_cases hl:u < env.length
      · have hs:u < a.tmps.size:=by rw [h.len]; exact hl
        simp [List.getD_eq_getElem?_getD,hl,hs]
        exact hv
      · have hs:¬ u < a.tmps.size:=by rw [h.len]; exact hl
        have:=h.val u
        simp [List.getD_eq_getElem?_getD,hl,hs] at this ⊢
        exact this
    · have:=h.val u
      simp [List.getD_eq_getElem?_getD,Array.getElem?_setIfInBounds,List.getElem?_set,Ne.symm hu] at this ⊢
      exact this
def OpD (P:Program) (o:Oper) (ρ:Operand→AVal) (B:Bx) (v:AVal) (B':Bx):Prop:=
  ∀ (G:Gh) (a:Act) (w:World),(∀ x∈o.op.operands,Rv G B.dead (ρ x) (a.eval x))→WOk G B w→
    ∀ (next:Act→World→Prop) (Q:Exit→Act→World→Prop),
      (∀ cv G' w',Rv G' B'.dead v cv→WOk G' B' w'→GLe G B.dead G' B'.dead→Ext G w G' w'→next (a.put o.dst cv) w')→∀ r,o.wpIn (Fr r) 0 P a w next Q
def pureRun {α:Type} (P:Program):Sem α→Option α
  | .pure a=>some a
  | .program k=>pureRun P (k P)
  | _=>none
theorem pureRun_run {α:Type} {P:Program} {w:World}:{s:Sem α}→{a:α}→pureRun P s=some a→s.run P w=.ok a w
  | .pure b,a,h=>by
    simp only [pureRun,Option.some.injEq] at h
    subst h
    rfl
  | .program k,a,h=>by
    have h':pureRun P (k P)=some a:=h
    show (k P).run P w=_
    exact pureRun_run h'
  | .load ..,_,h | .store ..,_,h | .new ..,_,h | .shape ..,_,h | .freeze ..,_,h | .frozen ..,_,h | .getObj ..,_,h | .setObj ..,_,h | .choose ..,_,h | .sys ..,_,h | .mark ..,_,h | .halt ..,_,h=>by simp [pureRun] at h
theorem run_bind {α β:Type} {P:Program} {w:World} {f:α→Sem β}:{s:Sem α}→{a:α}→s.run P w=.ok a w→(s.bind f).run P w=(f a).run P w:=by
  intro s a h
  rw [Sem.run_bind',h]
  rfl
theorem semAt_run {r:Option Nat} {ρ:Operand→Value} {o:Oper} {P:Program} {w w':World} {n:Next} (h:(execOp ρ o).run P w=.ok n w') (hn:∀ d,n≠.defer d):(o.semAt r ρ).run P w=.ok n w':=by
  rw [Oper.semAt_eq]
  · exact h
  · intro c hc
    simp only [execOp,hc,Sem.run_bind] at h
    cases hr:(resolve ρ c o.type).run P w with
    | ok d w1=>
      rw [hr] at h
      simp only [Result.andThen_ok,Sem.run_pure,Result.ok.injEq] at h
      exact hn d h.1.symm
    | halt x y=>
      rw [hr] at h
      cases h
theorem wp_of_run {P:Program} {o:Oper} {a:Act} {w w':World} {next:Act→World→Prop} {Q:Exit→Act→World→Prop} {v:Value}
    (h:(execOp a.eval o).run P w=.ok (.value v) w') (hn:next (a.put o.dst v) w') (r:Option Nat):o.wpIn (Fr r) 0 P a w next Q:=by
  refine ⟨fun _ _=>trivial,?_⟩
  have h1:(o.semAt (Fr r).round a.eval).run P w=.ok (.value v) w':=semAt_run h (fun d=>by simp)
  rw [h1,Oper.uponIn_value]
  exact hn
theorem wp_of_skip {P:Program} {o:Oper} {a:Act} {w w':World} {next:Act→World→Prop} {Q:Exit→Act→World→Prop}
    (h:(execOp a.eval o).run P w=.ok .skip w') (hn:next (a.put o.dst undef) w') (r:Option Nat):o.wpIn (Fr r) 0 P a w next Q:=by
  refine ⟨fun _ _=>trivial,?_⟩
  have h1:(o.semAt (Fr r).round a.eval).run P w=.ok .skip w':=semAt_run h (fun d=>by simp)
  rw [h1,Oper.uponIn_skip]
  exact hn
theorem OpD.value {P:Program} {o:Oper} {ρ:Operand→AVal} {v:AVal}
    (h:∀ (G:Gh) (dead:List Nat) (a:Act),(∀ x∈o.op.operands,Rv G dead (ρ x) (a.eval x))→∃ cv,(∀ w,(execOp a.eval o).run P w=.ok (.value cv) w)∧Rv G dead v cv) (B:Bx):OpD P o ρ B v B:=by
  intro G a w ha hw next Q hn
  obtain ⟨cv,hr,hv⟩:=h G B.dead a ha
  exact wp_of_run (hr w) (hn cv G w hv hw (GLe.refl _ _) (Ext.refl _ _))
def toV:AVal→Option Value
  | .d (.int k) n=>some (.int k n)
  | .d .bool b=>some (.bool b)
  | .d .str s=>some (.string s)
  | .pnil=>some (.pointer none)
  | .fnil=>some .nilFunc
  | .inil=>some .nilIface
  | .snil=>some (.slice none 0 0)
  | _=>none
theorem leaf_eq {G:Gh} {dead:List Nat} {a:AVal} {v v':Value} (ha:a.agg=false) (h:Rv G dead a v) (hr:∀ cs,Rc G dead a cs→cs=[v']):v=v':=by
  obtain ⟨cs,hc,h | h⟩:=h
  · rw [ha] at h; cases h.1
  · have:=hr cs hc
    rw [h.2] at this
    simpa using this
theorem toV_eq {G:Gh} {dead:List Nat} {a:AVal} {v v':Value} (ht:toV a=some v') (h:Rv G dead a v):v=v':=by
  unfold toV at ht
  split at ht<;>simp only [Option.some.injEq,reduceCtorEq] at ht<;>subst ht<;>exact leaf_eq rfl h (fun cs hc=>hc)
end Go.Proofs.YtkeipcalbbmncaaGreat.Abs
set_option linter.unusedVariables false
set_option linter.unusedSimpArgs false
namespace Go.Proofs.YtkeipcalbbmncaaGreat.Abs
def fldD:(T:DTy)→T.El→Nat→Option (Nat×AVal)
  | .cons h t,x,0=>some (0,.d h x.1)
  | .cons h t,x,k+1=>match fldD t x.2 k with
    | some (o,a)=>some (h.sz+o,a)
    | none=>none
  | _,_,_=>none
theorem fldD_spec {imm:Nat→Option (List Value)}:{T:DTy}→{x:T.El}→{k o:Nat}→{a:AVal}→fldD T x k=some (o,a)→
    ∃ T' x',a=.d T' x'∧∀ cs,RD imm T x cs→o+T'.sz≤cs.length∧RD imm T' x' ((cs.drop o).take T'.sz)
  | .cons h t,x,0,o,a,e=>by
    simp only [fldD,Option.some.injEq,Prod.mk.injEq] at e
    obtain ⟨rfl,rfl⟩:=e
    refine ⟨h,x.1,rfl,fun cs hc=>?_⟩
    obtain ⟨c1,c2,rfl,h1,h2⟩:=hc
    have:=RD.len h1
    simp [this.symm,h1]
  | .cons h t,x,k+1,o,a,e=>by
    simp only [fldD] at e
    split at e
    · rename_i o1 a1 h1
      simp only [Option.some.injEq,Prod.mk.injEq] at e
      obtain ⟨rfl,rfl⟩:=e
      obtain ⟨T',x',rfl,hs⟩:=fldD_spec (imm:=imm) h1
      refine ⟨T',x',rfl,fun cs hc=>?_⟩
      obtain ⟨c1,c2,rfl,h1,h2⟩:=hc
      have hl:=RD.len h1
      obtain ⟨hle,hr⟩:=hs c2 h2
      refine ⟨by simp; omega,?_⟩
      rw [← hl,List.drop_append,List.drop_eq_nil_of_le (by omega)]
      simpa using hr
    · cases e
  | .int _,_,_,_,_,e | .bool,_,_,_,_,e | .str,_,_,_,_,e | .list _,_,_,_,_,e | .nil,_,_,_,_,e | .arr _ _,_,_,_,_,e | .mapr,_,_,_,_,e | .opq,_,_,_,_,e=>by simp [fldD] at e
theorem offP_snoc (p:List PStep) (s:PStep):offP (p++[s])=offP p+s.off:=by
  induction p with
  | nil=>simp [offP]
  | cons a p ih=>simp only [List.cons_append,offP,ih]; omega
theorem okP_fld (p:List PStep) (k o:Nat) (h:okP p):okP (p++[.fld k o]):=by
  induction p with
  | nil=>trivial
  | cons a p ih=>
    cases a with
    | fld=>exact ih h
    | ix=>exact ⟨h.1,ih h.2⟩
theorem okP_ix (p:List PStep) (i s n:Nat) (hi:i < n) (h:okP p):okP (p++[.ix i s n]):=by
  induction p with
  | nil=>exact ⟨hi,trivial⟩
  | cons a p ih=>
    cases a with
    | fld=>exact ih h
    | ix=>exact ⟨h.1,ih h.2⟩
theorem addr_add (b o n:Nat):(⟨b,o,none⟩:Addr).add n=⟨b,o+n,none⟩:=by
  unfold Addr.add
  split
  · subst_vars; rfl
  · rfl
def scalV (ρ:Operand→AVal) (x:Operand):Value:=(toV (ρ x)).getD undef
def scalOk (ρ:Operand→AVal) (o:Oper):Bool:=o.op.operands.toList.all fun x=>(toV (ρ x)).isSome
def noSel (o:Oper):Bool:=match o.op with | .select ..=>false | _=>true
def scalA (P:Program) (o:Oper) (ρ:Operand→AVal):Option AVal:=
  bif noSel o&&scalOk ρ o then
    match pureRun P (execOp (scalV ρ) o) with
    | some (.value v)=>some (constA v)
    | _=>none
  else none
theorem scalA_sound {P:Program} {o:Oper} {ρ:Operand→AVal} {v:AVal} (h:scalA P o ρ=some v) (B:Bx):OpD P o ρ B v B:=by
  unfold scalA at h
  cases hb:noSel o&&scalOk ρ o with
  | false=>simp [hb] at h
  | true=>
    simp only [hb,cond_true] at h
    split at h
    · rename_i cv hp
      simp only [Option.some.injEq] at h
      subst h
      simp only [Bool.and_eq_true] at hb
      refine OpD.value (fun G dead a ha=>⟨cv,fun w=>?_,constA_v cv⟩) B
      have hc:execOp a.eval o=execOp (scalV ρ) o:=by
        refine execOp_congr o (fun cs b e=>?_) (fun x hx=>?_)
        · have:=hb.1; unfold noSel at this; rw [e] at this; cases this
        · have hs:=List.all_eq_true.1 hb.2 x (Array.mem_toList_iff.2 hx)
          obtain ⟨u,hu⟩:=Option.isSome_iff_exists.1 hs
          rw [scalV,hu]
          exact toV_eq hu (ha x hx)
      rw [hc]
      exact pureRun_run hp
    · cases h
theorem ptr_form {G:Gh} {dead:List Nat} {b:Nat} {p:List PStep} {v:Value} (h:Rv G dead (.bptr b p) v):∃ blk,G.addr[b]?=some blk∧okP p∧v=.pointer (some ⟨blk,offP p,none⟩):=by
  obtain ⟨cs,⟨blk,hb,hp,rfl⟩,h | h⟩:=h
  · cases h.1
  · exact ⟨blk,hb,hp,by simpa using h.2.symm⟩
theorem iptr_form {G:Gh} {dead:List Nat} {T:DTy} {x:T.El} {v:Value} (h:Rv G dead (.iptr T x) v):∃ b off row,v=.pointer (some ⟨b,off,none⟩)∧G.imm b=some row∧off+T.sz≤row.length∧RD G.imm T x ((row.drop off).take T.sz):=by
  obtain ⟨cs,⟨b,off,row,rfl,h1,h2,h3⟩,h | h⟩:=h
  · cases h.1
  · exact ⟨b,off,row,by simpa using h.2.symm,h1,h2,h3⟩
theorem int_form {G:Gh} {dead:List Nat} {k:IntKind} {n:Int} {v:Value} (h:Rv G dead (.d (.int k) n) v):v=.int k n:=toV_eq (a:=.d (.int k) n) rfl h
theorem bool_form {G:Gh} {dead:List Nat} {n:Bool} {v:Value} (h:Rv G dead (.d .bool n) v):v=.bool n:=toV_eq (a:=.d .bool n) rfl h
theorem str_form {G:Gh} {dead:List Nat} {n:ByteArray} {v:Value} (h:Rv G dead (.d .str n) v):v=.string n:=toV_eq (a:=.d .str n) rfl h
theorem list_form {G:Gh} {dead:List Nat} {T:DTy} {xs:List T.El} {v:Value} (h:Rv G dead (.d (.list T) xs) v):∃ A cap,v=.slice A xs.length cap∧RD G.imm (.list T) xs [.slice A xs.length cap]:=by
  obtain ⟨cs,hr,h | h⟩:=h
  · cases h.1
  · obtain ⟨A,cap,rfl,hh⟩:=hr
    have:v=.slice A xs.length cap:=by simpa using h.2.symm
    subst this
    exact ⟨A,cap,rfl,A,cap,rfl,hh⟩
theorem own_list {G:Gh} {dead:List Nat} {tok:Nat} {T:DTy} {xs:List T.El} {v:Value} (h:Rv G dead (.own tok T xs) v):Rv G dead (.d (.list T) xs) v:=by
  obtain ⟨cs,hr,h | h⟩:=h
  · cases h.1
  · exact ⟨cs,hr.1,.inr ⟨rfl,h.2⟩⟩
def fieldAddrA (P:Program) (s:TypeId) (x:AVal) (f:Nat):Option AVal:=
  match P.underlying s with
  | some (.struct fs)=>match fs[f]? with
    | some fd=>match P.info? fd.type with
      | some ti=>bif ti.size==0 then none else
        match x with
        | .bptr b p=>some (.bptr b (p++[.fld f fd.offset]))
        | .iptr T v=>match fldD T v f with
          | some (o,.d T' v')=>bif o==fd.offset then some (.iptr T' v') else none
          | _=>none
        | _=>none
      | none=>none
    | none=>none
  | _=>none
theorem run_underlying' {P:Program} {t:TypeId} {d:TypeDesc} (h:P.underlying t=some d) (w:World):(underlying t).run P w=.ok d w:=by
  unfold underlying
  rw [Sem.run_bind]
  show ((match P.underlying t with | some d => pure d | none => stuck "no such type" : Sem TypeDesc).run P w) = _
  rw [h]
  rfl
theorem run_typeInfo' {P:Program} {t:TypeId} {i:TypeInfo} (h:P.info? t=some i) (w:World):(typeInfo t).run P w=.ok i w:=by
  unfold typeInfo
  rw [Sem.run_bind]
  show ((match P.info? t with | some i => pure i | none => stuck "no such type" : Sem TypeInfo).run P w) = _
  rw [h]
  rfl
theorem run_sizeOf' {P:Program} {t:TypeId} {i:TypeInfo} (h:P.info? t=some i) (w:World):(sizeOf t).run P w=.ok i.size w:=by
  unfold sizeOf
  rw [Sem.run_bind,run_typeInfo' h]
  rfl
theorem run_fieldAt {P:Program} {s:TypeId} {fs:Array Field} {f:Nat} {fd:Field} {ti:TypeInfo} {a:Addr} (h1:P.underlying s=some (.struct fs)) (h2:fs[f]?=some fd) (h3:P.info? fd.type=some ti) (h4:ti.size≠0) (w:World) :
    (Instr.fieldAt s (.pointer (some a)) f).run P w=.ok (.pointer (some (a.add fd.offset))) w:=by
  unfold Instr.fieldAt
  rw [Sem.run_bind,run_underlying' h1]
  simp only [Result.andThen_ok,h2,Instr.sureAddr,fieldPlace,Sem.run_bind,Sem.run_pure,run_sizeOf' h3,h4,if_false]
theorem fieldAddrA_sound {P:Program} {o:Oper} {ρ:Operand→AVal} {v:AVal} {s:TypeId} {x:Operand} {f:Nat} (ho:o.op=.fieldAddr s x f) (h:fieldAddrA P s (ρ x) f=some v) (B:Bx):OpD P o ρ B v B:=by
  unfold fieldAddrA at h
  split at h
  · rename_i fs hfs
    split at h
    · rename_i fd hfd
      split at h
      · rename_i ti hti
        cases hz:ti.size==0 with
        | true=>simp [hz] at h
        | false=>
          simp only [hz,cond_false] at h
          have hz':ti.size≠0:=by simpa using hz
          refine OpD.value (fun G dead a ha=>?_) B
          have hx:=ha x (by rw [ho]; simp [Op.operands])
          split at h
          · rename_i b p hbp
            simp only [Option.some.injEq] at h
            subst h
            rw [hbp] at hx
            obtain ⟨blk,hb,hp,hv⟩:=ptr_form hx
            refine ⟨.pointer (some ⟨blk,offP p+fd.offset,none⟩),fun w=>?_,leaf_v rfl ⟨blk,hb,okP_fld _ _ _ hp,by rw [offP_snoc]; rfl⟩⟩
            simp only [execOp,ho]
            rw [hv,Sem.run_bind,run_fieldAt hfs hfd hti hz',addr_add]
            rfl
          · rename_i T y hbp
            split at h
            · rename_i o1 T' y' hfl
              cases he:o1==fd.offset with
              | false=>simp [he] at h
              | true=>
                simp only [he,cond_true,Option.some.injEq] at h
                subst h
                have he':o1=fd.offset:=by simpa using he
                rw [hbp] at hx
                obtain ⟨b,off,row,hv,h1,h2,h3⟩:=iptr_form hx
                obtain ⟨T'',y'',e,hs⟩:=fldD_spec (imm:=G.imm) hfl
                injection e with e1 e2
                subst e1
                have e2:=eq_of_heq e2
                subst e2
                obtain ⟨hle,hr⟩:=hs _ h3
                have hlen:((row.drop off).take T.sz).length=T.sz:=RD.len h3
                refine ⟨.pointer (some ⟨b,off+fd.offset,none⟩),fun w=>?_,leaf_v rfl ⟨b,off+fd.offset,row,rfl,h1,by omega,?_⟩⟩
                · simp only [execOp,ho]
                  rw [hv,Sem.run_bind,run_fieldAt hfs hfd hti hz',addr_add]
                  rfl
                · rw [← he']
                  have:(((row.drop off).take T.sz).drop o1).take T'.sz=(row.drop (off+o1)).take T'.sz:=by
                    rw [List.drop_take,List.take_take,List.drop_drop,Nat.min_eq_left (by omega)]
                  rw [← this]
                  exact hr
            · cases h
          · cases h
      · cases h
    · cases h
  · cases h
end Go.Proofs.YtkeipcalbbmncaaGreat.Abs
set_option linter.unusedVariables false
set_option linter.unusedSimpArgs false
namespace Go.Proofs.YtkeipcalbbmncaaGreat.Abs
def childA:AVal→Nat→Option (Nat×AVal)
  | .d T x,k=>fldD T x k
  | .tbox _ a,k=>childA a k
  | .cons h _,0=>some (0,h)
  | .cons h t,k+1=>match childA t k with
    | some (o,a)=>some (h.size+o,a)
    | none=>none
  | _,_=>none
theorem childA_spec {G:Gh} {dead:List Nat}:{a:AVal}→{k o:Nat}→{c:AVal}→childA a k=some (o,c)→∀ cs,Rc G dead a cs→o+c.size≤cs.length∧Rc G dead c ((cs.drop o).take c.size)
  | .d T x,k,o,c,e,cs,hc=>by
    obtain ⟨T',x',rfl,hs⟩:=fldD_spec (imm:=G.imm) e
    exact hs cs hc
  | .tbox _ a,k,o,c,e,cs,hc=>childA_spec (a:=a) (by simpa [childA] using e) cs hc
  | .cons h t,0,o,c,e,cs,hc=>by
    simp only [childA,Option.some.injEq,Prod.mk.injEq] at e
    obtain ⟨rfl,rfl⟩:=e
    obtain ⟨c1,c2,rfl,h1,h2⟩:=hc
    have:=Rc.len (a:=h) h1
    simp [this.symm]
    exact h1
  | .cons h t,k+1,o,c,e,cs,hc=>by
    simp only [childA] at e
    split at e
    · rename_i o1 a1 h1
      simp only [Option.some.injEq,Prod.mk.injEq] at e
      obtain ⟨rfl,rfl⟩:=e
      obtain ⟨c1,c2,rfl,h2,h3⟩:=hc
      have hl:=Rc.len (a:=h) h2
      obtain ⟨hle,hr⟩:=childA_spec h1 c2 h3
      refine ⟨by simp; omega,?_⟩
      rw [← hl,List.drop_append,List.drop_eq_nil_of_le (by omega)]
      simpa using hr
    · cases e
  | .own ..,_,_,_,e,_,_ | .nil,_,_,_,e,_,_ | .pnil,_,_,_,e,_,_ | .bptr ..,_,_,_,e,_,_ | .iptr ..,_,_,_,e,_,_ | .func ..,_,_,_,e,_,_ | .fnil,_,_,_,e,_,_ | .snil,_,_,_,e,_,_ | .iface ..,_,_,_,e,_,_ | .inil,_,_,_,e,_,_ | .tuple ..,_,_,_,e,_,_ | .any,_,_,_,e,_,_=>by simp [childA] at e
def getP:AVal→List PStep→Option AVal
  | a,[]=>some a
  | a,.fld k off::p=>match childA a k with
    | some (o,c)=>bif o==off then getP c p else none
    | none=>none
  | .d (.arr m e) xs,.ix i esz n::p=>bif m==n&&e.sz==esz then getP (.d e (xs.getD i e.dflt)) p else none
  | .cons h t,.ix i esz n::p=>match childA (.cons h t) i with
    | some (o,c)=>bif o==i*esz then getP c p else none
    | none=>none
  | _,.ix ..::_=>none
theorem getP_spec {G:Gh} {dead:List Nat}:{p:List PStep}→{a c:AVal}→getP a p=some c→okP p→∀ cs,Rc G dead a cs→offP p+c.size≤cs.length∧Rc G dead c ((cs.drop (offP p)).take c.size)
  | [],a,c,e,_,cs,hc=>by
    simp only [getP,Option.some.injEq] at e
    subst e
    have:=Rc.len hc
    simp [offP,this.symm]
    exact hc
  | .fld k off::p,a,c,e,hp,cs,hc=>by
    simp only [getP] at e
    split at e
    · rename_i o c1 h1
      cases ho:o==off with
      | false=>simp [ho] at e
      | true=>
        simp only [ho,cond_true] at e
        have ho':o=off:=by simpa using ho
        subst ho'
        obtain ⟨hle,hr⟩:=childA_spec h1 cs hc
        obtain ⟨hle2,hr2⟩:=getP_spec e hp _ hr
        have hl:=Rc.len hr
        simp only [List.length_take,List.length_drop] at hl hle2
        refine ⟨by simp only [offP,PStep.off]; omega,?_⟩
        rw [List.drop_take,List.take_take,List.drop_drop,Nat.min_eq_left (by omega)] at hr2
        exact hr2
    · cases e
  | .ix i esz n::p,a,c,e,hp,cs,hc=>by
    cases a with
    | d T x=>
      cases T with
      | arr m el=>
        simp only [getP] at e
        cases hb:m==n&&el.sz==esz with
        | false=>simp [hb] at e
        | true=>
          simp only [hb,cond_true] at e
          simp only [Bool.and_eq_true,beq_iff_eq] at hb
          obtain ⟨rfl,rfl⟩:=hb
          obtain ⟨hxl,hcl,hx⟩:=hc
          have hi:i < m:=hp.1
          have hxi:x[i]?=some (x.getD i el.dflt):=by
            rw [List.getD_eq_getElem?_getD,List.getElem?_eq_getElem (by omega)]
            rfl
          have hr:=hx i _ hxi
          have hr':Rc G dead (.d el (x.getD i el.dflt)) ((cs.drop (i*el.sz)).take el.sz):=hr
          obtain ⟨hle2,hr2⟩:=getP_spec e hp.2 _ hr'
          have hm:(i+1)*el.sz≤m*el.sz:=Nat.mul_le_mul_right _ hi
          rw [Nat.add_mul,Nat.one_mul] at hm
          simp only [List.length_take,List.length_drop] at hle2
          refine ⟨by simp only [offP,PStep.off]; omega,?_⟩
          rw [List.drop_take,List.take_take,List.drop_drop,Nat.min_eq_left (by omega)] at hr2
          exact hr2
      | _=>simp [getP] at e
    | cons h t=>
      simp only [getP] at e
      split at e
      · rename_i o c1 h1
        cases ho:o==i*esz with
        | false=>simp [ho] at e
        | true=>
          simp only [ho,cond_true] at e
          have ho':o=i*esz:=by simpa using ho
          subst ho'
          obtain ⟨hle,hr⟩:=childA_spec h1 cs hc
          obtain ⟨hle2,hr2⟩:=getP_spec e hp.2 _ hr
          have hl:=Rc.len hr
          simp only [List.length_take,List.length_drop] at hl hle2
          refine ⟨by simp only [offP,PStep.off]; omega,?_⟩
          rw [List.drop_take,List.take_take,List.drop_drop,Nat.min_eq_left (by omega)] at hr2
          exact hr2
      · cases e
    | _=>simp [getP] at e
def aggT (P:Program) (t:TypeId):Option Bool:=
  match P.underlying t with
  | some (.struct _)=>some true
  | some (.array _ _)=>some true
  | some _=>some false
  | none=>none
theorem run_isAgg' {P:Program} {t:TypeId} {b:Bool} (h:aggT P t=some b) (w:World):(isAgg t).run P w=.ok b w:=by
  unfold aggT at h
  unfold isAgg
  cases hu:P.underlying t with
  | none=>simp [hu] at h
  | some d=>rw [Sem.run_bind,run_underlying' hu]; cases d<;>simp [hu] at h<;>subst h<;>rfl
def fitT (P:Program) (t:TypeId) (c:AVal):Bool:=
  match P.info? t,aggT P t with
  | some i,some b=>i.size==c.size&&b==c.agg&&!c.isM
  | _,_=>false
theorem fitT_spec {P:Program} {t:TypeId} {c:AVal} (h:fitT P t c=true):∃ i,P.info? t=some i∧i.size=c.size∧aggT P t=some c.agg:=by
  unfold fitT at h
  split at h
  · rename_i i b h1 h2
    simp only [Bool.and_eq_true,beq_iff_eq] at h
    exact ⟨i,h1,h.1.1,by rw [h2,h.1.2]⟩
  · cases h
theorem fitT_notM {P:Program} {t:TypeId} {c:AVal} (h:fitT P t c=true):c.isM=false:=by
  unfold fitT at h
  split at h
  · simp only [Bool.and_eq_true,Bool.not_eq_true'] at h
    exact h.2
  · cases h
theorem getP_notM {p:List PStep} {a c:AVal} (h:getP a p=some c) (hc:c.isM=false):a.isC=true:=by
  cases p with
  | nil=>
    simp only [getP,Option.some.injEq] at h
    rw [h]; exact isC_of hc
  | cons s p=>cases a<;>first | rfl | (cases s<;>simp [getP,childA] at h)
def fieldA (P:Program) (s:TypeId) (x:AVal) (f:Nat):Option AVal:=
  match P.underlying s with
  | some (.struct fs)=>match fs[f]?,childA x f with
    | some fd,some (o,c)=>bif x.agg&&o==fd.offset&&fitT P fd.type c then some c else none
    | _,_=>none
  | _=>none
theorem agg_v {G:Gh} {dead:List Nat} {a:AVal} {cs:List Value} (hc:Rc G dead a cs) (hagg:a.agg=true):Rv G dead a (.agg cs.toArray):=⟨cs,hc,.inl ⟨hagg,rfl⟩⟩
theorem fieldA_sound {P:Program} {o:Oper} {ρ:Operand→AVal} {v:AVal} {s:TypeId} {x:Operand} {f:Nat} (ho:o.op=.field s x f) (h:fieldA P s (ρ x) f=some v) (B:Bx):OpD P o ρ B v B:=by
  unfold fieldA at h
  split at h
  · rename_i fs hfs
    split at h
    · rename_i fd o1 c hfd hch
      cases hb:(ρ x).agg&&o1==fd.offset&&fitT P fd.type c with
      | false=>simp [hb] at h
      | true=>
        simp only [hb,cond_true,Option.some.injEq] at h
        subst h
        simp only [Bool.and_eq_true,beq_iff_eq] at hb
        obtain ⟨⟨hagg,ho1⟩,hfit⟩:=hb
        obtain ⟨ti,hti,hsz,hag⟩:=fitT_spec hfit
        refine OpD.value (fun G dead a ha=>?_) B
        obtain ⟨cs,hc,hv | hv⟩:=ha x (by rw [ho]; simp [Op.operands])
        · obtain ⟨hle,hr⟩:=childA_spec hch cs hc
          have hrun:∀ (v':Value),(∀ w,(part fd.type cs.toArray fd.offset).run P w=.ok v' w)→∀ w,(execOp a.eval o).run P w=.ok (.value v') w:=by
            intro v' hp w
            simp only [execOp,ho,hv.2]
            rw [Sem.run_bind]
            unfold Instr.field
            rw [Sem.run_bind,run_underlying' hfs]
            simp only [Result.andThen_ok,hfd,asAgg,Sem.run_bind,Sem.run_pure,hp w]
          cases hag2:c.agg with
          | true=>
            refine ⟨.agg ((cs.drop o1).take c.size).toArray,hrun _ (fun w=>?_),agg_v hr hag2⟩
            unfold part
            rw [hag2] at hag
            rw [Sem.run_bind,run_isAgg' hag]
            simp only [Result.andThen_ok,if_true,Sem.run_bind,run_sizeOf' hti,Sem.run_pure]
            congr 2
            apply Array.ext'
            simp [List.extract_eq_take_drop,← ho1,hsz]
          | false=>
            have hl:=Rc.len hr
            have h1 : c.size = 1 := by cases c <;> simp [AVal.agg] at hag2 <;> try rfl
                                       rename_i T y; cases T<;>simp [DTy.agg] at hag2<;>rfl
            have hlt:o1 < cs.length:=by omega
            have hone:(cs.drop o1).take c.size=[cs[o1]]:=by
              rw [h1,List.drop_eq_getElem_cons hlt]; rfl
            rw [hone] at hr
            refine ⟨cs[o1],hrun _ (fun w=>?_),leaf_v hag2 hr⟩
            unfold part
            rw [hag2] at hag
            rw [Sem.run_bind,run_isAgg' hag]
            simp [← ho1,hlt]
        · rw [hagg] at hv; cases hv.1
    · cases h
  · cases h
def szT (P:Program) (t:TypeId):Option Nat:=(P.info? t).map (·.size)
theorem szT_spec {P:Program} {t:TypeId} {n:Nat} (h:szT P t=some n):∃ i,P.info? t=some i∧i.size=n:=by
  unfold szT at h
  cases hi:P.info? t with
  | none=>simp [hi] at h
  | some i=>exact ⟨i,rfl,by simpa [hi] using h⟩
theorem toNat_lt' {i:Int} {n:Nat} (h0:0≤i) (h1:i < (n:Int)):i.toNat < n:=by omega
theorem mul_room {i n s:Nat} (h:i < n):i*s+s≤n*s:=by
  have:=Nat.mul_le_mul_right s h
  rw [Nat.succ_mul] at this
  exact this
def indexAddrA (P:Program) (t:TypeId) (x ix:AVal):Option (Bool×AVal):=
  match ix with
  | .d (.int _) i=>
    match P.underlying t with
    | some (.slice e)=>match szT P e with
      | some n=>match x with
        | .d (.list T) xs=>bif n==T.sz then some (decide (0≤i)&&decide (i < (xs.length:Int)),.iptr T (xs.getD i.toNat T.dflt)) else none
        | .own _ T xs=>bif n==T.sz then some (decide (0≤i)&&decide (i < (xs.length:Int)),.iptr T (xs.getD i.toNat T.dflt)) else none
        | _=>none
      | none=>none
    | some (.array m e)=>match szT P e with
      | some n=>match x with
        | .bptr b p=>some (decide (0≤i)&&decide (i < (m:Int)),.bptr b (p++[.ix i.toNat n m]))
        | .iptr (.arr m' T) xs=>bif n==T.sz&&m==m' then some (decide (0≤i)&&decide (i < (m:Int)),.iptr T (xs.getD i.toNat T.dflt)) else none
        | _=>none
      | none=>none
    | _=>none
  | _=>none
theorem getD_some {α:Type} {xs:List α} {i:Nat} {d:α} (h:i < xs.length):xs[i]?=some (xs.getD i d):=by
  rw [List.getD_eq_getElem?_getD,List.getElem?_eq_getElem h]
  rfl
theorem list_elem {G:Gh} {dead:List Nat} {T:DTy} {xs:List T.El} {A:Option Addr} {cap:Nat} (h:RD G.imm (.list T) xs [.slice A xs.length cap]) {i:Nat} (hi:i < xs.length) :
    ∃ b off,A=some ⟨b,off,none⟩∧Rv G dead (.iptr T (xs.getD i T.dflt)) (.pointer (some ⟨b,off+i*T.sz,none⟩)):=by
  obtain ⟨A',cap',e,_,hr⟩:=h
  obtain ⟨rfl,rfl⟩:A=A'∧cap=cap':=by simpa using e
  obtain ⟨b,off,row,rfl,hb,hl,hx⟩:=hr (by intro h0; subst h0; simp at hi)
  have hm:(i+1)*T.sz≤xs.length*T.sz:=Nat.mul_le_mul_right _ hi
  rw [Nat.add_mul,Nat.one_mul] at hm
  exact ⟨b,off,rfl,leaf_v rfl ⟨b,_,row,rfl,hb,by omega,hx i _ (getD_some hi)⟩⟩
theorem run_indexAt_slice {P:Program} {t e:TypeId} {ti:TypeInfo} {b off len cap:Nat} {k:IntKind} {i:Int} (h1:P.underlying t=some (.slice e)) (h2:P.info? e=some ti) (h3:0≤i) (h4:i < len) (w:World) :
    (Instr.indexAt t (.slice (some ⟨b,off,none⟩) len cap) (.int k i)).run P w=.ok (.pointer (some ⟨b,off+i.toNat*ti.size,none⟩)) w:=by
  unfold Instr.indexAt
  simp [asIntOf,run_underlying' h1,run_sizeOf' h2,h3,h4,addr_add]
theorem run_indexAt_array {P:Program} {t e:TypeId} {ti:TypeInfo} {m b off:Nat} {k:IntKind} {i:Int} (h1:P.underlying t=some (.array m e)) (h2:P.info? e=some ti) (h3:0≤i) (h4:i < m) (w:World) :
    (Instr.indexAt t (.pointer (some ⟨b,off,none⟩)) (.int k i)).run P w=.ok (.pointer (some ⟨b,off+i.toNat*ti.size,none⟩)) w:=by
  unfold Instr.indexAt
  simp [asIntOf,run_underlying' h1,run_sizeOf' h2,h3,h4,addr_add,Instr.sureAddr]
theorem indexAddrA_sound {P:Program} {o:Oper} {ρ:Operand→AVal} {v:AVal} {t:TypeId} {x ix:Operand} (ho:o.op=.indexAddr t x ix) (h:indexAddrA P t (ρ x) (ρ ix)=some (true,v)) (B:Bx):OpD P o ρ B v B:=by
  refine OpD.value (fun G dead a ha=>?_) B
  have hx:=ha x (by rw [ho]; simp [Op.operands])
  have hix:=ha ix (by rw [ho]; simp [Op.operands])
  unfold indexAddrA at h
  split at h
  · rename_i k i hi
    rw [hi] at hix
    have hiv:=int_form hix
    split at h
    · rename_i e hu
      split at h
      · rename_i n hn
        obtain ⟨ti,hti,rfl⟩:=szT_spec hn
        have key:∀ (T:DTy) (xs:List T.El),Rv G dead (.d (.list T) xs) (a.eval x)→(bif ti.size==T.sz then some (decide (0≤i)&&decide (i < (xs.length:Int)),AVal.iptr T (xs.getD i.toNat T.dflt)) else none)=some (true,v)→∃ cv,(∀ w,(execOp a.eval o).run P w=.ok (.value cv) w)∧Rv G dead v cv:=by
          intro T xs hxs h
          cases hb:ti.size==T.sz with
          | false=>simp [hb] at h
          | true=>
            simp only [hb,cond_true,Option.some.injEq,Prod.mk.injEq,Bool.and_eq_true,decide_eq_true_eq] at h
            obtain ⟨⟨h0,h1⟩,rfl⟩:=h
            have hb':ti.size=T.sz:=by simpa using hb
            obtain ⟨A,cap,hv,hr⟩:=list_form hxs
            obtain ⟨b,off,rfl,he⟩:=list_elem (dead:=dead) hr (i:=i.toNat) (toNat_lt' h0 h1)
            refine ⟨_,fun w=>?_,he⟩
            simp only [execOp,ho,hv,hiv]
            rw [Sem.run_bind,run_indexAt_slice hu hti h0 h1,hb']
            rfl
        split at h
        · rename_i T xs hxs; rw [hxs] at hx; exact key T xs hx h
        · rename_i tok T xs hxs; rw [hxs] at hx; exact key T xs (own_list hx) h
        · cases h
      · cases h
    · rename_i m e hu
      split at h
      · rename_i n hn
        obtain ⟨ti,hti,rfl⟩:=szT_spec hn
        split at h
        · rename_i b p hbp
          simp only [Option.some.injEq,Prod.mk.injEq,Bool.and_eq_true,decide_eq_true_eq] at h
          obtain ⟨⟨h0,h1⟩,rfl⟩:=h
          rw [hbp] at hx
          obtain ⟨blk,hb,hp,hv⟩:=ptr_form hx
          refine ⟨.pointer (some ⟨blk,offP p+i.toNat*ti.size,none⟩),fun w=>?_,leaf_v rfl ⟨blk,hb,okP_ix _ _ _ _ (toNat_lt' h0 h1) hp,by rw [offP_snoc]; rfl⟩⟩
          simp only [execOp,ho,hv,hiv]
          rw [Sem.run_bind,run_indexAt_array hu hti h0 h1]
          rfl
        · rename_i m' T xs hbp
          cases hb:ti.size==T.sz&&m==m' with
          | false=>simp [hb] at h
          | true=>
            simp only [hb,cond_true,Option.some.injEq,Prod.mk.injEq,Bool.and_eq_true,decide_eq_true_eq] at h
            obtain ⟨⟨h0,h1⟩,rfl⟩:=h
            simp only [Bool.and_eq_true,beq_iff_eq] at hb
            obtain ⟨hsz,rfl⟩:=hb
            rw [hbp] at hx
            obtain ⟨b,off,row,hv,hrow,hle,hr⟩:=iptr_form hx
            obtain ⟨hxl,hcl,hxx⟩:=hr
            have hi1:i.toNat < m:=toNat_lt' h0 h1
            have hi2:i.toNat < xs.length:=by rw [hxl]; exact hi1
            have hm:=mul_room (s:=T.sz) hi1
            have hle':off+m*T.sz≤row.length:=hle
            have hle2:off+i.toNat*T.sz+T.sz≤row.length:=by rw [Nat.add_assoc]; exact Nat.le_trans (Nat.add_le_add_left hm off) hle'
            refine ⟨.pointer (some ⟨b,off+i.toNat*ti.size,none⟩),fun w=>?_,leaf_v rfl ⟨b,off+i.toNat*ti.size,row,rfl,hrow,by rw [hsz]; exact hle2,?_⟩⟩
            · simp only [execOp,ho,hv,hiv]
              rw [Sem.run_bind,run_indexAt_array hu hti h0 h1]
              rfl
            · have:=hxx i.toNat _ (getD_some hi2 (d:=T.dflt))
              rw [List.drop_take,List.take_take,List.drop_drop] at this
              have hmin:min T.sz ((DTy.arr m T).sz - i.toNat*T.sz)=T.sz:=by
                refine Nat.min_eq_left ?_
                show T.sz≤m*T.sz - i.toNat*T.sz
                exact Nat.le_sub_of_add_le (by rw [Nat.add_comm]; exact hm)
              rw [hmin] at this
              rw [hsz]
              exact this
        · cases h
      · cases h
    · cases h
  · cases h
end Go.Proofs.YtkeipcalbbmncaaGreat.Abs
set_option linter.unusedVariables false
set_option linter.unusedSimpArgs false
namespace Go.Proofs.YtkeipcalbbmncaaGreat.Abs
theorem run_load_cell {P:Program} {w:World} {a:Addr} {v:Value} (h:w.cell? a=some v) (m:Mode):(load a m).run P w=.ok v w:=by
  rw [run_load,h]
theorem run_loadCellsFrom {P:Program} {w:World} {b off:Nat}:∀ (n i:Nat) (cs:List Value) (acc:Array Value),cs.length=n→(∀ j,j < n→w.cell? ⟨b,off+(i+j),none⟩=cs[j]?)→
    (loadCellsFrom ⟨b,off,none⟩ i n acc).run P w=.ok (acc++cs.toArray) w
  | 0,i,cs,acc,hl,_=>by
    have:cs=[]:=List.length_eq_zero_iff.1 hl
    subst this
    simp [loadCellsFrom]
  | n+1,i,cs,acc,hl,h=>by
    obtain ⟨c,cs,rfl⟩:∃ c l,cs=c::l:=by cases cs with | nil=>simp at hl | cons c l=>exact ⟨c,l,rfl⟩
    have h0:=h 0 (by omega)
    simp only [List.getElem?_cons_zero,Nat.add_zero] at h0
    unfold loadCellsFrom
    rw [Sem.run_bind,addr_add,run_load_cell h0,Result.andThen_ok,
      run_loadCellsFrom n (i+1) cs (acc.push c) (by simpa using hl) (fun j hj=>by have:=h (j+1) (by omega); simpa [Nat.add_assoc,Nat.add_comm,Nat.add_left_comm] using this)]
    simp
theorem run_loadCells' {P:Program} {w:World} {b off:Nat} {cs:List Value} (h:∀ j,j < cs.length→w.cell? ⟨b,off+j,none⟩=cs[j]?) (n:Nat) (hn:n=cs.length) :
    (loadCells ⟨b,off,none⟩ n).run P w=.ok cs.toArray w:=by
  subst hn
  unfold loadCells
  rw [run_loadCellsFrom cs.length 0 cs #[] rfl (fun j hj=>by simpa using h j hj)]
  simp
theorem run_loadAt' {P:Program} {w:World} {t:TypeId} {c:AVal} {G:Gh} {dead:List Nat} {b off:Nat} {cs:List Value} (hf:fitT P t c=true) (hc:Rc G dead c cs)
    (h:∀ j,j < cs.length→w.cell? ⟨b,off+j,none⟩=cs[j]?):∃ v,(Instr.loadAt t (.pointer (some ⟨b,off,none⟩))).run P w=.ok v w∧Rv G dead c v:=by
  obtain ⟨ti,hti,hsz,hag⟩:=fitT_spec hf
  have hl:=Rc.len hc
  unfold Instr.loadAt
  simp only [Instr.sureAddr,Sem.run_bind,Sem.run_pure,Result.andThen_ok]
  unfold loadVar
  rw [Sem.run_bind,run_isAgg' hag,Result.andThen_ok]
  cases hag2:c.agg with
  | true=>
    refine ⟨.agg cs.toArray,?_,agg_v hc hag2⟩
    simp only [if_true,Sem.run_bind,run_sizeOf' hti,Result.andThen_ok]
    rw [run_loadCells' h _ (by rw [hsz,hl])]
    rfl
  | false=>
    have h1:c.size=1:=by
      cases c<;>simp [AVal.agg] at hag2<;>try rfl
      rename_i T y
      cases T<;>simp [DTy.agg] at hag2<;>rfl
    obtain ⟨v,rfl⟩:∃ v,cs=[v]:=List.length_eq_one_iff.1 (by omega)
    refine ⟨v,?_,leaf_v hag2 hc⟩
    have:=h 0 (by simp)
    simp only [Nat.add_zero,List.getElem?_cons_zero] at this
    simp only [Bool.false_eq_true,if_false]
    exact run_load_cell this _
theorem cell_of_heap {w:World} {b i:Nat} {cells:Array Value} {e:TypeId} {fr:Nat×Nat} (h:w.heap[b]?=some (.cells cells e fr)):w.cell? ⟨b,i,none⟩=cells[i]?:=by
  simp [World.cell?,h]
def loadA (P:Program) (t:TypeId) (x:AVal) (B:Bx):Option AVal:=
  match x with
  | .iptr T v=>bif fitT P t (.d T v) then some (.d T v) else none
  | .bptr b p=>match B.box[b]? with
    | some c=>match getP c p with
      | some c'=>bif fitT P t c' then some c' else none
      | none=>none
    | none=>none
  | _=>none
theorem loadA_sound {P:Program} {o:Oper} {ρ:Operand→AVal} {v:AVal} {t:TypeId} {x:Operand} {B:Bx} (ho:o.op=.load t x) (h:loadA P t (ρ x) B=some v):OpD P o ρ B v B:=by
  intro G a w ha hw next Q hn
  have hx:=ha x (by rw [ho]; simp [Op.operands])
  unfold loadA at h
  have fin:∀ cv,(Instr.loadAt t (a.eval x)).run P w=.ok cv w→Rv G B.dead v cv→∀ r,o.wpIn (Fr r) 0 P a w next Q:=fun cv hr hv=>
    wp_of_run (by simp only [execOp,ho]; rw [Sem.run_bind,hr]; rfl) (hn cv G w hv hw (GLe.refl _ _) (Ext.refl _ _))
  split at h
  · rename_i T y hy
    cases hf:fitT P t (.d T y) with
    | false=>simp [hf] at h
    | true=>
      simp only [hf,cond_true,Option.some.injEq] at h
      subst h
      rw [hy] at hx
      obtain ⟨b,off,row,hv,hrow,hle,hr⟩:=iptr_form hx
      obtain ⟨cells,e,fr,hb,hp⟩:=hw.imm b row hrow
      have hlen:((row.drop off).take T.sz).length=T.sz:=RD.len hr
      obtain ⟨cv,hrun,hcv⟩:=run_loadAt' (w:=w) (b:=b) (off:=off) hf (G:=G) (dead:=B.dead) (cs:=(row.drop off).take T.sz) hr (fun j hj=>by
        rw [hlen] at hj
        rw [cell_of_heap hb,List.getElem?_take_of_lt hj,List.getElem?_drop,← Array.getElem?_toList]
        exact prefix_getElem? hp (List.getElem?_eq_getElem (by omega)) |>.trans (List.getElem?_eq_getElem (by omega)).symm)
      rw [← hv] at hrun
      exact fin cv hrun hcv
  · rename_i bb p hbp
    split at h
    · rename_i c hc
      split at h
      · rename_i c' hc'
        cases hf:fitT P t c' with
        | false=>simp [hf] at h
        | true=>
          simp only [hf,cond_true,Option.some.injEq] at h
          subst h
          rw [hbp] at hx
          obtain ⟨blk,hb,hp,hv⟩:=ptr_form hx
          obtain ⟨cells,e,hheap,hrc⟩:=(hw.boxes bb blk c hb hc).cells (getP_notM hc' (fitT_notM hf))
          obtain ⟨hle,hr⟩:=getP_spec hc' hp _ hrc
          have hlen:=Rc.len hr
          obtain ⟨cv,hrun,hcv⟩:=run_loadAt' (w:=w) (b:=blk) (off:=offP p) hf hr (fun j hj=>by
            rw [hlen] at hj
            rw [cell_of_heap hheap,List.getElem?_take_of_lt hj,List.getElem?_drop,← Array.getElem?_toList])
          rw [← hv] at hrun
          exact fin cv hrun hcv
      · cases h
    · cases h
  · cases h
theorem heap_push_lt {w:World} {o:Obj} {b:Nat} (h:b < w.heap.size):(w.alloc o).heap[b]?=w.heap[b]?:=by
  simp only [World.alloc]
  rw [Array.getElem?_push_lt h,Array.getElem?_eq_getElem h]
theorem heap_push_eq {w:World} {o:Obj}:(w.alloc o).heap[w.heap.size]?=some o:=by
  show (w.heap.push o)[w.heap.size]?=some o
  simp
theorem heap_lt {w:World} {b:Nat} {o:Obj} (h:w.heap[b]?=some o):b < w.heap.size:=(Array.getElem?_eq_some_iff.1 h).1
theorem WOk.addr_lt {G:Gh} {B:Bx} {w:World} (h:WOk G B w) {b:Nat} (hb:b∈G.addr):b < w.heap.size:=by
  obtain ⟨i,hi,he⟩:=List.mem_iff_getElem.1 hb
  have hi':i < B.box.length:=by rw [← h.len]; exact hi
  obtain ⟨cells,e,hh,_⟩:=h.boxes i b B.box[i] (by rw [← he]; exact List.getElem?_eq_getElem hi) (List.getElem?_eq_getElem hi')
  exact heap_lt hh
theorem WOk.imm_lt {G:Gh} {B:Bx} {w:World} (h:WOk G B w) {b:Nat} {row:List Value} (hb:G.imm b=some row):b < w.heap.size:=by
  obtain ⟨cells,e,fr,hh,_⟩:=h.imm b row hb
  exact heap_lt hh
def Bx.push (B:Bx) (c:AVal):Bx:={ B with box:=B.box++[c] }
theorem RowOk.of {G G':Gh} {B B':Bx} {t t' b:Nat} (h:RowOk G B t b) (hi:G'.imm b=G.imm b) (ha:∀ (i:Nat) (c:AVal),G'.addr[i]?=some b→B'.box[i]?=some c→c.isT t'=true∨∃ (j:Nat) (c':AVal),G.addr[j]?=some b∧B.box[j]?=some c'∧(c'.isT t=true→c.isT t'=true)):RowOk G' B' t' b:=by
  rcases h with ⟨row,h⟩ | ⟨h1,h2⟩
  · exact .inl ⟨row,hi.trans h⟩
  · refine .inr ⟨hi.trans h1,fun i c k1 k2=>?_⟩
    rcases ha i c k1 k2 with h | ⟨j,c',e1,e2,e3⟩
    · exact h
    · exact e3 (h2 j c' e1 e2)
theorem WOk.own_box {G:Gh} {B:Bx} {w:World} (hw:WOk G B w) {t b n i:Nat} {c:AVal} (ht:G.own t=some (b,n)) (hi:G.addr[i]?=some b) (hc:B.box[i]?=some c) (hv:c.isV=false):False:=by
  rcases (hw.own t b n ht).2.1 with ⟨row,h⟩ | ⟨_,h⟩
  · rw [hw.disj b (List.mem_of_getElem? hi)] at h; cases h
  · rw [isT_V (h i c hi hc)] at hv; cases hv
theorem isV_of {a:AVal} (h:a.isM=false):a.isV=false:=by
  cases a<;>first | rfl | simp [AVal.isM] at h
theorem new_obj {G:Gh} {B:Bx} {w:World} {c:AVal} {o:Obj} {cs:List Value} (hw:WOk G B w) (hv:c.isV=false) (hm:Holds c.knd cs o) (hc:Rc G B.dead c cs) :
    ∃ G',G'.addr[B.box.length]?=some w.heap.size∧WOk G' (B.push c) (w.alloc o)∧GLe G B.dead G' B.dead∧Ext G w G' (w.alloc o):=by
  have hle:GLe G B.dead { G with addr:=G.addr++[w.heap.size] } B.dead:=⟨ImmLe.refl _,List.prefix_append _ _,fun _ h=>h,fun _ _ _ _ h=>⟨h,fun _ h=>h⟩⟩
  have hext:Ext G w { G with addr:=G.addr++[w.heap.size] } (w.alloc o):=by
    refine ⟨rfl,rfl,rfl,by simp,fun b hb _ _=>heap_push_lt hb,ImmLe.refl _,fun _ _ _=>rfl,fun b hb=>?_,fun t b n h=>.inl ⟨t,h⟩⟩
    rcases List.mem_append.1 hb with hb | hb
    · exact .inl hb
    · exact .inr (by simp at hb; omega)
  refine ⟨{ G with addr:=G.addr++[w.heap.size] },?_,?_,hle,hext⟩
  · show (G.addr++[w.heap.size])[B.box.length]?=_
    rw [← hw.len,List.getElem?_append_right (Nat.le_refl _)]
    simp
  · refine ⟨by simp [Bx.push,hw.len],?_,fun i b c' hb hc'=>?_,fun b row hb=>?_,fun b hb=>?_,fun t b n ht=>?_,hw.inj,hw.tab.ext hext,?_⟩
    · refine List.nodup_append.2 ⟨hw.nodup,by simp,fun a ha b hb=>?_⟩
      have:=hw.addr_lt ha
      simp only [List.mem_singleton] at hb
      omega
    · by_cases hi:i < B.box.length
      · have hi':i < G.addr.length:=by rw [hw.len]; exact hi
        have hb':G.addr[i]?=some b:=by
          have:(G.addr++[w.heap.size])[i]?=some b:=hb
          rwa [List.getElem?_append_left hi'] at this
        have hc'':B.box[i]?=some c':=by
          have:(B.box++[c])[i]?=some c':=hc'
          rwa [List.getElem?_append_left hi] at this
        have hbo:=hw.boxes i b c' hb' hc''
        obtain ⟨_,_,hh,_⟩:=id hbo
        exact hbo.mono hle (heap_push_lt (heap_lt hh))
      · have hb':(G.addr++[w.heap.size])[i]?=some b:=hb
        have hc'':(B.box++[c])[i]?=some c':=hc'
        rw [List.getElem?_append_right (by rw [hw.len]; omega)] at hb'
        rw [List.getElem?_append_right (by omega)] at hc''
        have hi0:i - B.box.length=0:=by
          have:=(List.getElem?_eq_some_iff.1 hc'').1
          simp at this
          omega
        rw [hw.len,hi0] at hb'
        rw [hi0] at hc''
        simp only [List.getElem?_cons_zero,Option.some.injEq] at hb' hc''
        subst hb'; subst hc''
        exact ⟨o,cs,heap_push_eq,hm,hc.mono hle⟩
    · obtain ⟨cs,e',fr,hh,hp⟩:=hw.imm b row hb
      exact ⟨cs,e',fr,by rw [heap_push_lt (heap_lt hh)]; exact hh,hp⟩
    · rcases List.mem_append.1 hb with hb | hb
      · exact hw.disj b hb
      · simp only [List.mem_singleton] at hb
        subst hb
        show G.imm w.heap.size=none
        cases hi:G.imm w.heap.size with
        | none=>rfl
        | some row=>have:=hw.imm_lt hi; omega
    · obtain ⟨h1,h2,cs,e',hh,hs⟩:=hw.own t b n ht
      refine ⟨h1,h2.of rfl fun i c' k1 k2=>?_,cs,e',by rw [heap_push_lt (heap_lt hh)]; exact hh,hs⟩
      by_cases hi:i < B.box.length
      · have hi':i < G.addr.length:=by rw [hw.len]; exact hi
        have k1':(G.addr++[w.heap.size])[i]?=some b:=k1
        have k2':(B.box++[c])[i]?=some c':=k2
        rw [List.getElem?_append_left hi'] at k1'
        rw [List.getElem?_append_left hi] at k2'
        exact .inr ⟨i,c',k1',k2',fun h=>h⟩
      · have k1':(G.addr++[w.heap.size])[i]?=some b:=k1
        rw [List.getElem?_append_right (by rw [hw.len]; omega)] at k1'
        have:=List.mem_of_getElem? k1'
        simp only [List.mem_singleton] at this
        have:=heap_lt hh
        omega
    · refine hw.vec.mono (fun i t T xs hx=>?_) (fun t h=>.inl h) (fun t b n _ h1 h2=>⟨h1,h2,?_⟩) (ImmLe.refl _)
      · have hx':(B.box++[c])[i]?=some (.vrow t T xs):=hx
        by_cases hi:i < B.box.length
        · rwa [List.getElem?_append_left hi] at hx'
        · rw [List.getElem?_append_right (by omega)] at hx'
          have:=List.mem_of_getElem? hx'
          simp only [List.mem_singleton] at this
          rw [← this] at hv
          cases hv
      · obtain ⟨_,_,_,_,hh,_⟩:=hw.own t b n h1
        exact heap_push_lt (heap_lt hh)
theorem new_box {G:Gh} {B:Bx} {w:World} {c:AVal} {cells:Array Value} {e:TypeId} (hw:WOk G B w) (hm:c.isM=false) (hc:Rc G B.dead c cells.toList) :
    ∃ G',Rv G' B.dead (.bptr B.box.length []) (.pointer (some ⟨w.heap.size,0,none⟩))∧WOk G' (B.push c) (w.alloc (.cells cells e))∧GLe G B.dead G' B.dead∧Ext G w G' (w.alloc (.cells cells e)):=by
  obtain ⟨G',h0,h1,h2,h3⟩:=new_obj (o:=.cells cells e) (cs:=cells.toList) hw (isV_of hm) (by rw [knd_cells hm]; exact ⟨cells,e,rfl,rfl⟩) hc
  exact ⟨G',leaf_v rfl ⟨w.heap.size,h0,trivial,rfl⟩,h1,h2,h3⟩
def AVal.plain:AVal→Bool
  | .any=>false
  | .tuple _=>false
  | .mobj _ _ _=>false
  | .lobj _ _ _ _=>false
  | .vrow _ _ _=>false
  | .siter _ _=>false
  | .pan _=>false
  | .tbox _ _=>false
  | .cons h t=>h.plain&&t.plain
  | _=>true
theorem plain_notM {a:AVal} (h:a.plain=true):a.isM=false:=by
  cases a<;>first | rfl | simp [AVal.plain] at h
def leafV:Value→Bool
  | .agg _=>false
  | .tuple _=>false
  | _=>true
theorem RD.leaf {imm:Nat→Option (List Value)}:{T:DTy}→{x:T.El}→{cs:List Value}→RD imm T x cs→∀ c∈cs,leafV c=true
  | .int k,n,cs,h=>by have h:cs=[.int k n]:=h; subst h; simp [leafV]
  | .bool,b,cs,h=>by have h:cs=[.bool b]:=h; subst h; simp [leafV]
  | .str,s,cs,h=>by have h:cs=[.string s]:=h; subst h; simp [leafV]
  | .nil,_,cs,h=>by have h:cs=[]:=h; subst h; simp
  | .cons a t,x,cs,h=>by
    obtain ⟨c1,c2,rfl,h1,h2⟩:=h
    intro c hc
    rcases List.mem_append.1 hc with hc | hc
    · exact RD.leaf h1 c hc
    · exact RD.leaf h2 c hc
  | .arr n e,xs,cs,h=>by
    obtain ⟨h1,h2,h3⟩:=h
    intro c hc
    obtain ⟨i,hi,rfl⟩:=List.mem_iff_getElem.1 hc
    rcases Nat.eq_zero_or_pos e.sz with h0 | h0
    · rw [h0] at h2; omega
    · have hq:i / e.sz < n:=by rw [Nat.div_lt_iff_lt_mul h0]; omega
      have hx:=h3 (i / e.sz) _ (getD_some (by rw [h1]; exact hq) (d:=e.dflt))
      refine RD.leaf hx _ (List.mem_iff_getElem.2 ⟨i % e.sz,?_,?_⟩)
      · have:=mul_room (s:=e.sz) hq
        have:=Nat.mod_lt i h0
        simp; omega
      · simp only [List.getElem_take,List.getElem_drop]
        congr 1
        rw [Nat.mul_comm]; exact Nat.div_add_mod i e.sz
  | .list e,xs,cs,h=>by obtain ⟨A,cap,rfl,_⟩:=h; simp [leafV]
  | .mapr,_,cs,h=>by obtain ⟨o,rfl⟩:=h; simp [leafV]
  | .opq,_,cs,h=>by
    obtain ⟨o,rfl,h⟩:=h
    intro c hc
    simp only [List.mem_singleton] at hc
    subst hc
    cases c<;>first | rfl | simp [opqV] at h
theorem Rc.leaf {G:Gh} {dead:List Nat}:{a:AVal}→{cs:List Value}→a.plain=true→Rc G dead a cs→∀ c∈cs,leafV c=true
  | .d T x,cs,_,h=>RD.leaf h
  | .own tok T xs,cs,_,h=>by obtain ⟨_,A,cap,rfl,_⟩:=h; simp [leafV]
  | .nil,cs,_,h=>by have h:cs=[]:=h; subst h; simp
  | .cons a t,cs,hp,h=>by
    obtain ⟨c1,c2,rfl,h1,h2⟩:=h
    simp only [AVal.plain,Bool.and_eq_true] at hp
    intro c hc
    rcases List.mem_append.1 hc with hc | hc
    · exact Rc.leaf (a:=a) hp.1 h1 c hc
    · exact Rc.leaf (a:=t) hp.2 h2 c hc
  | .pnil,cs,_,h=>by have h:cs=[.pointer none]:=h; subst h; simp [leafV]
  | .bptr b p,cs,_,h=>by obtain ⟨_,_,_,rfl⟩:=h; simp [leafV]
  | .iptr T x,cs,_,h=>by obtain ⟨_,_,_,rfl,_⟩:=h; simp [leafV]
  | .func fn f c,cs,_,h=>by obtain ⟨_,_,rfl,_⟩:=h; simp [leafV]
  | .fnil,cs,_,h=>by have h:cs=[.nilFunc]:=h; subst h; simp [leafV]
  | .snil,cs,_,h=>by have h:cs=[.slice none 0 0]:=h; subst h; simp [leafV]
  | .iface t v,cs,_,h=>by obtain ⟨_,rfl,_⟩:=h; simp [leafV]
  | .inil,cs,_,h=>by have h:cs=[.nilIface]:=h; subst h; simp [leafV]
  | .tuple vs,cs,hp,h=>by simp [AVal.plain] at hp
  | .any,cs,hp,h=>by simp [AVal.plain] at hp
  | .mnil,cs,_,h=>by have h:cs=[.map none]:=h; subst h; simp [leafV]
  | .mref b,cs,_,h=>by obtain ⟨_,_,rfl⟩:=h; simp [leafV]
  | .yref b,cs,_,h=>by obtain ⟨_,_,rfl⟩:=h; simp [leafV]
  | .lobj ..,cs,hp,h=>by simp [AVal.plain] at hp
  | .vrow ..,cs,hp,h=>by simp [AVal.plain] at hp
  | .vec ..,cs,_,h=>by obtain ⟨_,_,rfl,_⟩:=h; simp [leafV]
  | .vptr ..,cs,_,h=>by obtain ⟨_,_,rfl,_⟩:=h; simp [leafV]
  | .optp _,cs,_,h=>by rcases h with rfl | ⟨_,_,rfl⟩<;>simp [leafV]
  | .bsl ..,cs,_,h=>by obtain ⟨_,_,_,rfl⟩:=h; simp [leafV]
  | .siter ..,cs,hp,h=>by simp [AVal.plain] at hp
  | .pan _,cs,hp,h=>by simp [AVal.plain] at hp
  | .tbox ..,cs,hp,h=>by simp [AVal.plain] at hp
  | .mobj ..,cs,hp,h=>by simp [AVal.plain] at hp
theorem cells_of_v {G:Gh} {dead:List Nat} {a:AVal} {v:Value} (hp:a.plain=true) (h:Rv G dead a v):Rc G dead a v.cells.toList:=by
  obtain ⟨cs,hc,h | h⟩:=h
  · rw [h.2]; exact hc
  · have hl:=h.2
    subst hl
    have:=Rc.leaf hp hc v (by simp)
    cases v<;>simp [leafV] at this<;>exact hc
def boxA (x:AVal) (B:Bx):Option (AVal×Bx):=bif x.plain then some (.bptr B.box.length [],B.push x) else none
theorem boxA_sound {P:Program} {o:Oper} {ρ:Operand→AVal} {v:AVal} {t:TypeId} {x:Operand} {B B':Bx} (ho:o.op=.box t x) (h:boxA (ρ x) B=some (v,B')):OpD P o ρ B v B':=by
  intro G a w ha hw next Q hn
  have hx:=ha x (by rw [ho]; simp [Op.operands])
  unfold boxA at h
  cases hp:(ρ x).plain with
  | false=>simp [hp] at h
  | true=>
    simp only [hp,cond_true,Option.some.injEq,Prod.mk.injEq] at h
    obtain ⟨rfl,rfl⟩:=h
    obtain ⟨G',h1,h2,h3,h4⟩:=new_box (e:=t) hw (plain_notM hp) (cells_of_v hp hx)
    refine wp_of_run (v:=.pointer (some ⟨w.heap.size,0,none⟩)) (w':=w.alloc (.cells (a.eval x).cells t)) ?_ (hn _ G' _ h1 h2 h3 h4)
    simp only [execOp,ho]
    rfl
def zcells:AVal→Option (List Value)
  | .d (.int k) n=>bif decide (n=0) then some [.int k 0] else none
  | .d .bool b=>bif b then none else some [.bool false]
  | .d .str s=>bif s.data.toList.isEmpty then some [.string ⟨#[]⟩] else none
  | .d (.arr n e) xs=>none
  | .d .mapr _=>none
  | .d .opq _=>none
  | .nil=>some []
  | .cons h t=>match zcells h,zcells t with
    | some a,some b=>some (a++b)
    | _,_=>none
  | .pnil=>some [.pointer none]
  | .fnil=>some [.nilFunc]
  | .snil=>some [.slice none 0 0]
  | .inil=>some [.nilIface]
  | .mnil=>some [.map none]
  | _=>none
def eqZ:Value→Value→Bool
  | .int k 0,.int k' 0=>k==k'
  | .bool false,.bool false=>true
  | .string s,.string s'=>s.data.toList.isEmpty&&s'.data.toList.isEmpty
  | .pointer none,.pointer none=>true
  | .nilFunc,.nilFunc=>true
  | .slice none 0 0,.slice none 0 0=>true
  | .nilIface,.nilIface=>true
  | .map none,.map none=>true
  | _,_=>false
theorem bytes_empty {s:ByteArray} (h:s.data.toList.isEmpty=true):s=⟨#[]⟩:=by
  cases s with
  | mk d=>
    have:d.toList=[]:=by simpa using h
    congr 1
    exact Array.toList_inj.1 (by simpa using this)
theorem eqZ_eq {a b:Value} (h:eqZ a b=true):a=b:=by
  unfold eqZ at h
  split at h
  · simp only [beq_iff_eq] at h; subst h; rfl
  · rfl
  · simp only [Bool.and_eq_true] at h
    rw [bytes_empty h.1,bytes_empty h.2]
  all_goals first | rfl | cases h
def eqZs:List Value→List Value→Bool
  | [],[]=>true
  | a::l,b::m=>eqZ a b&&eqZs l m
  | _,_=>false
theorem eqZs_eq:{a b:List Value}→eqZs a b=true→a=b
  | [],[],_=>rfl
  | a::l,b::m,h=>by
    simp only [eqZs,Bool.and_eq_true] at h
    rw [eqZ_eq h.1,eqZs_eq h.2]
  | [],_::_,h | _::_,[],h=>by simp [eqZs] at h
theorem zcells_rc {G:Gh} {dead:List Nat}:{a:AVal}→{cs:List Value}→zcells a=some cs→Rc G dead a cs
  | .d (.int k) n,cs,h=>by
    simp only [zcells] at h
    cases hb:decide (n=0) with
    | false=>simp [hb] at h
    | true=>
      simp only [hb,cond_true,Option.some.injEq] at h
      have:n=(0:Int):=by simpa using hb
      subst this; subst h; rfl
  | .d .bool b,cs,h=>by
    cases b<;>simp [zcells] at h
    subst h; rfl
  | .d .str s,cs,h=>by
    simp only [zcells] at h
    cases hb:s.data.toList.isEmpty with
    | false=>simp [hb] at h
    | true=>
      simp only [hb,cond_true,Option.some.injEq] at h
      rw [← h,bytes_empty hb]; rfl
  | .d (.list _) _,cs,h | .d .nil _,cs,h | .d (.cons _ _) _,cs,h | .d (.arr _ _) _,cs,h | .d .mapr _,cs,h | .d .opq _,cs,h=>by simp [zcells] at h
  | .nil,cs,h=>by simp only [zcells,Option.some.injEq] at h; exact h.symm
  | .cons a t,cs,h=>by
    simp only [zcells] at h
    split at h
    · rename_i c1 c2 h1 h2
      simp only [Option.some.injEq] at h
      exact ⟨c1,c2,h.symm,zcells_rc h1,zcells_rc h2⟩
    · cases h
  | .pnil,cs,h | .fnil,cs,h | .snil,cs,h | .inil,cs,h | .mnil,cs,h=>by simp only [zcells,Option.some.injEq] at h; exact h.symm
  | .own ..,cs,h | .bptr ..,cs,h | .iptr ..,cs,h | .func ..,cs,h | .iface ..,cs,h | .tuple ..,cs,h | .any,cs,h=>by simp [zcells] at h
def repA:Nat→AVal→AVal
  | 0,_=>.nil
  | n+1,a=>.cons a (repA n a)
def zeroT (P:Program):Nat→TypeId→Option AVal
  | 0,_=>none
  | n+1,t=>match P.underlying t with
    | some .bool=>some (.d .bool false)
    | some (.int k)=>some (.d (.int k) (0:Int))
    | some .string=>some (.d .str (⟨#[]⟩:ByteArray))
    | some (.slice _)=>some .snil
    | some (.pointer _)=>some .pnil
    | some (.func _ _ _)=>some .fnil
    | some (.interface _)=>some .inil
    | some (.map _ _)=>some .mnil
    | some (.struct fs)=>fs.toList.foldr (fun f r=>match zeroT P n f.type,r with
      | some a,some b=>some (.cons a b)
      | _,_=>none) (some .nil)
    | some (.array m e)=>match zeroT P n e with
      | some a=>bif Nat.ble m 64 then some (repA m a) else none
      | none=>none
    | _=>none
def zeroV (P:Program) (t:TypeId):Option (List Value):=match P.info? t with
  | some i=>match i.zero with
    | some v=>some v.cells.toList
    | none=>none
  | none=>none
def allocA (P:Program) (t:TypeId) (B:Bx):Option (AVal×Bx):=
  match zeroT P 8 t with
  | some c=>match zcells c,zeroV P t with
    | some cs,some zs=>bif eqZs cs zs&&!c.isM then some (.bptr B.box.length [],B.push (bif BLDS.contains t then .tbox t c else c)) else none
    | _,_=>none
  | none=>none
theorem allocA_sound {P:Program} {o:Oper} {ρ:Operand→AVal} {v:AVal} {t:TypeId} {B B':Bx} (ho:o.op=.alloc t) (h:allocA P t B=some (v,B')):OpD P o ρ B v B':=by
  intro G a w ha hw next Q hn
  unfold allocA at h
  split at h
  · rename_i c hc
    split at h
    · rename_i cs zs hcs hzs
      cases he:eqZs cs zs&&!c.isM with
      | false=>simp [he] at h
      | true=>
        simp only [he,cond_true,Option.some.injEq,Prod.mk.injEq] at h
        obtain ⟨rfl,rfl⟩:=h
        simp only [Bool.and_eq_true,Bool.not_eq_true'] at he
        have hnm:=he.2
        have:=eqZs_eq he.1
        subst this
        unfold zeroV at hzs
        split at hzs
        · rename_i ti hti
          split at hzs
          · rename_i z hz
            simp only [Option.some.injEq] at hzs
            obtain ⟨G',h1,h2,h3,h4⟩:=new_box (e:=t) (cells:=z.cells) hw hnm (by rw [hzs]; exact zcells_rc hcs)
            have hz2:Rc G B.dead c z.cells.toList:=by rw [hzs]; exact zcells_rc hcs
            have key:∃ G',Rv G' B.dead (.bptr B.box.length []) (.pointer (some ⟨w.heap.size,0,none⟩))∧WOk G' (B.push (bif BLDS.contains t then .tbox t c else c)) (w.alloc (.cells z.cells t))∧GLe G B.dead G' B.dead∧Ext G w G' (w.alloc (.cells z.cells t)):=by
              cases hbt:BLDS.contains t with
              | true=>
                obtain ⟨G',k1,k2,k3,k4⟩:=new_obj (c:=.tbox t c) (o:=.cells z.cells t) (cs:=z.cells.toList) hw rfl ⟨_,rfl,rfl⟩ hz2
                exact ⟨G',leaf_v rfl ⟨_,k1,trivial,rfl⟩,k2,k3,k4⟩
              | false=>exact ⟨G',h1,h2,h3,h4⟩
            obtain ⟨G',h1,h2,h3,h4⟩:=key
            refine wp_of_run (v:=.pointer (some ⟨w.heap.size,0,none⟩)) (w':=w.alloc (.cells z.cells t)) ?_ (hn _ G' _ h1 h2 h3 h4)
            simp only [execOp,ho]
            rw [Sem.run_bind]
            unfold Instr.alloc
            rw [Sem.run_bind]
            have hzv:(zeroValue t).run P w=.ok z w:=by
              unfold zeroValue
              rw [Sem.run_bind,run_typeInfo' hti,Result.andThen_ok]
              simp only [hz]
              rfl
            rw [hzv]
            rfl
          · cases hzs
        · cases hzs
    · cases h
  · cases h
end Go.Proofs.YtkeipcalbbmncaaGreat.Abs
set_option linter.unusedVariables false
set_option linter.unusedSimpArgs false
namespace Go.Proofs.YtkeipcalbbmncaaGreat.Abs
def asData:AVal→(T:DTy)→Option T.El
  | .d T' x,T=>if h:T'=T then some (h ▸ x) else none
  | .own _ T' xs,.list T=>if h:T'=T then some (h ▸ xs) else none
  | .snil,.list T=>some []
  | .nil,.nil=>some ()
  | .nil,.arr 0 e=>some []
  | .cons a t,.cons h tl=>match asData a h,asData t tl with
    | some x,some y=>some (x,y)
    | _,_=>none
  | .cons a t,.arr (n+1) e=>match asData a e,asData t (.arr n e) with
    | some x,some xs=>some (x::xs:List e.El)
    | _,_=>none
  | .mref _,.mapr=>some ()
  | .mnil,.mapr=>some ()
  | .iface _ _,.opq=>some ()
  | .inil,.opq=>some ()
  | _,_=>none
theorem RD.arr_cons {imm:Nat→Option (List Value)} {n:Nat} {e:DTy} {x:e.El} {xs:List e.El} {c1 c2:List Value} (h1:RD imm e x c1) (h2:RD imm (.arr n e) xs c2):RD imm (.arr (n+1) e) (x::xs:List e.El) (c1++c2):=by
  have hl:=RD.len h1
  obtain ⟨a1,a2,a3⟩:=h2
  refine ⟨by simp [a1],by simp [hl,a2,Nat.add_mul]; omega,fun i y hy=>?_⟩
  cases i with
  | zero=>
    simp only [List.getElem?_cons_zero,Option.some.injEq] at hy
    subst hy
    simp [← hl,h1]
  | succ i=>
    simp only [List.getElem?_cons_succ] at hy
    have:=a3 i y hy
    have e1:(i+1)*e.sz=e.sz+i*e.sz:=by rw [Nat.add_mul,Nat.one_mul,Nat.add_comm]
    rw [e1,← List.drop_drop,← hl,List.drop_left,hl]
    exact this
theorem asData_spec {G:Gh} {dead:List Nat}:{a:AVal}→{T:DTy}→{x:T.El}→asData a T=some x→∀ cs,Rc G dead a cs→RD G.imm T x cs
  | .d T' y,T,x,e,cs,hc=>by
    simp only [asData] at e
    split at e
    · rename_i h
      subst h
      simp only [Option.some.injEq] at e
      subst e
      exact hc
    · cases e
  | .own tok T' xs,T,x,e,cs,hc=>by
    cases T with
    | list T=>
      simp only [asData] at e
      split at e
      · rename_i h
        subst h
        simp only [Option.some.injEq] at e
        subst e
        exact hc.1
      · cases e
    | _=>simp [asData] at e
  | .snil,T,x,e,cs,hc=>by
    cases T with
    | list T=>
      simp only [asData,Option.some.injEq] at e
      subst e
      have hc:cs=[.slice none 0 0]:=hc
      subst hc
      exact ⟨none,0,rfl,Nat.le_refl _,fun h=>absurd rfl h⟩
    | _=>simp [asData] at e
  | .nil,T,x,e,cs,hc=>by
    have hc:cs=[]:=hc
    subst hc
    cases T with
    | nil=>rfl
    | arr n el=>
      cases n with
      | zero=>
        simp only [asData,Option.some.injEq] at e
        subst e
        exact ⟨rfl,by simp,fun i y hy=>by simp at hy⟩
      | succ n=>simp [asData] at e
    | _=>simp [asData] at e
  | .cons a t,T,x,e,cs,hc=>by
    obtain ⟨c1,c2,rfl,h1,h2⟩:=hc
    cases T with
    | cons h tl=>
      simp only [asData] at e
      split at e
      · rename_i y z hy hz
        simp only [Option.some.injEq] at e
        subst e
        exact ⟨c1,c2,rfl,asData_spec hy _ h1,asData_spec hz _ h2⟩
      · cases e
    | arr n el=>
      cases n with
      | zero=>simp [asData] at e
      | succ n=>
        simp only [asData] at e
        split at e
        · rename_i y z hy hz
          simp only [Option.some.injEq] at e
          subst e
          exact RD.arr_cons (asData_spec hy _ h1) (asData_spec hz _ h2)
        · cases e
    | _=>simp [asData] at e
  | .mref b,T,x,e,cs,hc=>by
    cases T with
    | mapr=>obtain ⟨blk,_,rfl⟩:=hc; exact ⟨_,rfl⟩
    | _=>simp [asData] at e
  | .mnil,T,x,e,cs,hc=>by
    cases T with
    | mapr=>have hc:cs=[.map none]:=hc; subst hc; exact ⟨_,rfl⟩
    | _=>simp [asData] at e
  | .inil,T,x,e,cs,hc=>by
    cases T with
    | opq=>have hc:cs=[.nilIface]:=hc; subst hc; exact ⟨_,rfl,rfl⟩
    | _=>simp [asData] at e
  | .iface ..,T,x,e,cs,hc=>by
    cases T with
    | opq=>obtain ⟨v',rfl,_⟩:=hc; exact ⟨_,rfl,rfl⟩
    | _=>simp [asData] at e
  | .pnil,T,x,e,cs,hc | .fnil,T,x,e,cs,hc | .bptr ..,T,x,e,cs,hc | .iptr ..,T,x,e,cs,hc | .func ..,T,x,e,cs,hc | .tuple ..,T,x,e,cs,hc | .any,T,x,e,cs,hc=>by
    cases T<;>simp [asData] at e
def setC0:AVal→Nat→AVal→Option AVal
  | .d (.cons h t) x,0,v=>some (.cons v (.d t x.2))
  | .d (.cons h t) x,k+1,v=>match setC0 (.d t x.2) k v with
    | some b=>some (.cons (.d h x.1) b)
    | none=>none
  | .cons _ t,0,v=>some (.cons v t)
  | .cons h t,k+1,v=>match setC0 t k v with
    | some b=>some (.cons h b)
    | none=>none
  | _,_,_=>none
def setC:AVal→Nat→AVal→Option AVal
  | .tbox t a,k,v=>match setC0 a k v with
    | some b=>some (.tbox t b)
    | none=>none
  | a,k,v=>setC0 a k v
def putCells (cs:List Value) (o:Nat) (vs:List Value):List Value:=cs.take o++vs++cs.drop (o+vs.length)
theorem putCells_len {cs vs:List Value} {o:Nat} (h:o+vs.length≤cs.length):(putCells cs o vs).length=cs.length:=by
  simp [putCells]; omega
theorem setC0_spec {G:Gh} {dead:List Nat} {T:DTy}:{x:T.El}→{k:Nat}→{v b c:AVal}→{o:Nat}→setC0 (.d T x) k v=some b→childA (.d T x) k=some (o,c)→v.size=c.size→∀ cs vs,Rc G dead (.d T x) cs→Rc G dead v vs→Rc G dead b (putCells cs o vs):=by
  induction T with
  | cons h t _ iht=>
    intro x k v b c o hs hch hsz cs vs hc hv
    cases k with
    | zero=>
      simp only [setC0,Option.some.injEq] at hs
      subst hs
      simp only [childA,fldD,Option.some.injEq,Prod.mk.injEq] at hch
      obtain ⟨rfl,rfl⟩:=hch
      obtain ⟨c1,c2,rfl,h1,h2⟩:=hc
      have l1:=RD.len h1
      have l2:=Rc.len hv
      have l3:vs.length=c1.length:=by rw [l2,hsz,l1]; rfl
      exact ⟨vs,c2,by simp [putCells,l3],hv,h2⟩
    | succ k=>
      simp only [setC0] at hs
      split at hs
      · rename_i b1 hb1
        simp only [Option.some.injEq] at hs
        subst hs
        simp only [childA,fldD] at hch
        split at hch
        · rename_i o1 a1 h1
          simp only [Option.some.injEq,Prod.mk.injEq] at hch
          obtain ⟨rfl,rfl⟩:=hch
          obtain ⟨c1,c2,rfl,hh1,hh2⟩:=hc
          have l1:=RD.len hh1
          have:=iht (x:=x.2) (k:=k) hb1 h1 hsz c2 vs hh2 hv
          refine ⟨c1,putCells c2 o1 vs,?_,hh1,this⟩
          simp only [putCells,← l1]
          rw [List.take_append,List.drop_append,List.take_of_length_le (by omega),List.drop_eq_nil_of_le (by omega)]
          simp [Nat.add_assoc]
        · cases hch
      · cases hs
  | _=>
    intro x k v b c o hs hch
    cases k<;>simp [setC0] at hs
theorem setC0_spec' {G:Gh} {dead:List Nat}:{a:AVal}→{k:Nat}→{v b c:AVal}→{o:Nat}→setC0 a k v=some b→childA a k=some (o,c)→v.size=c.size→∀ cs vs,Rc G dead a cs→Rc G dead v vs→Rc G dead b (putCells cs o vs)
  | .d T x,k,v,b,c,o,hs,hch,hsz,cs,vs,hc,hv=>setC0_spec hs hch hsz cs vs hc hv
  | .cons h t,0,v,b,c,o,hs,hch,hsz,cs,vs,hc,hv=>by
    simp only [setC0,Option.some.injEq] at hs
    subst hs
    simp only [childA,Option.some.injEq,Prod.mk.injEq] at hch
    obtain ⟨rfl,rfl⟩:=hch
    obtain ⟨c1,c2,rfl,h1,h2⟩:=hc
    have l1:=Rc.len (a:=h) h1
    have l2:=Rc.len hv
    have l3:vs.length=c1.length:=by rw [l2,hsz,l1]
    exact ⟨vs,c2,by simp [putCells,l3],hv,h2⟩
  | .cons h t,k+1,v,b,c,o,hs,hch,hsz,cs,vs,hc,hv=>by
    simp only [setC0] at hs
    split at hs
    · rename_i b1 hb1
      simp only [Option.some.injEq] at hs
      subst hs
      simp only [childA] at hch
      split at hch
      · rename_i o1 a1 h1
        simp only [Option.some.injEq,Prod.mk.injEq] at hch
        obtain ⟨rfl,rfl⟩:=hch
        obtain ⟨c1,c2,rfl,hh1,hh2⟩:=hc
        have l1:=Rc.len (a:=h) hh1
        have:=setC0_spec' hb1 h1 hsz c2 vs hh2 hv
        refine ⟨c1,putCells c2 o1 vs,?_,hh1,this⟩
        simp only [putCells,← l1]
        rw [List.take_append,List.drop_append,List.take_of_length_le (by omega),List.drop_eq_nil_of_le (by omega)]
        simp [Nat.add_assoc]
      · cases hch
    · cases hs
  | .tbox ..,k,v,b,c,o,hs,hch,_,_,_,_,_ | .own ..,k,v,b,c,o,hs,hch,_,_,_,_,_ | .nil,k,v,b,c,o,hs,hch,_,_,_,_,_ | .pnil,k,v,b,c,o,hs,hch,_,_,_,_,_ | .bptr ..,k,v,b,c,o,hs,hch,_,_,_,_,_ | .iptr ..,k,v,b,c,o,hs,hch,_,_,_,_,_ | .func ..,k,v,b,c,o,hs,hch,_,_,_,_,_ | .fnil,k,v,b,c,o,hs,hch,_,_,_,_,_ | .snil,k,v,b,c,o,hs,hch,_,_,_,_,_ | .iface ..,k,v,b,c,o,hs,hch,_,_,_,_,_ | .inil,k,v,b,c,o,hs,hch,_,_,_,_,_ | .tuple ..,k,v,b,c,o,hs,hch,_,_,_,_,_ | .any,k,v,b,c,o,hs,hch,_,_,_,_,_=>by cases k<;>simp [setC0] at hs
theorem setC_spec' {G:Gh} {dead:List Nat} {a:AVal} {k:Nat} {v b c:AVal} {o:Nat} (hs:setC a k v=some b) (hch:childA a k=some (o,c)) (hsz:v.size=c.size) (cs vs:List Value) (hc:Rc G dead a cs) (hv:Rc G dead v vs):Rc G dead b (putCells cs o vs):=by
  cases a with
  | tbox t a=>
    simp only [setC] at hs
    split at hs
    · rename_i b1 hb1
      simp only [Option.some.injEq] at hs
      subst hs
      exact setC0_spec' (a:=a) hb1 (by simpa [childA] using hch) hsz cs vs hc hv
    · cases hs
  | _=>exact setC0_spec' (by simpa [setC] using hs) hch hsz cs vs hc hv
def setP:AVal→List PStep→AVal→Option AVal
  | a,[],v=>bif v.size==a.size then some v else none
  | a,.fld k off::p,v=>match childA a k with
    | some (o,c)=>match setP c p v with
      | some c'=>bif o==off&&c'.size==c.size then setC a k c' else none
      | none=>none
    | none=>none
  | .d (.arr m e) xs,.ix i esz n::p,v=>match setP (.d e (xs.getD i e.dflt)) p v with
    | some c'=>match asData c' e with
      | some y=>bif m==n&&e.sz==esz then some (.d (.arr m e) (xs.set i y)) else none
      | none=>none
    | none=>none
  | .cons h t,.ix i esz n::p,v=>match childA (.cons h t) i with
    | some (o,c)=>match setP c p v with
      | some c'=>bif o==i*esz&&c'.size==c.size then setC (.cons h t) i c' else none
      | none=>none
    | none=>none
  | _,.ix ..::_,_=>none
theorem putCells_putCells {cs vs:List Value} {o n o2:Nat} (h:o+n≤cs.length) (h2:o2+vs.length≤n) :
    putCells cs o (putCells ((cs.drop o).take n) o2 vs)=putCells cs (o+o2) vs:=by
  have hl:(putCells ((cs.drop o).take n) o2 vs).length=n:=by
    rw [putCells_len (by simp; omega)]; simp; omega
  unfold putCells at hl ⊢
  rw [hl]
  have e1:((cs.drop o).take n).take o2=(cs.drop o).take o2:=by rw [List.take_take,Nat.min_eq_left (by omega)]
  have e2:((cs.drop o).take n).drop (o2+vs.length)++cs.drop (o+n)=cs.drop (o+o2+vs.length):=by
    rw [List.drop_take,List.drop_drop]
    have:cs.drop (o+n)=(cs.drop (o+(o2+vs.length))).drop (n - (o2+vs.length)):=by rw [List.drop_drop]; congr 1; omega
    rw [this,List.take_append_drop]
    congr 1; omega
  have e3:cs.take (o+o2)=cs.take o++(cs.drop o).take o2:=by rw [List.take_add]
  rw [e1,e3]
  simp only [List.append_assoc]
  rw [e2]
theorem RD.arr_set {imm:Nat→Option (List Value)} {m:Nat} {e:DTy} {xs:List e.El} {cs vs:List Value} {i:Nat} {y:e.El} (h:RD imm (.arr m e) xs cs) (hi:i < m) (hy:RD imm e y vs):RD imm (.arr m e) (xs.set i y:List e.El) (putCells cs (i*e.sz) vs):=by
  obtain ⟨h1,h2,h3⟩:=h
  have hl:=RD.len hy
  have hm:=mul_room (s:=e.sz) hi
  refine ⟨by simp [h1],by rw [putCells_len (by omega)]; exact h2,fun j z hz=>?_⟩
  rw [List.getElem?_set] at hz
  by_cases hij:i=j
  · subst hij
    simp only [if_true,h1,hi,Option.some.injEq] at hz
    subst hz
    have:(putCells cs (i*e.sz) vs).drop (i*e.sz)=vs++cs.drop (i*e.sz+vs.length):=by
      unfold putCells
      rw [List.append_assoc,List.drop_append,List.drop_eq_nil_of_le (by simp; omega)]
      have:i*e.sz - (cs.take (i*e.sz)).length=0:=by simp; omega
      rw [this]
      simp
    rw [this,← hl,List.take_left]
    exact hy
  · simp only [hij,if_false] at hz
    have hz3:=h3 j z hz
    have hj:j < m:=by rw [← h1]; exact (List.getElem?_eq_some_iff.1 hz).1
    have hmj:=mul_room (s:=e.sz) hj
    have:((putCells cs (i*e.sz) vs).drop (j*e.sz)).take e.sz=(cs.drop (j*e.sz)).take e.sz:=by
      apply List.ext_getElem?
      intro q
      by_cases hq:q < e.sz
      · rw [List.getElem?_take_of_lt hq,List.getElem?_take_of_lt hq,List.getElem?_drop,List.getElem?_drop]
        unfold putCells
        rcases Nat.lt_or_gt_of_ne hij with hlt | hgt
        · have hr:=mul_room (s:=e.sz) hlt
          rw [List.append_assoc,List.getElem?_append_right (by simp; omega),List.getElem?_append_right (by simp; omega),List.getElem?_drop]
          congr 1
          simp; omega
        · have hr:=mul_room (s:=e.sz) hgt
          rw [List.append_assoc,List.getElem?_append_left (by simp; omega),List.getElem?_take_of_lt (by omega)]
      · rw [List.getElem?_eq_none (by simp; omega),List.getElem?_eq_none (by simp; omega)]
    rw [this]
    exact hz3
theorem setP_spec {G:Gh} {dead:List Nat}:{p:List PStep}→{a v b:AVal}→setP a p v=some b→okP p→∀ cs vs,Rc G dead a cs→Rc G dead v vs→offP p+vs.length≤cs.length∧Rc G dead b (putCells cs (offP p) vs)
  | [],a,v,b,e,_,cs,vs,hc,hv=>by
    simp only [setP] at e
    cases hb:v.size==a.size with
    | false=>simp [hb] at e
    | true=>
      simp only [hb,cond_true,Option.some.injEq] at e
      subst e
      have h1:v.size=a.size:=by simpa using hb
      have l1:=Rc.len hc
      have l2:=Rc.len hv
      have l3:vs.length=cs.length:=by omega
      refine ⟨by simp [offP,l3],?_⟩
      have:putCells cs (offP []) vs=vs:=by simp [putCells,offP,l3]
      rw [this]
      exact hv
  | .fld k off::p,a,v,b,e,hp,cs,vs,hc,hv=>by
    simp only [setP] at e
    split at e
    · rename_i o c hch
      split at e
      · rename_i c' hc'
        cases hb:o==off&&c'.size==c.size with
        | false=>simp [hb] at e
        | true=>
          simp only [hb,cond_true] at e
          simp only [Bool.and_eq_true,beq_iff_eq] at hb
          obtain ⟨rfl,hsz⟩:=hb
          obtain ⟨hle,hr⟩:=childA_spec hch cs hc
          obtain ⟨hle2,hr2⟩:=setP_spec hc' hp _ vs hr hv
          have hl:=Rc.len hr
          have:=setC_spec' e hch hsz cs _ hc hr2
          rw [putCells_putCells hle (by rw [← hl]; exact hle2)] at this
          rw [hl] at hle2
          refine ⟨by simp only [offP,PStep.off]; omega,this⟩
      · cases e
    · cases e
  | .ix i esz n::p,a,v,b,e,hp,cs,vs,hc,hv=>by
    cases a with
    | d T x=>
      cases T with
      | arr m el=>
        simp only [setP] at e
        split at e
        · rename_i c' hc'
          split at e
          · rename_i y hy
            cases hb:m==n&&el.sz==esz with
            | false=>simp [hb] at e
            | true=>
              simp only [hb,cond_true,Option.some.injEq] at e
              subst e
              simp only [Bool.and_eq_true,beq_iff_eq] at hb
              obtain ⟨rfl,rfl⟩:=hb
              have hi:i < m:=hp.1
              have hcc:=hc
              obtain ⟨hxl,hcl,hx⟩:=hc
              have hr:Rc G dead (.d el (x.getD i el.dflt)) ((cs.drop (i*el.sz)).take el.sz):=hx i _ (getD_some (by rw [hxl]; exact hi))
              obtain ⟨hle2,hr2⟩:=setP_spec hc' hp.2 _ vs hr hv
              have hl:((cs.drop (i*el.sz)).take el.sz).length=el.sz:=Rc.len hr
              have hrd:=asData_spec hy _ hr2
              have hm:=mul_room (s:=el.sz) hi
              have:=RD.arr_set (imm:=G.imm) hcc hi hrd
              rw [putCells_putCells (by omega) (by rw [← hl]; exact hle2)] at this
              rw [hl] at hle2
              refine ⟨by simp only [offP,PStep.off]; omega,this⟩
          · cases e
        · cases e
      | _=>simp [setP] at e
    | cons h t=>
      simp only [setP] at e
      split at e
      · rename_i o c hch
        split at e
        · rename_i c' hc'
          cases hb:o==i*esz&&c'.size==c.size with
          | false=>simp [hb] at e
          | true=>
            simp only [hb,cond_true] at e
            simp only [Bool.and_eq_true,beq_iff_eq] at hb
            obtain ⟨rfl,hsz⟩:=hb
            obtain ⟨hle,hr⟩:=childA_spec hch cs hc
            obtain ⟨hle2,hr2⟩:=setP_spec hc' hp.2 _ vs hr hv
            have hl:=Rc.len hr
            have:=setC_spec' e hch hsz cs _ hc hr2
            rw [putCells_putCells hle (by rw [← hl]; exact hle2)] at this
            rw [hl] at hle2
            refine ⟨by simp only [offP,PStep.off]; omega,this⟩
        · cases e
      · cases e
    | _=>simp [setP] at e
end Go.Proofs.YtkeipcalbbmncaaGreat.Abs
set_option linter.unusedVariables false
set_option linter.unusedSimpArgs false
namespace Go.Proofs.YtkeipcalbbmncaaGreat.Abs
def putRow (w:World) (b:Nat) (cells:Array Value) (e:TypeId):World:={ w with heap:=w.heap.setIfInBounds b (.cells cells e (0,0)) }
theorem putRow_size (w:World) (b:Nat) (cells:Array Value) (e:TypeId):(putRow w b cells e).heap.size=w.heap.size:=by simp [putRow]
theorem putRow_same {w:World} {b:Nat} {cells:Array Value} {e:TypeId} (h:b < w.heap.size):(putRow w b cells e).heap[b]?=some (.cells cells e (0,0)):=by
  simp [putRow,h]
theorem putRow_other {w:World} {b c:Nat} {cells:Array Value} {e:TypeId} (h:b≠c):(putRow w b cells e).heap[c]?=w.heap[c]?:=by
  simp [putRow,Array.getElem?_setIfInBounds,h]
theorem putRow_putRow {w:World} {b:Nat} {c1 c2:Array Value} {e:TypeId}:putRow (putRow w b c1 e) b c2 e=putRow w b c2 e:=by
  simp [putRow]
theorem setCell_putRow {w:World} {b o:Nat} {cells:Array Value} {e:TypeId} {v:Value} (h:w.heap[b]?=some (.cells cells e (0,0))):w.setCell ⟨b,o,none⟩ v=putRow w b (cells.setIfInBounds o v) e:=by
  obtain ⟨hb,he⟩:=Array.getElem?_eq_some_iff.1 h
  unfold World.setCell putRow
  congr 1
  apply Array.ext
  · simp
  · intro i h1 h2
    simp only [Array.getElem_modify,Array.getElem_setIfInBounds]
    by_cases hi:b=i
    · subst hi
      simp [he]
    · rw [if_neg hi]
      exact (Array.getElem_setIfInBounds_ne (by simpa using h1) hi).symm
theorem run_store1 {P:Program} {w:World} {b o:Nat} {cells:Array Value} {e:TypeId} {v:Value} (h:w.heap[b]?=some (.cells cells e (0,0))) (ho:o < cells.size) (hv:leafV v=true) :
    (store ⟨b,o,none⟩ v).run P w=.ok () (putRow w b (cells.setIfInBounds o v) e):=by
  have hc:w.cell? ⟨b,o,none⟩=some cells[o]:=by rw [cell_of_heap h]; exact Array.getElem?_eq_getElem ho
  have hf:w.frozen? ⟨b,o,none⟩=false:=by simp [World.frozen?,h]
  have hs:=setCell_putRow (o:=o) (v:=v) h
  unfold store
  cases v<;>simp [leafV] at hv<;>simp [Sem.run,hc,hf,hs]
theorem setIf_put {cells:Array Value} {o:Nat} {v:Value} (h:o < cells.size):(cells.setIfInBounds o v).toList=putCells cells.toList o [v]:=by
  have hl:o < cells.toList.length:=by simpa using h
  simp only [Array.toList_setIfInBounds,putCells,List.length_singleton]
  rw [List.set_eq_take_append_cons_drop]
  simp [hl]
  omega
theorem putCells_snoc {cs vs:List Value} {o:Nat} {v:Value} (h:o+1+vs.length≤cs.length):putCells (putCells cs o [v]) (o+1) vs=putCells cs o (v::vs):=by
  unfold putCells
  have h1:(cs.take o++[v]++cs.drop (o+[v].length)).take (o+1)=cs.take o++[v]:=by
    rw [List.take_append_of_le_length (by simp; omega),List.take_of_length_le (by simp; omega)]
  have h2:(cs.take o++[v]++cs.drop (o+[v].length)).drop (o+1+vs.length)=cs.drop (o+(v::vs).length):=by
    rw [List.drop_append,List.drop_eq_nil_of_le (by simp; omega),List.nil_append,List.drop_drop]
    congr 1
    simp; omega
  rw [h1,h2]
  simp
theorem run_storeCells {P:Program} {b off:Nat} {e:TypeId}:∀ (vs:List Value) (i:Nat) (w:World) (cells:Array Value),w.heap[b]?=some (.cells cells e (0,0))→off+i+vs.length≤cells.size→(∀ v∈vs,leafV v=true)→
    (storeCells ⟨b,off,none⟩ vs i).run P w=.ok () (putRow w b (putCells cells.toList (off+i) vs).toArray e)
  | [],i,w,cells,h,hl,hv=>by
    have:putRow w b (putCells cells.toList (off+i) []).toArray e=w:=by
      obtain ⟨hb,he⟩:=Array.getElem?_eq_some_iff.1 h
      unfold putRow
      have e1:(putCells cells.toList (off+i) []).toArray=cells:=by simp [putCells]
      rw [e1,← he]
      have:w.heap.setIfInBounds b w.heap[b]=w.heap:=by
        apply Array.ext
        · simp
        · intro j h1 h2
          rw [Array.getElem_setIfInBounds h2]
          split
          · subst_vars; rfl
          · rfl
      rw [this]
    rw [this]
    rfl
  | v::vs,i,w,cells,h,hl,hv=>by
    simp only [List.length_cons] at hl
    unfold storeCells
    rw [Sem.run_bind,addr_add,run_store1 h (by omega) (hv v (by simp)),Result.andThen_ok]
    have hb:b < w.heap.size:=heap_lt h
    rw [run_storeCells vs (i+1) _ _ (putRow_same hb) (by simp; omega) (fun u hu=>hv u (by simp [hu]))]
    rw [putRow_putRow,setIf_put (by omega),← Nat.add_assoc off i 1,putCells_snoc (by simp; omega)]
def storeA (P:Program) (t:TypeId) (x v:AVal) (B:Bx):Option Bx:=
  match x with
  | .bptr b p=>match B.box[b]? with
    | some c=>match szT P t with
      | some n=>bif v.plain&&n==v.size then match setP c p v with
        | some c'=>bif sameK c c' then some { B with box:=B.box.set b c' } else none
        | none=>none else none
      | none=>none
    | none=>none
  | _=>none
def putO (w:World) (b:Nat) (o:Obj):World:={ w with heap:=w.heap.setIfInBounds b o }
theorem putO_same {w:World} {b:Nat} {o:Obj} (h:b < w.heap.size):(putO w b o).heap[b]?=some o:=by simp [putO,h]
theorem putO_other {w:World} {b c:Nat} {o:Obj} (h:b≠c):(putO w b o).heap[c]?=w.heap[c]?:=by simp [putO,Array.getElem?_setIfInBounds,h]
theorem upd_obj {G:Gh} {B:Bx} {w:World} {i blk:Nat} {c c':AVal} {o o':Obj} {cs:List Value} (hw:WOk G B w) (hi:G.addr[i]?=some blk) (hc:B.box[i]?=some c) (hv:c.isV=false) (hv':c'.isV=false) (hh:w.heap[blk]?=some o) (hm:Holds c'.knd cs o')
    (hr:Rc G B.dead c' cs):WOk G { B with box:=B.box.set i c' } (putO w blk o')∧Ext G w G (putO w blk o'):=by
  have hmem:blk∈G.addr:=List.mem_of_getElem? hi
  have hlt:=heap_lt hh
  have other:∀ b row,G.imm b=some row→b≠blk:=fun b row hb he=>by
    subst he
    rw [hw.disj b hmem] at hb
    cases hb
  have ne_own:∀ t b n,G.own t=some (b,n)→b≠blk:=fun t b n ht he=>by
    subst he
    exact hw.own_box ht hi hc hv
  have hext:Ext G w G (putO w blk o'):=⟨rfl,rfl,rfl,by simp [putO],fun b hb ha _=>putO_other (fun he=>ha (he ▸ hmem)),ImmLe.refl _,fun _ _ _=>rfl,fun _ h=>.inl h,fun t b n h=>.inl ⟨t,h⟩⟩
  refine ⟨⟨by simp [hw.len],hw.nodup,fun j b d hb hd=>?_,fun b row hb=>?_,hw.disj,fun t b n ht=>?_,hw.inj,hw.tab.ext hext,?_⟩,hext⟩
  · simp only [List.getElem?_set] at hd
    by_cases hij:i=j
    · subst hij
      have hb':b=blk:=by rw [hi] at hb; exact (Option.some.inj hb).symm
      have hil:i < B.box.length:=(List.getElem?_eq_some_iff.1 hc).1
      simp only [if_true,hil,Option.some.injEq] at hd
      subst hd; subst hb'
      exact ⟨o',cs,putO_same hlt,hm,hr⟩
    · simp only [hij,if_false] at hd
      have hne:b≠blk:=fun he=>by
        subst he
        have h3:=(List.getElem?_eq_some_iff.1 hi)
        have h4:=(List.getElem?_eq_some_iff.1 hb)
        obtain ⟨l3,e3⟩:=h3
        obtain ⟨l4,e4⟩:=h4
        exact hij ((List.getElem_inj hw.nodup).mp (e3.trans e4.symm))
      exact (hw.boxes j b d hb hd).mono (GLe.refl _ _) (putO_other (Ne.symm hne))
  · obtain ⟨cs,e',fr,h1,h2⟩:=hw.imm b row hb
    exact ⟨cs,e',fr,by rw [putO_other (Ne.symm (other b row hb))]; exact h1,h2⟩
  · obtain ⟨h1,h2,cs,e',h3,h4⟩:=hw.own t b n ht
    refine ⟨h1,h2.of rfl fun j d k1 k2=>?_,cs,e',by rw [putO_other (Ne.symm (ne_own t b n ht))]; exact h3,h4⟩
    simp only [List.getElem?_set] at k2
    by_cases hij:i=j
    · subst hij
      rw [hi] at k1
      exact absurd (Option.some.inj k1).symm (ne_own t b n ht)
    · simp only [hij,if_false] at k2
      exact .inr ⟨j,d,k1,k2,fun h=>h⟩
  · refine hw.vec.mono (fun j t T xs hx=>?_) (fun t h=>.inl h) (fun t b n _ h1 h2=>⟨h1,h2,putO_other (Ne.symm (ne_own t b n h1))⟩) (ImmLe.refl _)
    simp only [List.getElem?_set] at hx
    by_cases hij:i=j
    · subst hij
      have hil:i < B.box.length:=(List.getElem?_eq_some_iff.1 hc).1
      simp only [if_true,hil,Option.some.injEq] at hx
      rw [hx] at hv'
      cases hv'
    · simpa only [hij,if_false] using hx
theorem upd_box {G:Gh} {B:Bx} {w:World} {i blk:Nat} {c c':AVal} {cells cells':Array Value} {e:TypeId} (hw:WOk G B w) (hi:G.addr[i]?=some blk) (hc:B.box[i]?=some c) (hcm:sameK c c'=true) (hh:w.heap[blk]?=some (.cells cells e (0,0)))
    (hr:Rc G B.dead c' cells'.toList):WOk G { B with box:=B.box.set i c' } (putRow w blk cells' e)∧Ext G w G (putRow w blk cells' e):=
  upd_obj (o':=.cells cells' e) hw hi hc (isC_V (sameK_C hcm)) (sameK_V hcm) hh (by
    have main:c'.isM=false→Holds c'.knd cells'.toList (.cells cells' e):=fun hm=>by rw [knd_cells hm]; exact ⟨cells',e,rfl,rfl⟩
    cases c' with
    | tbox t' a'=>
      cases c with
      | tbox t a=>
        have:t=t':=by simpa [sameK] using hcm
        subst this
        obtain ⟨o,cs,h1,⟨cells2,rfl,_⟩,_⟩:=hw.boxes i blk _ hi hc
        rw [hh] at h1
        simp only [Option.some.injEq,Obj.cells.injEq] at h1
        obtain ⟨_,rfl,_⟩:=h1
        exact ⟨cells',rfl,rfl⟩
      | _=>simp [sameK,AVal.isM] at hcm
    | _=>exact main (by cases c<;>simp_all [sameK,AVal.isM])) hr
theorem storeA_sound {P:Program} {o:Oper} {ρ:Operand→AVal} {t:TypeId} {x y:Operand} {B B':Bx} (ho:o.op=.store t x y) (h:storeA P t (ρ x) (ρ y) B=some B'):OpD P o ρ B .any B':=by
  intro G a w ha hw next Q hn
  have hx:=ha x (by rw [ho]; simp [Op.operands])
  have hy:=ha y (by rw [ho]; simp [Op.operands])
  unfold storeA at h
  split at h
  · rename_i bb p hbp
    split at h
    · rename_i c hc
      split at h
      · rename_i n hn2
        cases hb:(ρ y).plain&&n==(ρ y).size with
        | false=>simp [hb] at h
        | true=>
          simp only [hb,cond_true] at h
          simp only [Bool.and_eq_true,beq_iff_eq] at hb
          split at h
          · rename_i c' hc'
            cases hm':sameK c c' with
            | false=>rw [hm'] at h; cases h
            | true=>
            have hcm:=sameK_C hm'
            simp only [hm',cond_true,Option.some.injEq] at h
            subst h
            obtain ⟨ti,hti,hsz⟩:=szT_spec hn2
            rw [hbp] at hx
            obtain ⟨blk,hblk,hp,hv⟩:=ptr_form hx
            obtain ⟨cells,e,hheap,hrc⟩:=(hw.boxes bb blk c hblk hc).cells hcm
            have hvc:=cells_of_v hb.1 hy
            obtain ⟨hle,hr⟩:=setP_spec hc' hp _ _ hrc hvc
            obtain ⟨h1,h2⟩:=upd_box (cells':=(putCells cells.toList (offP p) (a.eval y).cells.toList).toArray) hw hblk hc hm' hheap (by simpa using hr)
            have hrun:(execOp a.eval o).run P w=.ok .skip (putRow w blk (putCells cells.toList (offP p) (a.eval y).cells.toList).toArray e):=by
              simp only [execOp,ho,hv]
              rw [Sem.run_bind]
              unfold Instr.storeAt
              simp only [Instr.sureAddr,Sem.run_bind,Sem.run_pure,Result.andThen_ok]
              unfold storeVar
              rw [Sem.run_bind,run_sizeOf' hti,Result.andThen_ok]
              have hl:=Rc.len hvc
              have:¬ (a.eval y).cells.size≠ti.size:=by
                simp only [Array.length_toList] at hl
                rw [hsz,hb.2,hl]; simp
              rw [if_neg this]
              have hs:=run_storeCells (P:=P) (b:=blk) (off:=offP p) (e:=e) (a.eval y).cells.toList 0 w cells hheap (by simpa using hle) (Rc.leaf hb.1 hvc)
              simp only [Nat.add_zero] at hs
              simp only [Sem.run_pure,Sem.run_bind,Result.andThen_ok,pure_bind,hs]
            exact wp_of_skip hrun (hn undef G _ (any_v _) h1 (GLe.refl _ _) h2)
          · cases h
      · cases h
    · cases h
  · cases h
end Go.Proofs.YtkeipcalbbmncaaGreat.Abs
set_option linter.unusedVariables false
set_option linter.unusedSimpArgs false
namespace Go.Proofs.YtkeipcalbbmncaaGreat.Abs
def Bx.row (B:Bx) (kill:List Nat):Bx:={ B with dead:=kill++B.dead,nt:=B.nt+1 }
def noVec (B:Bx) (k:List Nat):Bool:=B.box.all fun c=>match c with
  | .vrow t _ _=>!k.contains t
  | _=>true
theorem noVec_spec {B:Bx} {k:List Nat} (h:noVec B k=true) {i t:Nat} {T:DTy} {xs:List T.El} (hx:B.box[i]?=some (.vrow t T xs)):t ∉ k:=fun hm=>by
  have:=List.all_eq_true.1 h _ (List.mem_of_getElem? hx)
  simp only [Bool.not_eq_true'] at this
  rw [List.contains_iff_mem.2 hm] at this
  cases this
theorem dropOwn {G:Gh} {B:Bx} {w:World} (hw:WOk G B w) (kill:List Nat) (hk:noVec B kill=true):WOk { G with own:=fun t=>if t∈kill then none else G.own t } { B with dead:=kill++B.dead } w∧GLe G B.dead { G with own:=fun t=>if t∈kill then none else G.own t } (kill++B.dead)∧Ext G w { G with own:=fun t=>if t∈kill then none else G.own t } w:=by
  have hle:GLe G B.dead { G with own:=fun t=>if t∈kill then none else G.own t } (kill++B.dead):=⟨ImmLe.refl _,List.prefix_refl _,fun t h=>List.mem_append_right _ h,fun t b n ht h1=>⟨by simp only; rw [if_neg (fun h=>ht (List.mem_append_left _ h))]; exact h1,fun _ h2=>h2⟩⟩
  have inv:∀ t b n,(if t∈kill then none else G.own t)=some (b,n)→G.own t=some (b,n):=fun t b n h=>by
    split at h
    · cases h
    · exact h
  have hext:Ext G w { G with own:=fun t=>if t∈kill then none else G.own t } w:=⟨rfl,rfl,rfl,Nat.le_refl _,fun _ _ _ _=>rfl,ImmLe.refl _,fun _ _ _=>rfl,fun _ h=>.inl h,fun t b n h=>.inl ⟨t,inv t b n h⟩⟩
  refine ⟨⟨hw.len,hw.nodup,fun i b c hb hc=>(hw.boxes i b c hb hc).mono hle rfl,hw.imm,hw.disj,fun t b n ht=>hw.own t b n (inv t b n ht),fun t t' b n n' h h'=>hw.inj t t' b n n' (inv _ _ _ h) (inv _ _ _ h'),hw.tab.ext hext,?_⟩,hle,hext⟩
  intro i t T xs hx
  obtain ⟨h1,hu,blk,n,cells,e,h2,h3,h4,h5,h6,h7⟩:=hw.vec i t T xs hx
  have hnk:t ∉ kill:=noVec_spec hk hx
  exact ⟨fun hm=>(List.mem_append.1 hm).elim hnk h1,hu,blk,n,cells,e,by simp only; rw [if_neg hnk]; exact h2,h3,h4,h5,h6,h7⟩
theorem RD.u8 {imm:Nat→Option (List Value)} {v:Int}:{T:DTy}→{x:T.El}→{cs:List Value}→RD imm T x cs→cs[0]?=some (.int .u8 v)→u8F T=true
  | .int k,n,cs,h,h0=>by
    have h:cs=[.int k n]:=h
    subst h
    simp at h0
    obtain ⟨rfl,_⟩:=h0
    rfl
  | .bool,n,cs,h,h0=>by have h:cs=[.bool n]:=h; subst h; simp at h0
  | .str,n,cs,h,h0=>by have h:cs=[.string n]:=h; subst h; simp at h0
  | .nil,n,cs,h,h0=>by have h:cs=[]:=h; subst h; simp at h0
  | .opq,n,cs,h,h0=>by
    obtain ⟨o,rfl,ho⟩:=h
    simp only [List.getElem?_cons_zero,Option.some.injEq] at h0
    subst h0
    simp [opqV] at ho
  | .list e,n,cs,h,h0=>by obtain ⟨A,cap,rfl,_⟩:=h; simp at h0
  | .cons a t,x,cs,h,h0=>by
    obtain ⟨c1,c2,rfl,h1,h2⟩:=h
    have hl:=RD.len h1
    simp only [u8F]
    cases hz:a.sz==0 with
    | true=>
      have:c1=[]:=List.length_eq_zero_iff.1 (by rw [hl]; simpa using hz)
      subst this
      exact RD.u8 h2 (by simpa using h0)
    | false=>
      have hz':a.sz≠0:=by simpa using hz
      rw [List.getElem?_append_left (by omega)] at h0
      exact RD.u8 h1 h0
  | .arr n e,xs,cs,h,h0=>by
    obtain ⟨h1,h2,h3⟩:=h
    have hpos:0 < cs.length:=(List.getElem?_eq_some_iff.1 h0).1
    have hn:0 < n:=Nat.pos_of_ne_zero fun h=>by rw [h2,h,Nat.zero_mul] at hpos; omega
    have he:0 < e.sz:=Nat.pos_of_ne_zero fun h=>by rw [h2,h,Nat.mul_zero] at hpos; omega
    have hx:xs[0]?=some (xs[0]'(by omega)):=List.getElem?_eq_getElem _
    have:=RD.u8 (T:=e) (v:=v) (h3 0 _ hx) (by rw [Nat.zero_mul,List.drop_zero,List.getElem?_take_of_lt he]; exact h0)
    exact this
theorem row_u8 {imm:Nat→Option (List Value)} {T:DTy} {xs:List T.El} {row:List Value} (hl:row.length=xs.length*T.sz) (hx:∀ (i:Nat) (x:T.El),xs[i]?=some x→RD imm T x ((row.drop (i*T.sz)).take T.sz)) {v:Int} (h0:row[0]?=some (.int .u8 v)):u8F T=true:=by
  have hpos:0 < row.length:=(List.getElem?_eq_some_iff.1 h0).1
  have hn:0 < xs.length:=Nat.pos_of_ne_zero fun h=>by rw [hl,h,Nat.zero_mul] at hpos; omega
  have he:0 < T.sz:=Nat.pos_of_ne_zero fun h=>by rw [hl,h,Nat.mul_zero] at hpos; omega
  refine RD.u8 (hx 0 _ (List.getElem?_eq_getElem hn)) (v:=v) ?_
  rw [Nat.zero_mul,List.drop_zero,List.getElem?_take_of_lt he]
  exact h0
theorem new_row {G:Gh} {B:Bx} {w:World} {T:DTy} {xs:List T.El} {row:List Value} {cells:Array Value} {e:TypeId} {cap:Nat} (hw:WOk G B w) (hp:row <+: cells.toList) (hsz:cells.size=cap*T.sz) (hl:row.length=xs.length*T.sz) (hcap:xs.length≤cap) (hby:u8F T=true→e=BYTE) (hne:xs=[]→cap=0)
    (hx:∀ (i:Nat) (x:T.El),xs[i]?=some x→RD G.imm T x ((row.drop (i*T.sz)).take T.sz)) :
    ∃ G',Rv G' B.dead (.own B.nt T xs) (.slice (some ⟨w.heap.size,0,none⟩) xs.length cap)∧WOk G' { B with nt:=B.nt+1 } (w.alloc (.cells cells e))∧GLe G B.dead G' B.dead∧Ext G w G' (w.alloc (.cells cells e)):=by
  have hno:G.imm w.heap.size=none:=by
    cases hi:G.imm w.heap.size with
    | none=>rfl
    | some row=>have:=hw.imm_lt hi; omega
  have hnt:G.own B.nt=none:=by
    cases hi:G.own B.nt with
    | none=>rfl
    | some p=>have:=(hw.own B.nt p.1 p.2 hi).1; omega
  let G':Gh:={ G with imm:=fun b=>if b=w.heap.size then some row else G.imm b,own:=fun t=>if t=B.nt then some (w.heap.size,cells.size) else G.own t }
  have himm:ImmLe G.imm G'.imm:=fun b r hb=>by
    refine ⟨r,?_,List.prefix_refl _⟩
    show (if b=w.heap.size then some row else G.imm b)=some r
    rw [if_neg (fun h=>by subst h; rw [hno] at hb; cases hb)]
    exact hb
  have hle:GLe G B.dead G' B.dead:=by
    refine ⟨himm,List.prefix_refl _,fun _ h=>h,fun t b n ht h1=>⟨?_,fun r h2=>?_⟩⟩
    · show (if t=B.nt then some (w.heap.size,cells.size) else G.own t)=_
      rw [if_neg (fun h=>by subst h; rw [hnt] at h1; cases h1)]
      exact h1
    · show (if b=w.heap.size then some row else G.imm b)=some r
      rw [if_neg (fun h=>by subst h; rw [hno] at h2; cases h2)]
      exact h2
  have hself:G'.imm w.heap.size=some row:=by simp [G']
  have hext:Ext G w G' (w.alloc (.cells cells e)):=by
    refine ⟨rfl,rfl,rfl,by simp,fun b hb _ _=>heap_push_lt hb,himm,fun b hb _=>?_,fun _ h=>.inl h,fun t b n ht=>?_⟩
    · show (if b=w.heap.size then some row else G.imm b)=G.imm b
      rw [if_neg (by omega)]
    · have ht':(if t=B.nt then some (w.heap.size,cells.size) else G.own t)=some (b,n):=ht
      by_cases htn:t=B.nt
      · rw [if_pos htn] at ht'
        simp only [Option.some.injEq,Prod.mk.injEq] at ht'
        exact .inr (by omega)
      · rw [if_neg htn] at ht'
        exact .inl ⟨t,ht'⟩
  refine ⟨G',?_,?_,hle,hext⟩
  · refine leaf_v rfl ⟨?_,some ⟨w.heap.size,0,none⟩,cap,rfl,.inr (.inr ⟨w.heap.size,0,row,rfl,by simp [G',hsz],hself,by rw [hl,Nat.zero_add],fun _ h=>.inl (hne h)⟩)⟩
    exact ⟨_,cap,rfl,hcap,fun _=>⟨w.heap.size,0,row,rfl,hself,by omega,fun i x hi=>by rw [Nat.zero_add]; exact (hx i x hi).mono himm⟩⟩
  · refine ⟨hw.len,hw.nodup,fun i b c hb hc=>?_,fun b r hb=>?_,fun b hb=>?_,fun t b n ht=>?_,fun t t' b n n' h h'=>?_,hw.tab.ext hext,?_⟩
    · have hbo:=hw.boxes i b c hb hc
      obtain ⟨_,_,hh,_⟩:=id hbo
      exact hbo.mono hle (heap_push_lt (heap_lt hh))
    · by_cases hbs:b=w.heap.size
      · subst hbs
        rw [hself] at hb
        cases hb
        exact ⟨cells,e,(0,0),heap_push_eq,hp⟩
      · have hb':G.imm b=some r:=by
          have:(if b=w.heap.size then some row else G.imm b)=some r:=hb
          rwa [if_neg hbs] at this
        obtain ⟨cs,e',fr,hh,hpp⟩:=hw.imm b r hb'
        exact ⟨cs,e',fr,by rw [heap_push_lt (heap_lt hh)]; exact hh,hpp⟩
    · have:=hw.addr_lt hb
      show (if b=w.heap.size then some row else G.imm b)=none
      rw [if_neg (by omega)]
      exact hw.disj b hb
    · have ht':(if t=B.nt then some (w.heap.size,cells.size) else G.own t)=some (b,n):=ht
      by_cases htn:t=B.nt
      · rw [if_pos htn] at ht'
        simp only [Option.some.injEq,Prod.mk.injEq] at ht'
        obtain ⟨rfl,rfl⟩:=ht'
        exact ⟨by subst htn; exact Nat.lt_succ_self _,.inl ⟨row,hself⟩,cells,e,heap_push_eq,rfl,fun r x hr h0=>by
          rw [hself] at hr
          cases hr
          exact hby (row_u8 hl hx h0)⟩
      · rw [if_neg htn] at ht'
        obtain ⟨h1,h2,cs,e',hh,hs⟩:=hw.own t b n ht'
        have hlt:=heap_lt hh
        exact ⟨Nat.lt_succ_of_lt h1,h2.of (by show (if b=w.heap.size then some row else G.imm b)=G.imm b; rw [if_neg (by omega)]) fun i c k1 k2=>.inr ⟨i,c,k1,k2,fun h=>h⟩,cs,e',by rw [heap_push_lt hlt]; exact hh,hs.1,by show ByR (if b=w.heap.size then some row else G.imm b) e'; rw [if_neg (by omega)]; exact hs.2⟩
    · have h1:(if t=B.nt then some (w.heap.size,cells.size) else G.own t)=some (b,n):=h
      have h2:(if t'=B.nt then some (w.heap.size,cells.size) else G.own t')=some (b,n'):=h'
      have lt:∀ t b n,G.own t=some (b,n)→b < w.heap.size:=fun t b n ho=>by
        obtain ⟨_,_,cs,e',hh,_⟩:=hw.own t b n ho
        exact heap_lt hh
      by_cases a1:t=B.nt<;>by_cases a2:t'=B.nt
      · rw [a1,a2]
      · rw [if_pos a1] at h1; rw [if_neg a2] at h2
        simp only [Option.some.injEq,Prod.mk.injEq] at h1
        have:=lt _ _ _ h2; omega
      · rw [if_neg a1] at h1; rw [if_pos a2] at h2
        simp only [Option.some.injEq,Prod.mk.injEq] at h2
        have:=lt _ _ _ h1; omega
      · rw [if_neg a1] at h1; rw [if_neg a2] at h2
        exact hw.inj t t' b n n' h1 h2
    · refine hw.vec.mono (fun i t T xs hx=>hx) (fun t h=>.inl h) (fun t b n _ h1 h2=>?_) himm
      obtain ⟨_,_,cs,e',hh,_⟩:=hw.own t b n h1
      have hlt:=heap_lt hh
      refine ⟨?_,?_,heap_push_lt hlt⟩
      · show (if t=B.nt then some (w.heap.size,cells.size) else G.own t)=_
        rw [if_neg (fun h=>by subst h; rw [hnt] at h1; cases h1)]
        exact h1
      · show (if b=w.heap.size then some row else G.imm b)=none
        rw [if_neg (by omega)]
        exact h2
theorem foldl_put {off:Nat}:∀ (vs:List Value) (k:Nat) (cells:Array Value),off+k+vs.length≤cells.size→
    (List.foldl (fun (cs:Array Value) (p:Value×Nat)=>cs.setIfInBounds (off+p.2) p.1) cells (vs.zipIdx k)).toList=putCells cells.toList (off+k) vs
  | [],k,cells,h=>by simp [putCells]
  | v::vs,k,cells,h=>by
    simp only [List.length_cons] at h
    rw [List.zipIdx_cons,List.foldl_cons,foldl_put vs (k+1) _ (by simp; omega),setIf_put (by omega),← Nat.add_assoc off k 1,putCells_snoc (by simp; omega)]
theorem fill_seq {size:Nat}:∀ (vs:List Value) (j:Nat) (cells:Array Value),(∀ v∈vs,v.cells.size=size)→(j+vs.length)*size=cells.size→
    ∃ out,Instr.fill (fun i=>some (i*size,size)) cells ((vs.zipIdx j).map fun p=>(p.2,p.1))=some out∧out.toList=cells.toList.take (j*size)++(vs.map fun v=>v.cells.toList).flatten
  | [],j,cells,hv,hl=>by
    refine ⟨cells,rfl,?_⟩
    simp only [List.length_nil,Nat.add_zero] at hl
    simp [List.take_of_length_le,hl]
  | v::vs,j,cells,hv,hl=>by
    have hvs:=hv v (by simp)
    have hlen:(j+1+vs.length)*size=cells.size:=by rw [← hl]; congr 1; simp; omega
    have hroom:j*size+size≤cells.size:=by
      rw [← hlen]
      have:j*size+size=(j+1)*size:=by rw [Nat.add_mul,Nat.one_mul]
      rw [this]
      exact Nat.mul_le_mul_right _ (by omega)
    simp only [List.zipIdx_cons,List.map_cons,Instr.fill]
    have hc:¬ (v.cells.size≠size∨j*size+v.cells.size > cells.size):=by rw [hvs]; omega
    have hc':(decide (v.cells.size≠size)||decide (j*size+v.cells.size > cells.size))=false:=by simpa using hc
    have hput:(Array.foldl (fun (cs:Array Value) (x:Value×Nat)=>match x with | (c,k)=>cs.setIfInBounds (j*size+k) c) cells v.cells.zipIdx).toList=putCells cells.toList (j*size) v.cells.toList:=by
      have:=foldl_put (off:=j*size) v.cells.toList 0 cells (by simp [hvs]; omega)
      rw [← Array.foldl_toList,Array.toList_zipIdx]
      simpa using this
    generalize hg:Array.foldl (fun (cs:Array Value) (x:Value×Nat)=>match x with | (c,k)=>cs.setIfInBounds (j*size+k) c) cells v.cells.zipIdx=mid at hput
    have hms:mid.size=cells.size:=by
      rw [← Array.length_toList,hput,putCells_len (by simp [hvs]; omega)]; simp
    obtain ⟨out,h1,h2⟩:=fill_seq vs (j+1) mid (fun u hu=>hv u (by simp [hu])) (by rw [hms]; exact hlen)
    refine ⟨out,?_,?_⟩
    · rw [if_neg (by simpa using hc)]
      exact h1
    · rw [h2,hput]
      have e1:(j+1)*size=j*size+size:=by rw [Nat.add_mul,Nat.one_mul]
      rw [e1]
      have:(putCells cells.toList (j*size) v.cells.toList).take (j*size+size)=cells.toList.take (j*size)++v.cells.toList:=by
        unfold putCells
        rw [List.take_append_of_le_length (by simp [hvs]; omega),List.take_of_length_le (by simp [hvs]; omega)]
      rw [this]
      simp
end Go.Proofs.YtkeipcalbbmncaaGreat.Abs
set_option linter.unusedVariables false
set_option linter.unusedSimpArgs false
namespace Go.Proofs.YtkeipcalbbmncaaGreat.Abs
def dtyT (P:Program):Nat→TypeId→Option DTy
  | 0,_=>none
  | n+1,t=>match P.underlying t with
    | some .bool=>some .bool
    | some (.int k)=>some (.int k)
    | some .string=>some .str
    | some (.slice e)=>match dtyT P n e with
      | some T=>some (.list T)
      | none=>none
    | some (.array m e)=>match dtyT P n e with
      | some T=>some (.arr m T)
      | none=>none
    | some (.struct fs)=>fs.toList.foldr (fun f r=>match dtyT P n f.type,r with
      | some a,some b=>some (.cons a b)
      | _,_=>none) (some .nil)
    | _=>none
def datasA (T:DTy) (ρ:Operand→AVal):List (Nat×Operand)→Nat→Option (List T.El)
  | [],_=>some []
  | (i,x)::ps,j=>bif i==j&&(ρ x).plain then
      match asData (ρ x) T,datasA T ρ ps (j+1) with
      | some y,some ys=>some (y::ys)
      | _,_=>none
    else none
theorem datasA_spec {G:Gh} {dead:List Nat} {T:DTy} {ρ:Operand→AVal} {ev:Operand→Value}:{ps:List (Nat×Operand)}→{j:Nat}→{xs:List T.El}→datasA T ρ ps j=some xs→(∀ p∈ps,Rv G dead (ρ p.2) (ev p.2))→
    xs.length=ps.length∧(ps.map fun p=>(p.1,ev p.2))=((ps.map fun p=>ev p.2).zipIdx j).map (fun q=>(q.2,q.1))∧(∀ v∈ps.map (fun p=>ev p.2),v.cells.size=T.sz)∧
    (((ps.map fun p=>ev p.2).map fun v=>v.cells.toList).flatten).length=xs.length*T.sz∧
    ∀ (i:Nat) (x:T.El),xs[i]?=some x→RD G.imm T x (((((ps.map fun p=>ev p.2).map fun v=>v.cells.toList).flatten).drop (i*T.sz)).take T.sz)
  | [],j,xs,h,_=>by
    simp only [datasA,Option.some.injEq] at h
    subst h
    exact ⟨rfl,rfl,by simp,by simp,fun i x hx=>by simp at hx⟩
  | (i,x)::ps,j,xs,h,hv=>by
    simp only [datasA] at h
    cases hb:i==j&&(ρ x).plain with
    | false=>simp [hb] at h
    | true=>
      simp only [hb,cond_true] at h
      simp only [Bool.and_eq_true,beq_iff_eq] at hb
      obtain ⟨rfl,hp⟩:=hb
      split at h
      · rename_i y ys hy hys
        simp only [Option.some.injEq] at h
        subst h
        obtain ⟨h1,h2,h3,h4,h5⟩:=datasA_spec hys (fun p hp=>hv p (by simp [hp]))
        have hx:=hv (i,x) (by simp)
        have hc:=asData_spec hy _ (cells_of_v hp hx)
        have hl:(ev x).cells.size=T.sz:=by have:=RD.len hc; simpa using this
        refine ⟨by simp [h1],by simp [h2],?_,?_,?_⟩
        · intro v hvm
          simp only [List.map_cons,List.mem_cons] at hvm
          rcases hvm with rfl | hvm
          · exact hl
          · exact h3 v hvm
        · simp only [List.map_cons,List.flatten_cons,List.length_append,Array.length_toList,hl,h4,List.length_cons,Nat.add_mul,Nat.one_mul]
          omega
        · intro k z hz
          simp only [List.map_cons,List.flatten_cons]
          cases k with
          | zero=>
            simp only [List.getElem?_cons_zero,Option.some.injEq] at hz
            subst hz
            have e1:T.sz=(ev x).cells.toList.length:=by simp [hl]
            rw [Nat.zero_mul,List.drop_zero,e1,List.take_left]
            exact hc
          | succ k=>
            simp only [List.getElem?_cons_succ] at hz
            have:=h5 k z hz
            have e1:(k+1)*T.sz=(ev x).cells.toList.length+k*T.sz:=by rw [Nat.add_mul,Nat.one_mul,Nat.add_comm]; simp [hl]
            rw [e1,← List.drop_drop,List.drop_left]
            exact this
      · cases h
theorem run_zeroValueAll {P:Program} {e:TypeId} {zs:List Value} (h:zeroV P e=some zs):∃ z:Value,(∀ w,(zeroValue e).run P w=.ok z w)∧z.cells.toList=zs:=by
  unfold zeroV at h
  split at h
  · rename_i ti hti
    split at h
    · rename_i z hz
      simp only [Option.some.injEq] at h
      refine ⟨z,fun w=>?_,h⟩
      unfold zeroValue
      rw [Sem.run_bind,run_typeInfo' hti,Result.andThen_ok]
      simp only [hz]
      rfl
    · cases h
  · cases h
def buildSliceA (P:Program) (t:TypeId) (len:Nat) (parts:Array (Nat×Operand)) (ρ:Operand→AVal) (B:Bx):Option (AVal×Bx):=
  match P.underlying t with
  | some (.slice e)=>match dtyT P 6 e,szT P e,zeroV P e with
    | some T,some n,some _=>bif n==T.sz&&parts.toList.length==len&&decide (len*n≤2^24)&&(!u8F T||e==BYTE) then
        match datasA T ρ parts.toList 0 with
        | some xs=>some (.own B.nt T xs,{ B with nt:=B.nt+1 })
        | none=>none
      else none
    | _,_,_=>none
  | _=>none
theorem run_zeroValue' {P:Program} {e:TypeId} {zs:List Value} (h:zeroV P e=some zs) (w:World):∃ z:Value,(zeroValue e).run P w=.ok z w∧z.cells.toList=zs:=by
  unfold zeroV at h
  split at h
  · rename_i ti hti
    split at h
    · rename_i z hz
      simp only [Option.some.injEq] at h
      refine ⟨z,?_,h⟩
      unfold zeroValue
      rw [Sem.run_bind,run_typeInfo' hti,Result.andThen_ok]
      simp only [hz]
      rfl
    · cases h
  · cases h
theorem buildSliceA_sound {P:Program} {o:Oper} {ρ:Operand→AVal} {v:AVal} {t:TypeId} {len:Nat} {parts:Array (Nat×Operand)} {B B':Bx} (ho:o.op=.buildSlice t len parts) (h:buildSliceA P t len parts ρ B=some (v,B')):OpD P o ρ B v B':=by
  intro G a w ha hw next Q hn
  unfold buildSliceA at h
  split at h
  · rename_i e hu
    split at h
    · rename_i T n zs hT hn2 hz
      cases hb:n==T.sz&&parts.toList.length==len&&decide (len*n≤2^24)&&(!u8F T||e==BYTE) with
      | false=>rw [hb] at h; cases h
      | true=>
        simp only [hb,cond_true] at h
        simp only [Bool.and_eq_true,beq_iff_eq,decide_eq_true_eq,Bool.or_eq_true,Bool.not_eq_true'] at hb
        obtain ⟨⟨⟨rfl,hlen⟩,hbig⟩,hby⟩:=hb
        have hby':u8F T=true→e=BYTE:=fun h=>by rcases hby with h2 | h2<;>simp_all
        split at h
        · rename_i xs hxs
          simp only [Option.some.injEq,Prod.mk.injEq] at h
          obtain ⟨rfl,rfl⟩:=h
          obtain ⟨ti,hti,hsz⟩:=szT_spec hn2
          obtain ⟨d1,d2,d3,d4,d5⟩:=datasA_spec (G:=G) (dead:=B.dead) (ev:=a.eval) hxs (fun p hp=>ha p.2 (by
            rw [ho]
            simp only [Op.operands,List.mem_toArray,List.mem_map]
            exact ⟨p,hp,rfl⟩))
          obtain ⟨z,hzr,hzc⟩:=run_zeroValue' hz w
          let init:Array Value:=(Array.range (len*T.sz)).map (fun i=>(if len*T.sz=0 then (#[]:Array Value) else z.cells)[i % (if len*T.sz=0 then (#[]:Array Value) else z.cells).size]!)
          have hinit:init.size=len*T.sz:=by simp [init]
          obtain ⟨out,f1,f2⟩:=fill_seq (size:=T.sz) (parts.toList.map fun p=>a.eval p.2) 0 init d3 (by rw [hinit]; simp [hlen])
          simp only [Nat.zero_mul,List.take_zero,List.nil_append] at f2
          have hol:out.size=xs.length*T.sz:=by
            have:=congrArg List.length f2
            rw [d4] at this
            simpa using this
          have hxl:xs.length=len:=by rw [d1,hlen]
          obtain ⟨G',g1,g2,g3,g4⟩:=new_row (e:=e) (cells:=out) (row:=out.toList) (xs:=xs) (cap:=xs.length) hw (List.prefix_refl _) hol (by simp [hol]) (Nat.le_refl _) hby' (fun h=>by rw [h]; rfl) (by rw [f2]; exact d5)
          refine wp_of_run (v:=.slice (some ⟨w.heap.size,0,none⟩) xs.length xs.length) (w':=w.alloc (.cells out e)) ?_ (hn _ G' _ g1 g2 g3 g4)
          simp only [execOp,ho]
          rw [Sem.run_bind]
          unfold Instr.buildSlice
          have hnb:¬ len*T.sz > 2^24:=by omega
          have hparts:(parts.map fun p=>(p.1,a.eval p.2)).toList=(parts.toList.map fun p=>a.eval p.2).zipIdx.map fun p=>(p.2,p.1):=by
            rw [Array.toList_map]
            exact d2
          rw [Sem.run_bind,run_underlying' hu,Result.andThen_ok,Sem.run_bind,run_sizeOf' hti,Result.andThen_ok,hsz,if_neg hnb]
          simp only [pure_bind,Sem.run_bind]
          by_cases h0:len*T.sz=0
          · simp only [h0,if_true,Sem.run_pure,Result.andThen_ok] at f1 ⊢
            simp only [init,h0,if_true] at f1
            simp only [hparts,f1,Sem.run_bind]
            simp only [hxl]
            rfl
          · simp only [h0,if_false,Sem.run_bind,hzr,Sem.run_pure,Result.andThen_ok]
            simp only [init,h0,if_false] at f1
            simp only [hparts,f1,Sem.run_bind]
            simp only [hxl]
            rfl
        · cases h
    · cases h
  · cases h
end Go.Proofs.YtkeipcalbbmncaaGreat.Abs
set_option linter.unusedVariables false
set_option linter.unusedSimpArgs false
namespace Go.Proofs.YtkeipcalbbmncaaGreat.Abs
def LIM:Nat:=2^36
theorem WOk.heap {G:Gh} {B:Bx} {w w':World} (h:WOk G B w) (e:w'.heap=w.heap):WOk G B w':=by
  refine ⟨h.len,h.nodup,fun i b c hb hc=>(h.boxes i b c hb hc).mono (GLe.refl _ _) (by rw [e]),fun b row hb=>?_,h.disj,fun t b n ht=>?_,h.inj,fun q hq=>by rw [e]; exact h.tab q hq,h.vec.mono (fun _ _ _ _ hx=>hx) (fun _ h=>.inl h) (fun t b n _ h1 h2=>⟨h1,h2,by rw [e]⟩) (ImmLe.refl _)⟩
  · obtain ⟨cs,e',fr,h1,h2⟩:=h.imm b row hb
    exact ⟨cs,e',fr,by rw [e]; exact h1,h2⟩
  · obtain ⟨h0,hr,cs,e',h1,h2⟩:=h.own t b n ht
    exact ⟨h0,hr,cs,e',by rw [e]; exact h1,h2⟩
theorem Ext.drew (G:Gh) (w:World):Ext G w G w.drew:=
  ⟨rfl,rfl,rfl,Nat.le_refl _,fun _ _ _ _=>rfl,ImmLe.refl _,fun _ _ _=>rfl,fun _ h=>.inl h,fun t b n h=>.inl ⟨t,h⟩⟩
theorem list_cells {P:Program} {G:Gh} {B:Bx} {w:World} {T:DTy} {xs:List T.El} {A:Option Addr} {cap:Nat} (hw:WOk G B w) (h:RD G.imm (.list T) xs [.slice A xs.length cap]) :
    ∃ yc:List Value,yc.length=xs.length*T.sz∧(∀ l c (w':World),w'.heap=w.heap→(Builtin.firstCells T.sz xs.length (.slice A l c)).run P w'=.ok yc.toArray w')∧(∀ (i:Nat) (x:T.El),xs[i]?=some x→RD G.imm T x ((yc.drop (i*T.sz)).take T.sz))∧
      (xs≠[]→∃ b off row,A=some ⟨b,off,none⟩∧G.imm b=some row∧off+xs.length*T.sz≤row.length∧yc=(row.drop off).take (xs.length*T.sz)):=by
  obtain ⟨A',cap',e,_,hr⟩:=h
  obtain ⟨rfl,rfl⟩:A=A'∧cap=cap':=by simpa using e
  by_cases hx:xs=[]
  · subst hx
    refine ⟨[],by simp,fun l c w' hw'=>?_,fun i x hi=>by simp at hi,fun h=>absurd rfl h⟩
    cases A with
    | none=>rfl
    | some a=>
      simp only [Builtin.firstCells,List.length_nil,Nat.zero_mul]
      rfl
  · obtain ⟨b,off,row,rfl,hb,hl,hxx⟩:=hr hx
    obtain ⟨cells,e,fr,hh,hp⟩:=hw.imm b row hb
    refine ⟨(row.drop off).take (xs.length*T.sz),by simp; omega,fun l c w' hw'=>?_,fun i x hi=>?_,fun _=>⟨b,off,row,rfl,hb,hl,rfl⟩⟩
    · simp only [Builtin.firstCells]
      refine run_loadCells' (fun j hj=>?_) _ (by simp; omega)
      have hj':j < xs.length*T.sz:=by simp at hj; omega
      rw [cell_of_heap (by rw [hw']; exact hh),List.getElem?_take_of_lt hj',List.getElem?_drop,← Array.getElem?_toList]
      exact prefix_getElem? hp (List.getElem?_eq_getElem (by omega)) |>.trans (List.getElem?_eq_getElem (by omega)).symm
    · have hi':=(List.getElem?_eq_some_iff.1 hi).1
      have hm:=mul_room (s:=T.sz) hi'
      rw [List.drop_take,List.take_take,List.drop_drop,Nat.min_eq_left (by omega)]
      exact hxx i x hi
theorem growBy_le (n:Nat):∀ r c,c≤2*n+192→c < n∨Builtin.growBy n r c=c→Builtin.growBy n r c≤2*n+192
  | 0,c,h,_=>h
  | r+1,c,h,_=>by
    unfold Builtin.growBy
    split
    · exact h
    · rename_i hc
      by_cases h2:c+(c+768) / 4 < n
      · exact growBy_le n r _ (by omega) (.inl h2)
      · cases r with
        | zero=>unfold Builtin.growBy; omega
        | succ r=>
          unfold Builtin.growBy
          rw [if_pos (by omega)]
          omega
theorem nextcap_le {need old:Nat} (h:old < need):Builtin.nextslicecap need old≤2*need+192:=by
  unfold Builtin.nextslicecap
  split
  · omega
  · split
    · omega
    · exact growBy_le need 4 old (by omega) (.inl h)
theorem zeroCells_len {zero:Array Value} {n:Nat}:(Builtin.zeroCells zero n).size=n*zero.size:=by simp [Builtin.zeroCells]
theorem app_row {G:Gh} {B:Bx} {w:World} {T:DTy} {xs ys:List T.El} {tok b off cap:Nat} {row yc:List Value} {cells:Array Value} {e:TypeId} (hw:WOk G B w) (ho:G.own tok=some (b,off+cap*T.sz)) (hi:G.imm b=some row) (hrl:row.length=off+xs.length*T.sz)
    (hh:w.heap[b]?=some (.cells cells e (0,0))) (hcs:cells.size=off+cap*T.sz) (hp:row <+: cells.toList) (hyl:yc.length=ys.length*T.sz) (hcap:xs.length+ys.length≤cap) (hne:off=0→xs=[]→cap=0∨u8F T=false)
    (hx:∀ (i:Nat) (x:T.El),xs[i]?=some x→RD G.imm T x ((row.drop (off+i*T.sz)).take T.sz)) (hy:∀ (i:Nat) (x:T.El),ys[i]?=some x→RD G.imm T x ((yc.drop (i*T.sz)).take T.sz)) :
    ∃ G',Rv G' (tok::B.dead) (.own B.nt T (xs++ys)) (.slice (some ⟨b,off,none⟩) (xs.length+ys.length) cap)∧WOk G' (B.row [tok]) (putRow w b (putCells cells.toList (off+xs.length*T.sz) yc).toArray e)∧GLe G B.dead G' (tok::B.dead)∧
      Ext G w G' (putRow w b (putCells cells.toList (off+xs.length*T.sz) yc).toArray e):=by
  have hlt:=heap_lt hh
  have hroom:off+xs.length*T.sz+yc.length≤cells.toList.length:=by
    have hcl:cells.toList.length=off+cap*T.sz:=by simp [hcs]
    rw [hyl,hcl,Nat.add_assoc,← Nat.add_mul]
    exact Nat.add_le_add_left (Nat.mul_le_mul_right _ hcap) _
  have hnt:G.own B.nt=none:=by
    cases hi:G.own B.nt with
    | none=>rfl
    | some p=>have:=(hw.own B.nt p.1 p.2 hi).1; omega
  have htn:tok≠B.nt:=fun h=>by subst h; rw [hnt] at ho; cases ho
  let G':Gh:={ G with imm:=fun c=>if c=b then some (row++yc) else G.imm c,own:=fun t=>if t=B.nt then some (b,off+cap*T.sz) else if t=tok then none else G.own t }
  have himm:ImmLe G.imm G'.imm:=fun c r hc=>by
    by_cases hcb:c=b
    · subst hcb
      rw [hi] at hc
      cases hc
      exact ⟨row++yc,by simp [G'],List.prefix_append _ _⟩
    · exact ⟨r,by simp [G',hcb,hc],List.prefix_refl _⟩
  have hle:GLe G B.dead G' (tok::B.dead):=by
    refine ⟨himm,List.prefix_refl _,fun t h=>List.mem_cons_of_mem _ h,fun t c n ht h1=>?_⟩
    have h3:t≠tok:=fun h=>ht (by rw [h]; exact List.mem_cons_self)
    have h4:t≠B.nt:=fun h=>by rw [h,hnt] at h1; cases h1
    have h5:c≠b:=fun h=>by subst h; exact h3 (hw.inj t tok c _ _ h1 ho)
    exact ⟨by simp [G',h3,h4,h1],fun r h2=>by simp [G',h5,h2]⟩
  have hself:G'.imm b=some (row++yc):=by simp [G']
  have hrow':row++yc <+: putCells cells.toList (off+xs.length*T.sz) yc:=by
    have:row=cells.toList.take (off+xs.length*T.sz):=by
      obtain ⟨t,ht⟩:=hp
      rw [← ht,← hrl,List.take_left]
    unfold putCells
    rw [this]
    exact List.prefix_append _ _
  have hnotaddr:b ∉ G.addr:=fun h=>by have:=hw.disj b h; rw [hi] at this; cases this
  have hlen:(row++yc).length=off+(xs++ys).length*T.sz:=by simp [hrl,hyl,Nat.add_mul,Nat.add_assoc]
  have hnew:(putCells cells.toList (off+xs.length*T.sz) yc).toArray.size=off+cap*T.sz:=by
    rw [List.size_toArray,putCells_len hroom,Array.length_toList,hcs]
  have hext:Ext G w G' (putRow w b (putCells cells.toList (off+xs.length*T.sz) yc).toArray e):=by
    refine ⟨rfl,rfl,rfl,by simp [putRow_size],fun c hc _ hno=>putRow_other (fun h=>hno tok _ (h ▸ ho)),himm,fun c hc hno=>?_,fun _ h=>.inl h,fun t c n ht=>?_⟩
    · have hcb:c≠b:=fun h=>by subst h; exact hno tok _ ho
      simp [G',hcb]
    · by_cases h1:t=B.nt
      · have:some (b,off+cap*T.sz)=some (c,n):=by rw [← ht]; simp [G',h1]
        simp only [Option.some.injEq,Prod.mk.injEq] at this
        obtain ⟨rfl,rfl⟩:=this
        exact .inl ⟨tok,ho⟩
      · by_cases h2:t=tok
        · simp [G',h1,h2,htn] at ht
        · exact .inl ⟨t,by simpa [G',h1,h2] using ht⟩
  refine ⟨G',?_,?_,hle,hext⟩
  · have e1:xs.length+ys.length=(xs++ys).length:=by simp
    rw [e1]
    refine leaf_v rfl ⟨⟨_,cap,rfl,by simp; exact hcap,fun _=>⟨b,off,row++yc,rfl,hself,by rw [hlen]; omega,fun i x hix=>?_⟩⟩,some ⟨b,off,none⟩,cap,rfl,.inr (.inr ⟨b,off,row++yc,rfl,by simp [G'],hself,hlen,fun hz h0=>hne hz (List.append_eq_nil_iff.1 h0).1⟩)⟩
    refine RD.mono himm ?_
    rw [List.getElem?_append] at hix
    split at hix
    · rename_i hil
      have hm:=mul_room (s:=T.sz) hil
      rw [take_drop_prefix (List.prefix_append row yc) (by omega)]
      exact hx i x hix
    · rename_i hil
      have:((row++yc).drop (off+i*T.sz))=yc.drop ((i - xs.length)*T.sz):=by
        have hge:row.length≤off+i*T.sz:=by rw [hrl]; exact Nat.add_le_add_left (Nat.mul_le_mul_right _ (by omega)) _
        rw [List.drop_append,List.drop_eq_nil_of_le hge,List.nil_append,hrl,Nat.sub_mul,Nat.add_sub_add_left]
      rw [this]
      exact hy _ x hix
  · refine ⟨hw.len,hw.nodup,fun i c d hc hd=>?_,fun c r hc=>?_,fun c hc=>?_,fun t c n ht=>?_,fun t t' c n n' h h'=>?_,hw.tab.ext hext,?_⟩
    · have hbo:=hw.boxes i c d hc hd
      have hne:b≠c:=fun h=>hnotaddr (by rw [h]; exact List.mem_of_getElem? hc)
      exact hbo.mono hle (putRow_other hne)
    · by_cases hcb:c=b
      · subst hcb
        rw [hself] at hc
        cases hc
        exact ⟨_,e,(0,0),putRow_same hlt,by simpa using hrow'⟩
      · have hc':G.imm c=some r:=by simpa [G',hcb] using hc
        obtain ⟨cs,e',fr,h1,h2⟩:=hw.imm c r hc'
        exact ⟨cs,e',fr,by rw [putRow_other (Ne.symm hcb)]; exact h1,h2⟩
    · have hcb:c≠b:=fun h=>hnotaddr (h ▸ hc)
      simp only [G',if_neg hcb]
      exact hw.disj c hc
    · by_cases h1:t=B.nt
      · have:some (b,off+cap*T.sz)=some (c,n):=by rw [← ht]; simp [G',h1]
        simp only [Option.some.injEq,Prod.mk.injEq] at this
        obtain ⟨rfl,rfl⟩:=this
        exact ⟨by rw [h1]; exact Nat.lt_succ_self _,.inl ⟨_,hself⟩,_,e,putRow_same hlt,hnew,fun r x hr h0=>by
          rw [hself] at hr
          cases hr
          obtain ⟨_,_,cs,e',h3,_,h4⟩:=hw.own tok b _ ho
          rw [hh] at h3
          simp only [Option.some.injEq,Obj.cells.injEq] at h3
          obtain ⟨_,rfl,_⟩:=h3
          cases row with
          | cons r0 rs=>exact h4 (r0::rs) x hi (by simpa using h0)
          | nil=>
            exfalso
            have h50:off+xs.length*T.sz=0:=by simpa using hrl.symm
            have h5:xs.length*T.sz=0:=by omega
            have hz:off=0:=by omega
            have hu:=row_u8 hyl hy (v:=x) (by simpa using h0)
            have hy0:ys.length*T.sz=0:=by
              rcases Nat.mul_eq_zero.1 h5 with h6 | h6
              · rcases hne hz (List.length_eq_zero_iff.1 h6) with h | h
                · have h7:ys.length=0:=by omega
                  rw [h7,Nat.zero_mul]
                · rw [h] at hu; cases hu
              · rw [h6,Nat.mul_zero]
            have:yc=[]:=List.length_eq_zero_iff.1 (by rw [hyl,hy0])
            subst this
            simp at h0⟩
      · by_cases h2:t=tok
        · simp [G',h1,h2,htn] at ht
        · have ht':G.own t=some (c,n):=by simpa [G',h1,h2] using ht
          obtain ⟨a1,a2,cs,e',a3,a4⟩:=hw.own t c n ht'
          have hcb:c≠b:=fun h=>by subst h; exact h2 (hw.inj t tok c _ _ ht' ho)
          exact ⟨Nat.lt_succ_of_lt a1,a2.of (by simp [G',hcb]) fun i d k1 k2=>.inr ⟨i,d,k1,k2,fun h=>h⟩,cs,e',by rw [putRow_other (Ne.symm hcb)]; exact a3,a4.1,(show G'.imm c=G.imm c by simp [G',hcb]) ▸ a4.2⟩
    · have inv:∀ t n,G'.own t=some (c,n)→(t=B.nt∧c=b)∨(t≠B.nt∧t≠tok∧G.own t=some (c,n)):=fun t n ht=>by
        by_cases h1:t=B.nt
        · left
          have:some (b,off+cap*T.sz)=some (c,n):=by rw [← ht]; simp [G',h1]
          simp only [Option.some.injEq,Prod.mk.injEq] at this
          exact ⟨h1,this.1.symm⟩
        · by_cases h2:t=tok
          · simp [G',h1,h2,htn] at ht
          · exact .inr ⟨h1,h2,by simpa [G',h1,h2] using ht⟩
      rcases inv t n h with ⟨a1,a2⟩ | ⟨a1,a2,a3⟩<;>rcases inv t' n' h' with ⟨b1,b2⟩ | ⟨b1,b2,b3⟩
      · rw [a1,b1]
      · subst a2; exact absurd (hw.inj t' tok c _ _ b3 ho) b2
      · subst b2; exact absurd (hw.inj t tok c _ _ a3 ho) a2
      · exact hw.inj t t' c n n' a3 b3
    · refine hw.vec.mono (fun _ _ _ _ hx=>hx) (fun t h=>?_) (fun t c n hd h1 h2=>?_) himm
      · rcases List.mem_cons.1 h with rfl | h
        · exact .inr ⟨b,_,row,ho,hi⟩
        · exact .inl h
      · have h3:t≠tok:=fun h=>hd (by rw [h]; exact List.mem_cons_self)
        have h4:t≠B.nt:=fun h=>by rw [h,hnt] at h1; cases h1
        have h5:c≠b:=fun h=>by subst h; exact h3 (hw.inj t tok c _ _ h1 ho)
        exact ⟨by simp [G',h3,h4,h1],by simp [G',h5,h2],putRow_other (Ne.symm h5)⟩
def listOf (T:DTy):AVal→Option (List T.El)
  | .d (.list T') xs=>if h:T'=T then some (h ▸ xs) else none
  | .own _ T' xs=>if h:T'=T then some (h ▸ xs) else none
  | .snil=>some []
  | _=>none
theorem listOf_v {G:Gh} {dead:List Nat} {T:DTy} {a:AVal} {xs:List T.El} {v:Value} (h:listOf T a=some xs) (hv:Rv G dead a v):∃ A cap,v=.slice A xs.length cap∧RD G.imm (.list T) xs [.slice A xs.length cap]:=by
  unfold listOf at h
  split at h
  · split at h
    · rename_i h'
      subst h'
      simp only [Option.some.injEq] at h
      subst h
      exact list_form hv
    · cases h
  · split at h
    · rename_i h'
      subst h'
      simp only [Option.some.injEq] at h
      subst h
      exact list_form (own_list hv)
    · cases h
  · simp only [Option.some.injEq] at h
    subst h
    have:v=.slice none 0 0:=toV_eq (a:=.snil) rfl hv
    exact ⟨none,0,this,none,0,rfl,Nat.le_refl _,fun h=>absurd rfl h⟩
  · cases h
def ownedOf (T:DTy) (dead:List Nat):AVal→Option (List Nat×List T.El)
  | .own tok T' xs=>if h:T'=T then bif dead.contains tok then none else some ([tok],h ▸ xs) else none
  | .snil=>some ([],[])
  | _=>none
def bytesI (s:ByteArray):List Int:=s.data.toList.map fun b=>((b.toNat:Nat):Int)
def srcOf (T:DTy) (B:Bx):AVal→Option (List T.El)
  | .d .str s=>match T with
    | .int .u8=>some (bytesI s)
    | _=>none
  | .bsl b p T' n=>match B.box[b]? with
    | some c=>match getP c p with
      | some c'=>bif (c'.size==n*T.sz) then asData c' (.arr n T) else none
      | none=>none
    | none=>none
  | a=>listOf T a
def srcT (P:Program) (t:TypeId):Bool:=match P.underlying t with
  | some (.slice _)=>true
  | some .string=>true
  | _=>false
theorem srcT_spec {P:Program} {t:TypeId} (h:srcT P t=true):∃ d,P.underlying t=some d∧((∃ e,d=.slice e)∨d=.string):=by
  unfold srcT at h
  split at h
  · rename_i e he; exact ⟨_,he,.inl ⟨_,rfl⟩⟩
  · rename_i he; exact ⟨_,he,.inr rfl⟩
  · cases h
theorem src_cells {P:Program} {G:Gh} {B:Bx} {w:World} {T:DTy} {a:AVal} {ys:List T.El} {v:Value} (hw:WOk G B w) (h:srcOf T B a=some ys) (hv:Rv G B.dead a v) :
    ∃ yc:List Value,yc.length=ys.length*T.sz∧(∀ w':World,(Builtin.lenOf v).run P w'=.ok ys.length w')∧(∀ (w':World),w'.heap=w.heap→(Builtin.firstCells T.sz ys.length v).run P w'=.ok yc.toArray w')∧(∀ (i:Nat) (x:T.El),ys[i]?=some x→RD G.imm T x ((yc.drop (i*T.sz)).take T.sz)):=by
  have list:listOf T a=some ys→∃ yc:List Value,yc.length=ys.length*T.sz∧(∀ w':World,(Builtin.lenOf v).run P w'=.ok ys.length w')∧(∀ (w':World),w'.heap=w.heap→(Builtin.firstCells T.sz ys.length v).run P w'=.ok yc.toArray w')∧(∀ (i:Nat) (x:T.El),ys[i]?=some x→RD G.imm T x ((yc.drop (i*T.sz)).take T.sz)):=fun h=>by
    obtain ⟨A,cap,rfl,hr⟩:=listOf_v h hv
    obtain ⟨yc,y1,y2,y3,_⟩:=list_cells (P:=P) hw hr
    exact ⟨yc,y1,fun w'=>rfl,fun w' e=>y2 _ _ w' e,y3⟩
  unfold srcOf at h
  split at h
  · rename_i s
    have:=str_form hv
    subst this
    split at h
    · simp only [Option.some.injEq] at h
      subst h
      refine ⟨s.data.toList.map fun b=>.int .u8 b.toNat,by simp [bytesI,DTy.sz],fun w'=>by simp [Builtin.lenOf,bytesI],fun w' _=>?_,fun i x hi=>?_⟩
      · have hl:(bytesI s).length=s.size:=by simp [bytesI]
        simp only [Builtin.firstCells,hl]
        have:s.extract 0 s.size=s:=by simp
        rw [this]
        rw [← List.map_toArray]
        simp
      · unfold bytesI at hi
        simp only [List.getElem?_map,Option.map_eq_some_iff] at hi
        obtain ⟨b,hb,rfl⟩:=hi
        have:(s.data.toList.map fun b=>Value.int .u8 b.toNat)[i]?=some (.int .u8 b.toNat):=by simp only [List.getElem?_map,hb,Option.map_some]
        show RD G.imm (.int .u8) _ _
        simp only [RD,DTy.sz,Nat.mul_one]
        obtain ⟨hi',he⟩:=List.getElem?_eq_some_iff.1 this
        rw [List.drop_eq_getElem_cons hi',he]
        rfl
    · cases h
  · rename_i b p T' n
    obtain ⟨cs,hc,hh | hh⟩:=hv
    · cases hh.1
    · obtain ⟨blk,hb,hp,rfl⟩:=hc
      have hv2:v=.slice (some ⟨blk,offP p,none⟩) n n:=by simpa using hh.2.symm
      subst hv2
      split at h
      · rename_i c hbc
        split at h
        · rename_i c' hg
          cases hsz:c'.size==n*T.sz with
          | false=>rw [hsz] at h; cases h
          | true=>
            simp only [hsz,cond_true] at h
            have hsz':c'.size=n*T.sz:=by simpa using hsz
            have hcm:c.isC=true:=getP_notM hg (by cases c'<;>first | rfl | simp [asData] at h)
            obtain ⟨cells,e,hh1,hrc⟩:=(hw.boxes b blk c hb hbc).cells hcm
            obtain ⟨k1,k2⟩:=getP_spec hg hp _ hrc
            have hd:=asData_spec h _ k2
            have hl:List.length (ys:List T.El)=n:=hd.1
            refine ⟨(cells.toList.drop (offP p)).take c'.size,by simp; rw [hl,hsz']; simp at k1; omega,fun w'=>by simp [Builtin.lenOf,hl],fun w' e'=>?_,fun i x hi=>hd.2.2 i x hi⟩
            simp only [Builtin.firstCells]
            refine run_loadCells' (fun j hj=>?_) _ (by simp; rw [hl,hsz']; simp at k1; omega)
            have hj':j < c'.size:=by simp at hj; omega
            rw [cell_of_heap (by rw [e']; exact hh1),List.getElem?_take_of_lt hj',List.getElem?_drop,← Array.getElem?_toList]
        · cases h
      · cases h
  · exact list h
def appendA (P:Program) (t t2:TypeId) (s x:AVal) (B:Bx):Option (Bool×AVal×Bx):=
  match P.underlying t with
  | some (.slice e)=>match dtyT P 6 e,P.info? e,zeroV P e with
    | some T,some ti,some zs=>bif ti.size==T.sz&&decide (0 < T.sz)&&zs.length==T.sz&&decide (ti.bytes≤1024)&&srcT P t2&&(!u8F T||e==BYTE) then
        match ownedOf T B.dead s,srcOf T B x with
        | some (k,xs),some ys=>bif noVec B k then some (decide (xs.length+ys.length≤LIM),.own B.nt T (xs++ys),B.row k) else none
        | _,_=>none
      else none
    | _,_,_=>none
  | _=>none
theorem run_append {P:Program} {w:World} {t t2 ty e:TypeId} {d2:TypeDesc} {xv:Value} {ti:TypeInfo} {zs xc yc:List Value} {As:Option Addr} {n m cs:Nat} (hu:P.underlying t=some (.slice e)) (hu2:P.underlying t2=some d2) (hd2:(∃ e,d2=.slice e)∨d2=.string) (hlen:∀ w':World,(Builtin.lenOf xv).run P w'=.ok m w') (hti:P.info? e=some ti) (hz:zeroV P e=some zs)
    (hbytes:ti.bytes≤1024) (hlim:n+m≤2^36) (hx:(Builtin.firstCells ti.size n (.slice As n cs)).run P w=.ok xc.toArray w) (hy:(Builtin.firstCells ti.size m xv).run P w=.ok yc.toArray w)
    (hy2:(Builtin.firstCells ti.size m xv).run P w.drew=.ok yc.toArray w.drew) (hx2:(Builtin.firstCells ti.size n (.slice As n cs)).run P w.drew=.ok xc.toArray w.drew) :
    (n+m≤cs→∀ r,(((match As with | some a=>storeCells (a.add (n*ti.size)) yc | none=>pure ()):Sem Unit).run P w=.ok () r)→(Builtin.append_ #[t,t2] ty #[.slice As n cs,xv]).run P w=.ok (.slice As (n+m) cs) r)∧
    (¬ n+m≤cs→∃ cap,n+m≤cap∧(Builtin.append_ #[t,t2] ty #[.slice As n cs,xv]).run P w =
      .ok (.slice (some ⟨w.heap.size,0,none⟩) (n+m) cap) (w.drew.alloc (.cells (xc.toArray++(yc.toArray++Builtin.zeroCells zs.toArray (cap - (n+m)))) e))):=by
  refine ⟨fun hle r hr=>?_,fun hgt=>?_⟩
  · unfold Builtin.append_
    rcases hd2 with ⟨e2,rfl⟩ | rfl
    all_goals
      simp [run_underlying' hu,run_underlying' hu2,run_sizeOf' hti,hlen,hle,hy]
      cases As with
      | none=>simp at hr; simp [hr]
      | some a=>simp only at hr; simp [hr]
  · refine ⟨(Question.appendCap (n+m) cs e).cut (w.tape w.drawn (Question.appendCap (n+m) cs e)),by simp only [Question.cut]; omega,?_⟩
    obtain ⟨z,hzr,hzc⟩:=run_zeroValue' hz w.drew
    have hnc:=nextcap_le (need:=n+m) (old:=cs) (by omega)
    have h48:¬ Builtin.nextslicecap (n+m) cs*ti.bytes > 2^48:=by
      have:Builtin.nextslicecap (n+m) cs*ti.bytes≤(2*(n+m)+192)*1024:=Nat.mul_le_mul hnc hbytes
      omega
    have h63:¬ (9223372036854775807 < (n:Int)+(m:Int)):=by omega
    have hf:(Question.appendCap (n+m) cs e).forced=false:=rfl
    have hzz:z.cells=zs.toArray:=by rw [← hzc]
    unfold Builtin.append_
    rcases hd2 with ⟨e2,rfl⟩ | rfl<;>simp [run_underlying' hu,run_underlying' hu2,run_sizeOf' hti,hlen,hgt,run_typeInfo' hti,h48,h63,hf,hx2,hy2,hzr,hzz,newRow]
theorem appendA_sound {P:Program} {o:Oper} {ρ:Operand→AVal} {v:AVal} {c:Call} {t t2:TypeId} {s x:Operand} {B B':Bx} (ho:o.op=.call c) (hcal:c.callee=.builtin .append) (hargs:c.args=#[s,x]) (hty:c.argTypes=#[t,t2])
    (h:appendA P t t2 (ρ s) (ρ x) B=some (true,v,B')):OpD P o ρ B v B':=by
  intro G a w ha hw next Q hn
  have hops:∀ y,y=s∨y=x→y∈o.op.operands:=fun y hy=>by
    rw [ho]
    simp only [Op.operands,Call.operands,hcal,hargs]
    rcases hy with rfl | rfl<;>simp
  have hs:=ha s (hops s (.inl rfl))
  have hx:=ha x (hops x (.inr rfl))
  unfold appendA at h
  split at h
  · rename_i e hu
    split at h
    · rename_i T ti zs hT hti hz
      cases hb:ti.size==T.sz&&decide (0 < T.sz)&&zs.length==T.sz&&decide (ti.bytes≤1024)&&srcT P t2&&(!u8F T||e==BYTE) with
      | false=>rw [hb] at h; cases h
      | true=>
        simp only [hb,cond_true] at h
        simp only [Bool.and_eq_true,beq_iff_eq,decide_eq_true_eq,Bool.or_eq_true,Bool.not_eq_true'] at hb
        obtain ⟨⟨⟨⟨⟨hsz,hpos⟩,hzl⟩,hbytes⟩,hst2⟩,hby⟩:=hb
        have hby':u8F T=true→e=BYTE:=fun h=>by rcases hby with h2 | h2<;>simp_all
        obtain ⟨d2,hu2,hd2⟩:=srcT_spec hst2
        split at h
        · rename_i k xs ys hk hys
          cases hnv:noVec B k with
          | false=>rw [hnv] at h; cases h
          | true=>
          simp only [hnv,cond_true,Option.some.injEq,Prod.mk.injEq,decide_eq_true_eq] at h
          obtain ⟨hlim,rfl,rfl⟩:=h
          obtain ⟨yc,y1,ylen,y2,y3⟩:=src_cells (P:=P) hw hys hx
          obtain ⟨As,caps,hsv,hsr,hown⟩:∃ A cap,a.eval s=.slice A xs.length cap∧RD G.imm (.list T) xs [.slice A xs.length cap]∧
              ((xs=[]∧cap=0)∨∃ tok b off row,k=[tok]∧A=some ⟨b,off,none⟩∧G.own tok=some (b,off+cap*T.sz)∧G.imm b=some row∧row.length=off+xs.length*T.sz∧(off=0→xs=[]→cap=0∨u8F T=false)):=by
            unfold ownedOf at hk
            split at hk
            · rename_i tok T' xs' hs'
              split at hk
              · rename_i hT'
                subst hT'
                cases hd:B.dead.contains tok with
                | true=>rw [hd] at hk; cases hk
                | false=>
                  simp only [hd,cond_false,Option.some.injEq,Prod.mk.injEq] at hk
                  obtain ⟨rfl,rfl⟩:=hk
                  rw [hs'] at hs
                  obtain ⟨cs,hc,hv | hv⟩:=hs
                  · cases hv.1
                  · obtain ⟨hrd,A,cap,rfl,hor⟩:=hc
                    have hv2:a.eval s=.slice A xs'.length cap:=by simpa using hv.2.symm
                    refine ⟨A,cap,hv2,hrd,?_⟩
                    rcases hor with hor | hor | ⟨b,off,row,h1,h2,h3,h4⟩
                    · have:=List.contains_iff_mem.2 hor
                      rw [hd] at this; cases this
                    · exact .inl hor
                    · exact .inr ⟨tok,b,off,row,rfl,h1,h2,h3,h4⟩
              · cases hk
            · rename_i hs'
              simp only [Option.some.injEq,Prod.mk.injEq] at hk
              obtain ⟨rfl,rfl⟩:=hk
              rw [hs'] at hs
              have:a.eval s=.slice none 0 0:=toV_eq (a:=.snil) rfl hs
              exact ⟨none,0,this,⟨none,0,rfl,Nat.le_refl _,fun h=>absurd rfl h⟩,.inl ⟨rfl,rfl⟩⟩
            · cases hk
          obtain ⟨xc,x1,x2,x3,x4⟩:=list_cells (P:=P) hw hsr
          have hlen2:xs.length+ys.length≤2^36:=hlim
          have hrun0:∀ w' r,(Builtin.append_ #[t,t2] o.type #[.slice As xs.length caps,a.eval x]).run P w=.ok r w'→(execOp a.eval o).run P w=.ok (.value r) w':=fun w' r hr=>by
            simp only [execOp,ho]
            unfold resolve
            simp only [hcal,hargs,Sem.run_bind,Sem.run_pure,Result.andThen_ok,invoke,builtin,hty]
            have:(#[s,x]:Array Operand).map a.eval=#[.slice As xs.length caps,a.eval x]:=by simp [hsv]
            simp only [this,hr,Result.andThen_ok]
          obtain ⟨rin,rnew⟩:=run_append (P:=P) (w:=w) (ty:=o.type) (xc:=xc) (yc:=yc) (As:=As) (n:=xs.length) (m:=ys.length) (cs:=caps) hu hu2 hd2 ylen hti hz hbytes hlen2 (by rw [hsz]; exact x2 _ _ _ rfl) (by rw [hsz]; exact y2 _ rfl) (by rw [hsz]; exact y2 _ rfl) (by rw [hsz]; exact x2 _ _ _ rfl)
          by_cases hfit:xs.length+ys.length≤caps
          · rcases hown with ⟨rfl,rfl⟩ | ⟨tok,b,off,row,rfl,rfl,ho1,hi1,hrl,hne0⟩
            · have hy0:ys=[]:=by
                have:ys.length=0:=by simpa using hfit
                exact List.length_eq_zero_iff.1 this
              subst hy0
              obtain ⟨d1,d2,d3⟩:=dropOwn hw k hnv
              have hw2:WOk { G with own:=fun t=>if t∈k then none else G.own t } (B.row k) w:=⟨d1.len,d1.nodup,d1.boxes,d1.imm,d1.disj,fun t b n ht=>by
                obtain ⟨q1,q2⟩:=d1.own t b n ht
                exact ⟨Nat.lt_succ_of_lt q1,q2⟩,d1.inj,d1.tab,d1.vec⟩
              have hyc:yc=[]:=List.length_eq_zero_iff.1 (by rw [y1]; simp)
              subst hyc
              refine wp_of_run (hrun0 w _ (rin hfit w (by cases As<;>rfl))) (hn _ _ w ?_ hw2 d2 d3)
              exact leaf_v rfl ⟨⟨As,0,rfl,Nat.le_refl _,fun h=>absurd rfl h⟩,As,0,rfl,.inr (.inl ⟨rfl,rfl⟩)⟩
            · obtain ⟨_,_,cells,e',hh,hcs⟩:=hw.own tok b _ ho1
              obtain ⟨cells2,e2',fr,hh2,hp⟩:=hw.imm b row hi1
              rw [hh] at hh2
              simp only [Option.some.injEq,Obj.cells.injEq] at hh2
              obtain ⟨rfl,rfl,rfl⟩:=hh2
              have hxr2:∀ (i:Nat) (x:T.El),xs[i]?=some x→RD G.imm T x ((row.drop (off+i*T.sz)).take T.sz):=fun i x hi=>by
                obtain ⟨A',cap',e,_,hr⟩:=hsr
                obtain ⟨b',off',row',e2,hb',hl,hx⟩:=hr (by intro h0; subst h0; simp at hi)
                simp only [List.cons.injEq,Value.slice.injEq,and_true,true_and] at e
                obtain ⟨rfl,rfl⟩:=e
                simp only [Option.some.injEq,Addr.mk.injEq] at e2
                obtain ⟨rfl,rfl,_⟩:=e2
                rw [hi1] at hb'
                cases hb'
                exact hx i x hi
              obtain ⟨G',g1,g2,g3,g4⟩:=app_row (ys:=ys) (yc:=yc) (e:=e') hw ho1 hi1 hrl hh hcs.1 hp y1 hfit hne0 hxr2 y3
              have hyleaf:∀ v∈yc,leafV v=true:=fun v hv=>by
                obtain ⟨i,hi,rfl⟩:=List.mem_iff_getElem.1 hv
                rw [y1] at hi
                have hq:i / T.sz < ys.length:=by rw [Nat.div_lt_iff_lt_mul hpos]; exact hi
                refine RD.leaf (y3 (i / T.sz) _ (getD_some hq (d:=T.dflt))) _ (List.mem_iff_getElem.2 ⟨i % T.sz,?_,?_⟩)
                · have:=mul_room (s:=T.sz) hq
                  have:=Nat.mod_lt i hpos
                  simp; omega
                · simp only [List.getElem_take,List.getElem_drop]
                  congr 1
                  rw [Nat.mul_comm]; exact Nat.div_add_mod i T.sz
              have hst:=run_storeCells (P:=P) (b:=b) (off:=off+xs.length*T.sz) (e:=e') yc 0 w cells hh (by
                rw [Nat.add_zero,y1,hcs.1,Nat.add_assoc,← Nat.add_mul]; exact Nat.add_le_add_left (Nat.mul_le_mul_right _ hfit) _) hyleaf
              rw [Nat.add_zero] at hst
              refine wp_of_run (hrun0 _ _ (rin hfit _ ?_)) (hn _ G' _ g1 g2 g3 g4)
              show (storeCells ((⟨b,off,none⟩:Addr).add (xs.length*ti.size)) yc).run P w=_
              rw [addr_add,hsz]
              exact hst
          · obtain ⟨cap,hcap,hr⟩:=rnew hfit
            obtain ⟨d1,d2,d3⟩:=dropOwn hw k hnv
            have hwd:=d1.heap (w':=w.drew) rfl
            have hrow:(xc++yc).length=(xs++ys).length*T.sz:=by simp [x1,y1,Nat.add_mul]
            obtain ⟨G',g1,g2,g3,g4⟩:=new_row (T:=T) (xs:=xs++ys) (row:=xc++yc) (cells:=xc.toArray++(yc.toArray++Builtin.zeroCells zs.toArray (cap - (xs.length+ys.length)))) (e:=e) (cap:=cap) hwd (by
                simp only [Array.toList_append,← List.append_assoc]
                exact List.prefix_append _ _) (by
                have:(cap - (xs.length+ys.length))+(xs.length+ys.length)=cap:=by omega
                simp only [Array.size_append,List.size_toArray,zeroCells_len,x1,y1,hzl]
                rw [← Nat.add_assoc,← Nat.add_mul,← Nat.add_mul]
                congr 1; omega) hrow (by simpa using hcap) hby' (fun h0=>by
                exfalso
                apply hfit
                have:(xs++ys).length=0:=by rw [h0]; rfl
                simp at this
                rw [this.1,this.2]; simp) (fun i x hi=>by
                rw [List.getElem?_append] at hi
                split at hi
                · rename_i hil
                  have hm:=mul_room (s:=T.sz) hil
                  rw [take_drop_prefix (List.prefix_append xc yc) (by omega)]
                  exact x3 i x hi
                · rename_i hil
                  have:((xc++yc).drop (i*T.sz))=yc.drop ((i - xs.length)*T.sz):=by
                    have hge:xc.length≤i*T.sz:=by rw [x1]; exact Nat.mul_le_mul_right _ (by omega)
                    rw [List.drop_append,List.drop_eq_nil_of_le hge,List.nil_append,x1,Nat.sub_mul]
                  rw [this]
                  exact y3 _ x hi)
            have e3:(xs++ys).length=xs.length+ys.length:=by simp
            rw [e3] at g1
            exact wp_of_run (hrun0 _ _ hr) (hn _ G' _ g1 g2 (d2.trans g3) ((d3.trans (Ext.drew _ _)).trans g4))
        · cases h
    · cases h
  · cases h
end Go.Proofs.YtkeipcalbbmncaaGreat.Abs
set_option linter.unusedVariables false
set_option linter.unusedSimpArgs false
namespace Go.Proofs.YtkeipcalbbmncaaGreat.Abs
def buildGo (place:Nat→Option (Nat×Nat)) (ρ:Operand→AVal):AVal→List (Nat×Operand)→Option AVal
  | cur,[]=>some cur
  | cur,(i,x)::ps=>match place i,childA cur i,setC cur i (ρ x) with
    | some (off,size),some (o,c),some cur'=>bif o==off&&(ρ x).size==size&&c.size==size&&(ρ x).plain then buildGo place ρ cur' ps else none
    | _,_,_=>none
theorem buildGo_spec {G:Gh} {dead:List Nat} {place:Nat→Option (Nat×Nat)} {ρ:Operand→AVal} {ev:Operand→Value}:{ps:List (Nat×Operand)}→{cur out:AVal}→{cells:Array Value}→buildGo place ρ cur ps=some out→Rc G dead cur cells.toList→
    (∀ p∈ps,Rv G dead (ρ p.2) (ev p.2))→∃ cells':Array Value,Instr.fill place cells (ps.map fun p=>(p.1,ev p.2))=some cells'∧Rc G dead out cells'.toList
  | [],cur,out,cells,h,hc,_=>by
    simp only [buildGo,Option.some.injEq] at h
    subst h
    exact ⟨cells,rfl,hc⟩
  | (i,x)::ps,cur,out,cells,h,hc,hv=>by
    simp only [buildGo] at h
    split at h
    · rename_i off size o c cur' hpl hch hst
      cases hb:o==off&&(ρ x).size==size&&c.size==size&&(ρ x).plain with
      | false=>rw [hb] at h; cases h
      | true=>
        simp only [hb,cond_true] at h
        simp only [Bool.and_eq_true,beq_iff_eq] at hb
        obtain ⟨⟨⟨rfl,rfl⟩,hcs⟩,hp⟩:=hb
        have hx:=hv (i,x) (by simp)
        have hxc:=cells_of_v hp hx
        have hl:=Rc.len hxc
        simp only [Array.length_toList] at hl
        obtain ⟨hle,_⟩:=childA_spec hch _ hc
        have hn:=setC_spec' hst hch hcs.symm _ _ hc hxc
        have hput:=foldl_put (off:=o) (ev x).cells.toList 0 cells (by simp [hl]; rw [hcs] at hle; simpa using hle)
        rw [Nat.add_zero] at hput
        generalize hg:Array.foldl (fun (cs:Array Value) (x:Value×Nat)=>match x with | (c,k)=>cs.setIfInBounds (o+k) c) cells (ev x).cells.zipIdx=mid at *
        have hmid:mid.toList=putCells cells.toList o (ev x).cells.toList:=by
          rw [← hg,← Array.foldl_toList,Array.toList_zipIdx]
          exact hput
        obtain ⟨cells',h1,h2⟩:=buildGo_spec (cells:=mid) h (by rw [hmid]; exact hn) (fun p hp=>hv p (by simp [hp]))
        refine ⟨cells',?_,h2⟩
        simp only [List.map_cons,Instr.fill,hpl]
        rw [if_neg (by simp [hl]; rw [hcs] at hle; simpa using hle),hg]
        exact h1
    · cases h
def placesA (P:Program):List Field→Option (List (Nat×Nat))
  | []=>some []
  | f::fs=>match szT P f.type,placesA P fs with
    | some n,some l=>some ((f.offset,n)::l)
    | _,_=>none
theorem placesA_run {P:Program}:{fs:List Field}→{l:List (Nat×Nat)}→placesA P fs=some l→∀ w,((fs.mapM fun f=>do pure (f.offset,← sizeOf f.type):Sem (List (Nat×Nat)))).run P w=.ok l w
  | [],l,h,w=>by
    simp only [placesA,Option.some.injEq] at h
    subst h
    rfl
  | f::fs,l,h,w=>by
    simp only [placesA] at h
    split at h
    · rename_i n l' hn hl
      simp only [Option.some.injEq] at h
      subst h
      obtain ⟨ti,hti,rfl⟩:=szT_spec hn
      have:=placesA_run hl w
      simp only [List.mapM_cons,Sem.run_bind,run_sizeOf' hti,Result.andThen_ok,Sem.run_pure,this]
    · cases h
def zeroEls (P:Program) (t:TypeId):Option AVal:=
  match P.underlying t with
  | some (.struct _)=>zeroT P 8 t
  | some (.array n e)=>match zeroT P 8 e with
    | some z=>some (chain (List.replicate n z))
    | none=>none
  | _=>none
def buildA (P:Program) (t:TypeId) (parts:Array (Nat×Operand)) (ρ:Operand→AVal):Option AVal:=
  match zeroEls P t,zeroV P t with
  | some z,some zs=>match zcells z with
    | some zc=>bif eqZs zc zs&&z.agg then
        match P.underlying t with
        | some (.struct fs)=>match placesA P fs.toList with
          | some pl=>buildGo (fun i=>pl[i]?) ρ z parts.toList
          | none=>none
        | some (.array n e)=>match szT P e with
          | some n=>buildGo (fun i=>some (i*n,n)) ρ z parts.toList
          | none=>none
        | _=>none
      else none
    | none=>none
  | _,_=>none
theorem setC0_agg {a v b:AVal} {k:Nat} (h:setC0 a k v=some b):b.agg=true:=by
  unfold setC0 at h
  split at h
  · cases h; rfl
  · split at h
    · cases h; rfl
    · cases h
  · cases h; rfl
  · split at h
    · cases h; rfl
    · cases h
  · cases h
theorem setC_agg {a v b:AVal} {k:Nat} (h:setC a k v=some b):b.agg=true:=by
  cases a with
  | tbox t a=>
    simp only [setC] at h
    split at h
    · cases h; rfl
    · cases h
  | _=>exact setC0_agg (by simpa [setC] using h)
theorem buildGo_agg {place:Nat→Option (Nat×Nat)} {ρ:Operand→AVal}:{ps:List (Nat×Operand)}→{cur out:AVal}→buildGo place ρ cur ps=some out→cur.agg=true→out.agg=true
  | [],cur,out,h,ha=>by
    simp only [buildGo,Option.some.injEq] at h
    rw [← h]; exact ha
  | (i,x)::ps,cur,out,h,ha=>by
    simp only [buildGo] at h
    split at h
    · rename_i off size o c cur' hpl hch hst
      cases hb:o==off&&(ρ x).size==size&&c.size==size&&(ρ x).plain with
      | false=>rw [hb] at h; cases h
      | true=>
        simp only [hb,cond_true] at h
        exact buildGo_agg h (setC_agg hst)
    · cases h
theorem buildA_sound {P:Program} {o:Oper} {ρ:Operand→AVal} {v:AVal} {t:TypeId} {parts:Array (Nat×Operand)} (ho:o.op=.build t parts) (h:buildA P t parts ρ=some v) (B:Bx):OpD P o ρ B v B:=by
  unfold buildA at h
  split at h
  · rename_i z zs hz hzs
    split at h
    · rename_i zc hzc
      cases hb:eqZs zc zs&&z.agg with
      | false=>rw [hb] at h; cases h
      | true=>
        simp only [hb,cond_true] at h
        simp only [Bool.and_eq_true] at hb
        obtain ⟨heq,hza⟩:=hb
        have:=eqZs_eq heq
        subst this
        refine OpD.value (fun G dead a ha=>?_) B
        have hops:∀ p∈parts.toList,Rv G dead (ρ p.2) (a.eval p.2):=fun p hp=>ha p.2 (by
          rw [ho]
          simp only [Op.operands,List.mem_toArray,List.mem_map]
          exact ⟨p,hp,rfl⟩)
        obtain ⟨zv,hzrun,hzc2⟩:=run_zeroValueAll hzs
        have hrz:Rc G dead z zv.cells.toList:=by rw [hzc2]; exact zcells_rc hzc
        split at h
        · rename_i fs hu
          split at h
          · rename_i pl hpl
            obtain ⟨cells',h1,h2⟩:=buildGo_spec (G:=G) (dead:=dead) (ev:=a.eval) (cells:=zv.cells) h hrz hops
            refine ⟨.agg cells',fun w=>?_,by have:=agg_v h2 (buildGo_agg h hza); simpa using this⟩
            simp only [execOp,ho]
            rw [Sem.run_bind]
            unfold Instr.build
            have hmap:(parts.map fun p=>(p.1,a.eval p.2)).toList=parts.toList.map fun p=>(p.1,a.eval p.2):=by simp
            have hpr:((fs.mapM fun f=>do pure (f.offset,← sizeOf f.type):Sem (Array (Nat×Nat)))).run P w=.ok pl.toArray w:=by
              rw [Array.mapM_eq_mapM_toList]
              have:=placesA_run hpl w
              simp only [Sem.run_map,this,Result.andThen_ok]
            have hfill:Instr.fill (fun x=>pl.toArray[x]?) zv.cells (parts.map fun p=>(p.1,a.eval p.2)).toList=some cells':=by
              rw [hmap]
              simpa using h1
            simp only [Sem.run_bind,hzrun w,Result.andThen_ok,Sem.run_pure,run_underlying' hu,hpr,hfill]
          · cases h
        · rename_i n e hu
          split at h
          · rename_i n2 hn2
            obtain ⟨ti,hti,rfl⟩:=szT_spec hn2
            obtain ⟨cells',h1,h2⟩:=buildGo_spec (G:=G) (dead:=dead) (ev:=a.eval) (cells:=zv.cells) h hrz hops
            refine ⟨.agg cells',fun w=>?_,by have:=agg_v h2 (buildGo_agg h hza); simpa using this⟩
            simp only [execOp,ho]
            rw [Sem.run_bind]
            unfold Instr.build
            have hmap:(parts.map fun p=>(p.1,a.eval p.2)).toList=parts.toList.map fun p=>(p.1,a.eval p.2):=by simp
            simp only [Sem.run_bind,hzrun w,Result.andThen_ok,Sem.run_pure,run_underlying' hu,run_sizeOf' hti,hmap,h1]
          · cases h
        · cases h
    · cases h
  · cases h
end Go.Proofs.YtkeipcalbbmncaaGreat.Abs
set_option linter.unusedVariables false
set_option linter.unusedSimpArgs false
namespace Go.Proofs.YtkeipcalbbmncaaGreat.Abs
def divA (op:BinOp) (x y:AVal):Option (Bool×AVal):=
  match x,y with
  | .d (.int k) a,.d (.int k2) b=>match op with
    | .quo=>bif k==k2 then some (!decide (b=0),.d (.int k) (k.wrap (Int.tdiv a b))) else none
    | .rem=>bif k==k2 then some (!decide (b=0),.d (.int k) (Int.tmod a b)) else none
    | .shl=>some (!decide (b < 0),.d (.int k) (k.wrap (a*2^(min b.toNat k.bits))))
    | .shr=>some (!decide (b < 0),.d (.int k) (Int.fdiv a (2^(min b.toNat k.bits))))
    | _=>none
  | _,_=>none
theorem run_eqGuard_arith {P:Program} {op:BinOp} {t:TypeId} {x y:Operand} {a b:Value} (h:(op matches .eql | .neq)=false) (w:World):(eqGuard op t x y a b).run P w=.ok () w:=by
  unfold eqGuard
  cases op<;>first | rfl | cases h
theorem divA_sound {P:Program} {o:Oper} {ρ:Operand→AVal} {v:AVal} {op:BinOp} {t yt:TypeId} {x y:Operand} (ho:o.op=.binOp op t x y yt) (h:divA op (ρ x) (ρ y)=some (true,v)) (B:Bx):OpD P o ρ B v B:=by
  refine OpD.value (fun G dead a ha=>?_) B
  have hx:=ha x (by rw [ho]; simp [Op.operands])
  have hy:=ha y (by rw [ho]; simp [Op.operands])
  unfold divA at h
  split at h
  · rename_i k n k2 m h1 h2
    rw [h1] at hx; rw [h2] at hy
    have e1:=int_form hx
    have e2:=int_form hy
    split at h
    · cases hk:k==k2 with
      | false=>rw [hk] at h; cases h
      | true=>
        simp only [hk,cond_true,Option.some.injEq,Prod.mk.injEq,Bool.not_eq_true',decide_eq_false_iff_not] at h
        obtain ⟨h0,rfl⟩:=h
        have hk':k=k2:=by simpa using hk
        subst hk'
        refine ⟨.int k (k.wrap (Int.tdiv n m)),fun w=>?_,leaf_v rfl rfl⟩
        have h0':¬ (m:Int)=0:=h0
        simp only [execOp,ho,e1,e2,Sem.run_bind,(run_eqGuard_arith (op:=.quo) rfl),Result.andThen_ok]
        simp only [binOp,Op.intDiv,if_neg h0',ne_eq,not_true_eq_false,if_false]
        rfl
    · cases hk:k==k2 with
      | false=>rw [hk] at h; cases h
      | true=>
        simp only [hk,cond_true,Option.some.injEq,Prod.mk.injEq,Bool.not_eq_true',decide_eq_false_iff_not] at h
        obtain ⟨h0,rfl⟩:=h
        have hk':k=k2:=by simpa using hk
        subst hk'
        refine ⟨.int k (Int.tmod n m),fun w=>?_,leaf_v rfl rfl⟩
        have h0':¬ (m:Int)=0:=h0
        simp only [execOp,ho,e1,e2,Sem.run_bind,(run_eqGuard_arith (op:=.rem) rfl),Result.andThen_ok]
        simp only [binOp,Op.intDiv,if_neg h0',ne_eq,not_true_eq_false,if_false]
        rfl
    · simp only [Option.some.injEq,Prod.mk.injEq,Bool.not_eq_true',decide_eq_false_iff_not] at h
      obtain ⟨h0,rfl⟩:=h
      refine ⟨.int k (k.wrap (n*2^(min (Int.toNat m) k.bits))),fun w=>?_,leaf_v rfl rfl⟩
      have h0':¬ (m:Int) < 0:=h0
      simp only [execOp,ho,e1,e2,Sem.run_bind,(run_eqGuard_arith (op:=.shl) rfl),Result.andThen_ok]
      simp only [binOp,Op.shift,if_neg h0']
      rfl
    · simp only [Option.some.injEq,Prod.mk.injEq,Bool.not_eq_true',decide_eq_false_iff_not] at h
      obtain ⟨h0,rfl⟩:=h
      refine ⟨.int k (Int.fdiv n (2^(min (Int.toNat m) k.bits))),fun w=>?_,leaf_v rfl rfl⟩
      have h0':¬ (m:Int) < 0:=h0
      simp only [execOp,ho,e1,e2,Sem.run_bind,(run_eqGuard_arith (op:=.shr) rfl),Result.andThen_ok]
      simp only [binOp,Op.shift,if_neg h0']
      rfl
    · cases h
  · cases h
def catA (x y:AVal):Option (Bool×AVal):=
  match x,y with
  | .d .str a,.d .str b=>some (decide (ByteArray.size a+ByteArray.size b≤LIM),.d .str (ByteArray.append a b))
  | _,_=>none
theorem catA_sound {P:Program} {o:Oper} {ρ:Operand→AVal} {v:AVal} {t yt:TypeId} {x y:Operand} (ho:o.op=.binOp .add t x y yt) (h:catA (ρ x) (ρ y)=some (true,v)) (B:Bx):OpD P o ρ B v B:=by
  refine OpD.value (fun G dead a ha=>?_) B
  have hx:=ha x (by rw [ho]; simp [Op.operands])
  have hy:=ha y (by rw [ho]; simp [Op.operands])
  unfold catA at h
  split at h
  · rename_i n m h1 h2
    rw [h1] at hx; rw [h2] at hy
    have e1:=str_form hx
    have e2:=str_form hy
    simp only [Option.some.injEq,Prod.mk.injEq,decide_eq_true_eq] at h
    obtain ⟨h0,rfl⟩:=h
    refine ⟨.string (ByteArray.append n m),fun w=>?_,leaf_v rfl rfl⟩
    have h0':ByteArray.size n+ByteArray.size m≤2^36:=h0
    have hlt:¬ (((ByteArray.size n+ByteArray.size m:Nat):Int) > IntKind.i64.max):=by
      have:IntKind.i64.max=9223372036854775807:=by rfl
      omega
    simp only [execOp,ho,e1,e2,Sem.run_bind,(run_eqGuard_arith (op:=.add) rfl),Result.andThen_ok]
    simp only [binOp,Op.stringOp,if_neg hlt]
    rfl
  · cases h
def bt (s:ByteArray) (i:Int):Int:=((s.data.getD i.toNat 0).toNat:Int)
def indexA (P:Program) (t:TypeId) (x ix:AVal):Option (Bool×AVal):=
  match ix with
  | .d (.int _) i=>
    match P.underlying t with
    | some .string=>match x with
      | .d .str s=>some (decide (0≤i)&&decide (i < (ByteArray.size s:Int)),.d (.int .u8) (bt s i))
      | _=>none
    | some (.array m e)=>match x with
      | .d (.arr m' T) xs=>bif m==m'&&fitT P e (.d T T.dflt) then some (decide (0≤i)&&decide (i < (m:Int)),.d T (xs.getD i.toNat T.dflt)) else none
      | _=>none
    | _=>none
  | _=>none
theorem indexA_sound {P:Program} {o:Oper} {ρ:Operand→AVal} {v:AVal} {t:TypeId} {x ix:Operand} (ho:o.op=.index t x ix) (h:indexA P t (ρ x) (ρ ix)=some (true,v)) (B:Bx):OpD P o ρ B v B:=by
  refine OpD.value (fun G dead a ha=>?_) B
  have hx:=ha x (by rw [ho]; simp [Op.operands])
  have hix:=ha ix (by rw [ho]; simp [Op.operands])
  unfold indexA at h
  split at h
  · rename_i k i hi
    rw [hi] at hix
    have e2:=int_form hix
    split at h
    · rename_i hu
      split at h
      · rename_i s hs
        rw [hs] at hx
        have e1:=str_form hx
        simp only [Option.some.injEq,Prod.mk.injEq,Bool.and_eq_true,decide_eq_true_eq] at h
        obtain ⟨⟨h0,h1⟩,rfl⟩:=h
        have hlt:Int.toNat i < ByteArray.size s:=toNat_lt' h0 h1
        have hb:s[Int.toNat i]?=some (s[Int.toNat i]'hlt):=getElem?_pos s _ hlt
        refine ⟨.int .u8 (bt s i),fun w=>?_,leaf_v rfl rfl⟩
        simp only [execOp,ho,e1,e2,Sem.run_bind]
        unfold Instr.index
        have h0':(0:Int)≤i:=h0
        simp only [asIntOf,Sem.run_bind,Sem.run_pure,Result.andThen_ok,run_underlying' hu,if_pos h0',hb]
        have:bt s i=((s[Int.toNat i]'hlt).toNat:Int):=by
          unfold bt
          have hd:Int.toNat i < s.data.size:=hlt
          rw [Array.getD_eq_getD_getElem?,Array.getElem?_eq_getElem hd]
          rfl
        rw [this]
      · cases h
    · rename_i m e hu
      split at h
      · rename_i m' T xs hs
        rw [hs] at hx
        cases hb:m==m'&&fitT P e (.d T T.dflt) with
        | false=>rw [hb] at h; cases h
        | true=>
          simp only [hb,cond_true,Option.some.injEq,Prod.mk.injEq,Bool.and_eq_true,decide_eq_true_eq] at h
          obtain ⟨⟨h0,h1⟩,rfl⟩:=h
          simp only [Bool.and_eq_true,beq_iff_eq] at hb
          obtain ⟨rfl,hf⟩:=hb
          obtain ⟨ti,hti,hsz,hag⟩:=fitT_spec hf
          obtain ⟨cs,hc,hv | hv⟩:=hx
          · obtain ⟨hxl,hcl,hxx⟩:=hc
            have hi1:Int.toNat i < m:=toNat_lt' h0 h1
            have hr:=hxx (Int.toNat i) _ (getD_some (by rw [hxl]; exact hi1) (d:=T.dflt))
            have hm:=mul_room (s:=T.sz) hi1
            have hl:=RD.len hr
            have hrun:∀ (v':Value),(∀ w,(part e cs.toArray (Int.toNat i*ti.size)).run P w=.ok v' w)→∀ w,(execOp a.eval o).run P w=.ok (.value v') w:=by
              intro v' hp w
              have h0':(0:Int)≤i:=h0
              have h1':(i:Int) < (m:Int):=h1
              simp only [execOp,ho,hv.2,e2,Sem.run_bind]
              unfold Instr.index
              simp only [asIntOf,Sem.run_bind,Sem.run_pure,Result.andThen_ok,run_underlying' hu,run_sizeOf' hti,hp w]
              rw [if_pos ⟨h0',h1'⟩]
              simp only [Sem.run_bind,run_sizeOf' hti,Result.andThen_ok,hp w]
            have hsz':ti.size=T.sz:=hsz
            cases hag2:T.agg with
            | true=>
              refine ⟨.agg ((cs.drop (Int.toNat i*T.sz)).take T.sz).toArray,hrun _ (fun w=>?_),agg_v hr hag2⟩
              have hag':aggT P e=some true:=by rw [hag]; exact congrArg some hag2
              unfold part
              rw [Sem.run_bind,run_isAgg' hag']
              simp only [Result.andThen_ok,if_true,Sem.run_bind,run_sizeOf' hti,Sem.run_pure]
              congr 2
              apply Array.ext'
              simp [List.extract_eq_take_drop,hsz']
            | false=>
              have h1s:T.sz=1:=by cases T<;>simp [DTy.agg] at hag2<;>rfl
              rw [h1s] at hr hm hl
              have hlt:Int.toNat i*1 < cs.length:=by rw [hcl,h1s]; omega
              have hone:(cs.drop (Int.toNat i*1)).take 1=[cs[Int.toNat i*1]]:=by
                rw [List.drop_eq_getElem_cons hlt]; rfl
              rw [hone] at hr
              refine ⟨cs[Int.toNat i*1],hrun _ (fun w=>?_),leaf_v hag2 hr⟩
              have hag':aggT P e=some false:=by rw [hag]; exact congrArg some hag2
              unfold part
              rw [Sem.run_bind,run_isAgg' hag']
              simp only [Nat.mul_one] at hlt
              simp [hsz',h1s,hlt]
          · cases hv.1
      · cases h
    · cases h
  · cases h
def lenA (P:Program) (t:TypeId) (x:AVal):Option AVal:=
  match P.underlying t with
  | some (.slice _)=>match x with
    | .d (.list T) xs=>some (.d (.int .i64) (List.length xs:Int))
    | .own _ T xs=>some (.d (.int .i64) (xs.length:Int))
    | .snil=>some (.d (.int .i64) (0:Int))
    | _=>none
  | some .string=>match x with
    | .d .str s=>some (.d (.int .i64) (ByteArray.size s:Int))
    | _=>none
  | some (.array n _)=>some (.d (.int .i64) (n:Int))
  | _=>none
theorem lenA_sound {P:Program} {o:Oper} {ρ:Operand→AVal} {v:AVal} {c:Call} {t:TypeId} {x:Operand} (ho:o.op=.call c) (hcal:c.callee=.builtin .len) (hargs:c.args=#[x]) (hty:c.argTypes=#[t]) (h:lenA P t (ρ x)=some v) (B:Bx):OpD P o ρ B v B:=by
  refine OpD.value (fun G dead a ha=>?_) B
  have hx:=ha x (by rw [ho]; simp [Op.operands,Call.operands,hcal,hargs])
  have hrun:∀ (v':Value),(∀ w,(Builtin.len_ #[t] o.type #[a.eval x]).run P w=.ok v' w)→∀ w,(execOp a.eval o).run P w=.ok (.value v') w:=fun v' hv' w=>by
    simp only [execOp,ho]
    unfold resolve
    simp only [hcal,hargs,Sem.run_bind,Sem.run_pure,Result.andThen_ok,invoke,builtin,hty]
    have:(#[x]:Array Operand).map a.eval=#[a.eval x]:=by simp
    simp only [this,hv' w,Result.andThen_ok]
  unfold lenA at h
  split at h
  · rename_i e hu
    split at h
    · rename_i T xs hs
      rw [hs] at hx
      obtain ⟨A,cap,hv,_⟩:=list_form hx
      simp only [Option.some.injEq] at h
      subst h
      refine ⟨.int .i64 (List.length xs:Int),hrun _ (fun w=>?_),leaf_v rfl rfl⟩
      rw [hv]
      unfold Builtin.len_
      simp [run_underlying' hu,goInt]
    · rename_i tok T xs hs
      rw [hs] at hx
      obtain ⟨A,cap,hv,_⟩:=list_form (own_list hx)
      simp only [Option.some.injEq] at h
      subst h
      refine ⟨.int .i64 (List.length xs:Int),hrun _ (fun w=>?_),leaf_v rfl rfl⟩
      rw [hv]
      unfold Builtin.len_
      simp [run_underlying' hu,goInt]
    · rename_i hs
      rw [hs] at hx
      have hv:a.eval x=.slice none 0 0:=toV_eq (a:=.snil) rfl hx
      simp only [Option.some.injEq] at h
      subst h
      refine ⟨.int .i64 0,hrun _ (fun w=>?_),leaf_v rfl rfl⟩
      rw [hv]
      unfold Builtin.len_
      simp [run_underlying' hu,goInt]
    · cases h
  · rename_i hu
    split at h
    · rename_i s hs
      rw [hs] at hx
      have hv:=str_form hx
      simp only [Option.some.injEq] at h
      subst h
      refine ⟨.int .i64 (ByteArray.size s:Int),hrun _ (fun w=>?_),leaf_v rfl rfl⟩
      rw [hv]
      unfold Builtin.len_
      simp [run_underlying' hu,goInt]
    · cases h
  · rename_i n e hu
    simp only [Option.some.injEq] at h
    subst h
    refine ⟨.int .i64 (n:Int),hrun _ (fun w=>?_),leaf_v rfl rfl⟩
    unfold Builtin.len_
    simp [run_underlying' hu,goInt]
  · cases h
end Go.Proofs.YtkeipcalbbmncaaGreat.Abs
set_option linter.unusedVariables false
set_option linter.unusedSimpArgs false
namespace Go.Proofs.YtkeipcalbbmncaaGreat.Abs
def intOf (x:AVal):Option Int:=match x with
  | .d (.int _) i=>some i
  | _=>none
def bndA (ρ:Operand→AVal) (x:Option Operand) (dflt:Int):Option Int:=match x with
  | none=>some dflt
  | some y=>intOf (ρ y)
def sliceA (P:Program) (t:TypeId) (x:Operand) (lo hi mx:Option Operand) (ρ:Operand→AVal):Option (Bool×AVal):=
  match mx with
  | some _=>none
  | none=>match P.underlying t with
    | some .string=>match ρ x with
      | .d .str s=>match bndA ρ lo 0,bndA ρ hi (ByteArray.size s:Int) with
        | some l,some h=>some (decide (0≤l)&&decide (l≤h)&&decide (h≤(ByteArray.size s:Int)),.d .str (ByteArray.extract s l.toNat h.toNat))
        | _,_=>none
      | _=>none
    | some (.slice e)=>match szT P e with
      | some n=>match ρ x with
        | .d (.list T) xs=>match bndA ρ lo 0,bndA ρ hi (List.length xs:Int) with
          | some l,some h=>bif n==T.sz then some (decide (0≤l)&&decide (l≤h)&&decide (h≤(List.length xs:Int)),.d (.list T) (((xs:List T.El).take h.toNat).drop l.toNat:List T.El)) else none
          | _,_=>none
        | .own _ T xs=>match bndA ρ lo 0,bndA ρ hi (List.length xs:Int) with
          | some l,some h=>bif n==T.sz then some (decide (0≤l)&&decide (l≤h)&&decide (h≤(List.length xs:Int)),.d (.list T) ((xs.take h.toNat).drop l.toNat:List T.El)) else none
          | _,_=>none
        | .snil=>match bndA ρ lo 0,bndA ρ hi 0 with
          | some l,some h=>bif decide (l=0)&&decide (h=0) then some (true,.snil) else none
          | _,_=>none
        | _=>none
      | none=>none
    | _=>none
theorem intOf_v {G:Gh} {dead:List Nat} {x:AVal} {i:Int} {v:Value} (h:intOf x=some i) (hv:Rv G dead x v):∃ k,v=.int k i:=by
  unfold intOf at h
  split at h
  · rename_i k j
    simp only [Option.some.injEq] at h
    subst h
    exact ⟨k,int_form hv⟩
  · cases h
theorem run_bounds {P:Program} {G:Gh} {dead:List Nat} {ρ:Operand→AVal} {ev:Operand→Value} {lo hi:Option Operand} {isS:Bool} {len cap:Nat} {l h:Int} (hl:bndA ρ lo 0=some l) (hh:bndA ρ hi (len:Int)=some h)
    (hlv:∀ y,lo=some y→Rv G dead (ρ y) (ev y)) (hhv:∀ y,hi=some y→Rv G dead (ρ y) (ev y)) (h0:0≤l) (h1:l≤h) (h2:h≤(len:Int)) (hc:len≤cap) (w:World) :
    (Instr.sliceBounds isS len cap (lo.map ev) (hi.map ev) none).run P w=.ok (l.toNat,h.toNat,cap) w:=by
  have rb:∀ (k:IntKind) (i:Int) (y:Nat) (code:BoundsCode),0≤i→i≤(y:Int)→(Instr.sliceBound (.int k i) y code).run P w=.ok i.toNat w:=fun k i y code a b=>by
    unfold Instr.sliceBound
    simp [asIntOf,a,b]
  unfold Instr.sliceBounds
  cases hi with
  | none=>
    simp only [bndA,Option.some.injEq] at hh
    subst hh
    cases lo with
    | none=>
      simp only [bndA,Option.some.injEq] at hl
      subst hl
      simp
    | some y=>
      obtain ⟨k,hk⟩:=intOf_v hl (hlv y rfl)
      simp [hk,rb k l len .sliceB h0 h1]
  | some z=>
    obtain ⟨k2,hk2⟩:=intOf_v hh (hhv z rfl)
    have r2:=fun code=>rb k2 h cap code (by omega) (by omega)
    cases lo with
    | none=>
      simp only [bndA,Option.some.injEq] at hl
      subst hl
      simp [hk2,r2]
    | some y=>
      obtain ⟨k,hk⟩:=intOf_v hl (hlv y rfl)
      have r1:=fun code=>rb k l h.toNat code h0 (by omega)
      simp [hk,hk2,r1,r2]
theorem sliceA_sound {P:Program} {o:Oper} {ρ:Operand→AVal} {v:AVal} {t:TypeId} {x:Operand} {lo hi mx:Option Operand} (ho:o.op=.slice t x lo hi mx) (h:sliceA P t x lo hi mx ρ=some (true,v)) (B:Bx):OpD P o ρ B v B:=by
  refine OpD.value (fun G dead a ha=>?_) B
  unfold sliceA at h
  split at h
  · cases h
  have hops:∀ y,y=x∨lo=some y∨hi=some y→Rv G dead (ρ y) (a.eval y):=fun y hy=>ha y (by
    rw [ho]
    simp only [Op.operands]
    rcases hy with rfl | rfl | rfl<;>simp)
  have hx:=hops x (.inl rfl)
  have hlo:=fun y (hy:lo=some y)=>hops y (.inr (.inl hy))
  have hhi:=fun y (hy:hi=some y)=>hops y (.inr (.inr hy))
  split at h
  · rename_i hu
    split at h
    · rename_i s hs
      rw [hs] at hx
      have e1:=str_form hx
      split at h
      · rename_i l hh h1 h2
        simp only [Option.some.injEq,Prod.mk.injEq,Bool.and_eq_true,decide_eq_true_eq] at h
        obtain ⟨⟨⟨a1,a2⟩,a3⟩,rfl⟩:=h
        refine ⟨.string (ByteArray.extract s l.toNat hh.toNat),fun w=>?_,leaf_v rfl rfl⟩
        simp only [execOp,ho,e1,Sem.run_bind]
        unfold Instr.sliceAt
        simp only [Sem.run_bind,run_underlying' hu,Result.andThen_ok]
        unfold Instr.slice
        simp only [Sem.run_bind,run_underlying' hu,Result.andThen_ok,Option.map_none,Option.isSome_none,Bool.false_eq_true,if_false,Sem.run_pure]
        rw [run_bounds h1 h2 hlo hhi a1 a2 a3 (Nat.le_refl _) w]
        rfl
      · cases h
    · cases h
  · rename_i e hu
    split at h
    · rename_i n hn
      obtain ⟨ti,hti,rfl⟩:=szT_spec hn
      have key:∀ (T:DTy) (xs:List T.El) (l hh:Int),Rv G dead (.d (.list T) xs) (a.eval x)→bndA ρ lo 0=some l→bndA ρ hi (xs.length:Int)=some hh→
          (bif ti.size==T.sz then some (decide (0≤l)&&decide (l≤hh)&&decide (hh≤(xs.length:Int)),AVal.d (.list T) ((xs.take hh.toNat).drop l.toNat:List T.El)) else none)=some (true,v)→
          ∃ cv,(∀ w,(execOp a.eval o).run P w=.ok (.value cv) w)∧Rv G dead v cv:=by
        intro T xs l hh hxs h1 h2 h
        cases hb:ti.size==T.sz with
        | false=>rw [hb] at h; cases h
        | true=>
          simp only [hb,cond_true,Option.some.injEq,Prod.mk.injEq,Bool.and_eq_true,decide_eq_true_eq] at h
          obtain ⟨⟨⟨a1,a2⟩,a3⟩,rfl⟩:=h
          have hb':ti.size=T.sz:=by simpa using hb
          obtain ⟨A,cap,hv,hr⟩:=list_form hxs
          obtain ⟨A',cap',e',hcap,hrr⟩:=hr
          obtain ⟨rfl,rfl⟩:A=A'∧cap=cap':=by simpa using e'
          have hlen:((xs.take hh.toNat).drop l.toNat).length=hh.toNat - l.toNat:=by simp; omega
          refine ⟨.slice (if cap=l.toNat then A else A.map (·.add (l.toNat*ti.size))) (hh.toNat - l.toNat) (cap - l.toNat),fun w=>?_,leaf_v rfl ⟨_,_,by rw [hlen],by rw [hlen]; omega,fun hne=>?_⟩⟩
          · simp only [execOp,ho,hv,Sem.run_bind]
            unfold Instr.sliceAt
            simp only [Sem.run_bind,run_underlying' hu,Result.andThen_ok]
            unfold Instr.slice
            simp only [Sem.run_bind,run_underlying' hu,Result.andThen_ok,Option.map_none]
            rw [run_bounds h1 h2 hlo hhi a1 a2 a3 hcap w]
            simp only [Result.andThen_ok,Sem.run_bind,run_sizeOf' hti,Sem.run_pure]
          · have hpos:0 < hh.toNat - l.toNat:=by rw [← hlen]; exact List.length_pos_iff.2 hne
            have hxne:xs≠[]:=fun h0=>by subst h0; simp at a3; omega
            obtain ⟨b,off,row,rfl,hb1,hb2,hb3⟩:=hrr hxne
            rw [if_neg (by omega)]
            refine ⟨b,off+l.toNat*T.sz,row,by simp [addr_add,hb'],hb1,?_,fun i y hy=>?_⟩
            · rw [hlen,Nat.add_assoc,← Nat.add_mul]
              refine Nat.le_trans (Nat.add_le_add_left (Nat.mul_le_mul_right _ ?_) off) hb2
              omega
            · rw [List.getElem?_drop] at hy
              have hy':xs[l.toNat+i]?=some y:=by
                rw [List.getElem?_take] at hy
                split at hy
                · exact hy
                · cases hy
              have:=hb3 _ y hy'
              rw [Nat.add_mul,← Nat.add_assoc] at this
              exact this
      split at h
      · rename_i T xs hs
        rw [hs] at hx
        split at h
        · rename_i l hh h1 h2; exact key T xs l hh hx h1 h2 h
        · cases h
      · rename_i tok T xs hs
        rw [hs] at hx
        split at h
        · rename_i l hh h1 h2; exact key T xs l hh (own_list hx) h1 h2 h
        · cases h
      · rename_i hs
        rw [hs] at hx
        split at h
        · rename_i l hh h1 h2
          cases hb:decide (l=0)&&decide (hh=0) with
          | false=>rw [hb] at h; cases h
          | true=>
            rw [hb] at h
            simp only [cond_true,Option.some.injEq,Prod.mk.injEq] at h
            simp only [Bool.and_eq_true,decide_eq_true_eq] at hb
            obtain ⟨rfl,rfl⟩:=hb
            obtain ⟨_,rfl⟩:=h
            obtain ⟨cs,hc,hv | hv⟩:=hx
            · cases hv.1
            have hc':cs=[.slice none 0 0]:=hc
            subst hc'
            have hv2:a.eval x=.slice none 0 0:=by simpa using hv.2.symm
            refine ⟨.slice none 0 0,fun w=>?_,leaf_v rfl rfl⟩
            simp only [execOp,ho,hv2,Sem.run_bind]
            unfold Instr.sliceAt
            simp only [Sem.run_bind,run_underlying' hu,Result.andThen_ok]
            unfold Instr.slice
            simp only [Sem.run_bind,run_underlying' hu,Result.andThen_ok,Option.map_none]
            rw [run_bounds (len:=0) (cap:=0) h1 h2 hlo hhi (Int.le_refl _) (Int.le_refl _) (by simp) (Nat.le_refl _) w]
            simp only [Result.andThen_ok,Sem.run_bind,run_sizeOf' hti,Sem.run_pure]
            rfl
        · cases h
      · cases h
    · cases h
  · cases h
def sliceO (P:Program) (t:TypeId) (x:Operand) (lo hi mx:Option Operand) (ρ:Operand→AVal):Option (Bool×AVal):=
  match hi,mx with
  | none,none=>match P.underlying t with
    | some (.slice e)=>match szT P e with
      | some n=>match ρ x with
        | .own tok T xs=>match bndA ρ lo 0 with
          | some l=>bif n==T.sz&&decide (0 < T.sz) then some (decide (0≤l)&&decide (l≤(List.length xs:Int)),.own tok T (xs.drop l.toNat)) else none
          | none=>none
        | _=>none
      | none=>none
    | _=>none
  | _,_=>none
theorem sliceO_sound {P:Program} {o:Oper} {ρ:Operand→AVal} {v:AVal} {t:TypeId} {x:Operand} {lo hi mx:Option Operand} (ho:o.op=.slice t x lo hi mx) (h:sliceO P t x lo hi mx ρ=some (true,v)) (B:Bx):OpD P o ρ B v B:=by
  refine OpD.value (fun G dead a ha=>?_) B
  unfold sliceO at h
  split at h
  case h_2=>cases h
  have hops:∀ y,y=x∨lo=some y→Rv G dead (ρ y) (a.eval y):=fun y hy=>ha y (by
    rw [ho]
    simp only [Op.operands]
    rcases hy with rfl | rfl<;>simp)
  have hx:=hops x (.inl rfl)
  have hlo:=fun y (hy:lo=some y)=>hops y (.inr hy)
  split at h
  case h_2=>cases h
  rename_i e hu
  split at h
  case h_2=>cases h
  rename_i n hn
  obtain ⟨ti,hti,rfl⟩:=szT_spec hn
  split at h
  case h_2=>cases h
  rename_i tok T xs hs
  rw [hs] at hx
  split at h
  case h_2=>cases h
  rename_i l h1
  cases hb:ti.size==T.sz&&decide (0 < T.sz) with
  | false=>rw [hb] at h; cases h
  | true=>
    simp only [hb,cond_true,Option.some.injEq,Prod.mk.injEq,Bool.and_eq_true,decide_eq_true_eq] at h
    obtain ⟨⟨a1,a2⟩,rfl⟩:=h
    simp only [Bool.and_eq_true,beq_iff_eq,decide_eq_true_eq] at hb
    obtain ⟨hb',hpos0⟩:=hb
    obtain ⟨cs,hc,hv | hv⟩:=hx
    · cases hv.1
    obtain ⟨hr,A,cap,rfl,hor⟩:=hc
    have hv2:a.eval x=.slice A xs.length cap:=by simpa using hv.2.symm
    obtain ⟨A',cap',e',hcap,hrr⟩:=hr
    obtain ⟨rfl,rfl⟩:A=A'∧cap=cap':=by simpa using e'
    have hlen:(xs.drop l.toNat).length=xs.length - l.toNat:=by simp
    refine ⟨.slice (if cap=l.toNat then A else A.map (·.add (l.toNat*ti.size))) (xs.length - l.toNat) (cap - l.toNat),fun w=>?_,leaf_v rfl ⟨⟨_,_,by rw [hlen],by rw [hlen]; omega,fun hne=>?_⟩,_,_,by rw [hlen],?_⟩⟩
    · simp only [execOp,ho,hv2,Sem.run_bind]
      unfold Instr.sliceAt
      simp only [Sem.run_bind,run_underlying' hu,Result.andThen_ok]
      unfold Instr.slice
      simp only [Sem.run_bind,run_underlying' hu,Result.andThen_ok,Option.map_none]
      have hrb:=run_bounds (P:=P) (ρ:=ρ) (ev:=a.eval) (lo:=lo) (hi:=none) (isS:=true) (len:=xs.length) (cap:=cap) (l:=l) (h:=(xs.length:Int)) h1 rfl hlo (fun y hy=>by cases hy) a1 a2 (Int.le_refl _) hcap w
      simp only [Option.map_none,Int.toNat_natCast] at hrb
      rw [hrb]
      simp only [Result.andThen_ok,Sem.run_bind,run_sizeOf' hti,Sem.run_pure]
    · have hpos:0 < xs.length - l.toNat:=by rw [← hlen]; exact List.length_pos_iff.2 hne
      have hxne:xs≠[]:=fun h0=>by subst h0; simp at hpos
      obtain ⟨b,off,row,rfl,hb1,hb2,hb3⟩:=hrr hxne
      rw [if_neg (by omega)]
      refine ⟨b,off+l.toNat*T.sz,row,by simp [addr_add,hb'],hb1,?_,fun i y hy=>?_⟩
      · rw [hlen,Nat.add_assoc,← Nat.add_mul]
        refine Nat.le_trans (Nat.add_le_add_left (Nat.mul_le_mul_right _ ?_) off) hb2
        omega
      · rw [List.getElem?_drop] at hy
        have:=hb3 _ y hy
        rw [Nat.add_mul,← Nat.add_assoc] at this
        exact this
    · rcases hor with hor | ⟨h0,h2⟩ | ⟨b,off,row,rfl,k1,k2,k3,k4⟩
      · exact .inl hor
      · subst h0
        exact .inr (.inl ⟨by simp,by omega⟩)
      · by_cases hcl:cap=l.toNat
        · have hxl:xs.length=l.toNat:=by omega
          exact .inr (.inl ⟨by rw [List.drop_eq_nil_of_le (by omega)],by omega⟩)
        · rw [if_neg hcl]
          refine .inr (.inr ⟨b,off+l.toNat*T.sz,row,by simp [addr_add,hb'],?_,k2,?_,fun hz h0=>?_⟩)
          · rw [k1,Nat.add_assoc,← Nat.add_mul,show l.toNat+(cap - l.toNat)=cap by omega]
          · rw [k3,hlen,Nat.add_assoc,← Nat.add_mul,show l.toNat+(xs.length - l.toNat)=xs.length by omega]
          · have hl0:l.toNat=0:=by
              rcases Nat.eq_zero_or_pos l.toNat with h | h
              · exact h
              · have:=Nat.mul_pos h hpos0; omega
            rw [hl0,List.drop_zero] at h0
            rcases k4 (by rw [hl0] at hz; omega) h0 with h | h
            · exact .inl (by omega)
            · exact .inr h
def YLD:FuncId:=1000000
def Ent (P:Program) (f:FuncId):Prop:=f≠YLD∧∀ (args:Array Value) (w:World),(callFunc f args).run P w=.ok (.enter f args) w
def Ent' (P:Program) (f:FuncId):Prop:=f=YLD∨Ent P f
def Run (P:Program) (g:FuncId) (vs:List Value) (w:World) (R:Ending→World→Prop):Prop:=
  (g≠YLD→Calls P g vs.toArray w R)∧
  (g=YLD→∀ l vs',vs=.func (.yield l) #[] #[]::vs'→∃ fn tm asg bd,(Instr.yield l vs'.toArray).run P w=.ok (.round l fn tm asg bd) w∧RoundIn Fence.wide 0 P l fn tm asg bd w R)
theorem Run.mono {P:Program} {g:FuncId} {vs:List Value} {w:World} {R R':Ending→World→Prop} (h:Run P g vs w R) (hr:∀ e w',R e w'→R' e w'):Run P g vs w R':=
  ⟨fun hg=>(h.1 hg).mono hr,fun hg l vs' hv=>by
    obtain ⟨fn,tm,asg,bd,h1,h2⟩:=h.2 hg l vs' hv
    exact ⟨fn,tm,asg,bd,h1,h2.mono hr⟩⟩
theorem Run.call {P:Program} {g:FuncId} {vs:List Value} {w:World} {R:Ending→World→Prop} (hg:g≠YLD) (h:Calls P g vs.toArray w R):Run P g vs w R:=
  ⟨fun _=>h,fun e=>absurd e hg⟩
inductive Vals (G:Gh) (dead:List Nat):List AVal→List Value→Prop where
  | nil:Vals G dead [] []
  | cons {a v az vs}:Rv G dead a v→Vals G dead az vs→Vals G dead (a::az) (v::vs)
def AVal.isPan:AVal→Bool
  | .pan _=>true
  | _=>false
def lfV (s:Value):Value:=bif opqV s then s else .nilIface
theorem opqV_one {v:Value} (h:opqV v=true):v.oneCell'=true:=by
  cases v<;>first | rfl | simp [opqV] at h
theorem lfV_opq (s:Value):opqV (lfV s)=true:=by
  unfold lfV
  cases h:opqV s with
  | true=>exact h
  | false=>rfl
def wrongV (s:Value):Value:=.agg #[lfV s]
def EndIs (v:AVal) (cv:Value) (e:Ending):Prop:=match v with
  | .pan t=>∃ pv,e=.panicked [{ v:=.iface t (wrongV pv),recovered:=false }]
  | _=>e=.returned cv
theorem EndIs.ret {v:AVal} {cv:Value} {e:Ending} (h:EndIs v cv e) (hv:v.isPan=false):e=.returned cv:=by
  cases v<;>first | exact h | simp [AVal.isPan] at hv
theorem EndIs.of {v:AVal} (cv:Value) (hv:v.isPan=false):EndIs v cv (.returned cv):=by
  cases v<;>first | rfl | simp [AVal.isPan] at hv
theorem EndIs.same {v v':AVal} {cv:Value} {e:Ending} (h:EndIs v cv e) (hv:∀ t,v=.pan t↔v'=.pan t):EndIs v' cv e:=by
  by_cases h0:∃ t,v=.pan t
  · obtain ⟨t,ht⟩:=h0
    have:=(hv t).1 ht
    subst ht; subst this
    exact h
  · have h1:v.isPan=false:=by cases v<;>first | rfl | exact absurd ⟨_,rfl⟩ h0
    have h2:v'.isPan=false:=by
      cases v'<;>first | rfl | (rename_i t; exact absurd ⟨t,(hv t).2 rfl⟩ h0)
    rw [h.ret h1]
    exact .of cv h2
def OpPan (P:Program) (o:Oper) (ρ:Operand→AVal) (B:Bx) (t:TypeId) (B':Bx):Prop:=
  ∀ (G:Gh) (a:Act) (w:World),(∀ x∈o.op.operands,Rv G B.dead (ρ x) (a.eval x))→WOk G B w→
    ∀ (next:Act→World→Prop) (Q:Exit→Act→World→Prop),
      (∀ pv G' w',WOk G' B' w'→GLe G B.dead G' B'.dead→Ext G w G' w'→Q (.panic [{ v:=.iface t (wrongV pv),recovered:=false }]) a w')→∀ r,o.wpIn (Fr r) 0 P a w next Q
def OpE (P:Program) (o:Oper) (ρ:Operand→AVal) (B:Bx) (v:AVal) (B':Bx):Prop:=
  (v.isPan=false→OpD P o ρ B v B')∧∀ t,v=.pan t→OpPan P o ρ B t B'
def ACall (P:Program) (g:FuncId) (args:List AVal) (B:Bx) (v:AVal) (B':Bx):Prop:=
  Ent' P g∧∀ (G:Gh) (w:World) (vs:List Value),Vals G B.dead args vs→WOk G B w→
    Run P g vs w fun e w'=>∃ cv G',EndIs v cv e∧Rv G' B'.dead v cv∧WOk G' B' w'∧GLe G B.dead G' B'.dead∧Ext G w G' w'
structure CalT where
  run:(X:Type)→FuncId→List AVal→Bx→(AVal→Bx→Option X)→Option X
  ro:FuncId→Bool
  any:FuncId→Bool
  dr:Bool
  nv:TypeId→Bool
  ow:Bool
def CalT.drawn (C:CalT):CalT:=⟨C.run,C.ro,C.any,true,C.nv,C.ow⟩
def CalT.vecs (C:CalT) (l:List TypeId):CalT:=⟨C.run,C.ro,C.any,C.dr,l.contains,C.ow⟩
def CalT.owns (C:CalT):CalT:=⟨C.run,C.ro,C.any,C.dr,C.nv,true⟩
def Sim (B B0:Bx):Prop:=B0.box=B.box∧B0.dead=B.dead
theorem Sim.refl (B:Bx):Sim B B:=⟨rfl,rfl⟩
theorem Sim.symm {B B0:Bx} (h:Sim B B0):Sim B0 B:=⟨h.1.symm,h.2.symm⟩
theorem Sim.trans {B B0 B1:Bx} (h:Sim B B0) (k:Sim B0 B1):Sim B B1:=⟨k.1.trans h.1,k.2.trans h.2⟩
def argT (args:List AVal) (b:Nat):Bool:=args.any fun a=>match a with
  | .bptr c _=>c==b
  | .d _ _=>false
  | _=>true
def argK (g:FuncId) (args:List AVal) (b:Nat):Bool:=!KEEPA.contains g&&argT args b
def SimT (args:List AVal) (B B0:Bx):Prop:=∀ b,argT args b=true→B0.box[b]?=B.box[b]?
theorem SimT.refl (args:List AVal) (B:Bx):SimT args B B:=fun _ _=>rfl
theorem SimT.symm {args:List AVal} {B B0:Bx} (h:SimT args B B0):SimT args B0 B:=fun b hb=>(h b hb).symm
theorem SimT.trans {args:List AVal} {B B0 B1:Bx} (h:SimT args B B0) (k:SimT args B0 B1):SimT args B B1:=fun b hb=>(k b hb).trans (h b hb)
theorem Sim.t {args:List AVal} {B B0:Bx} (h:Sim B B0):SimT args B B0:=fun _ _=>by rw [h.1]
structure CRes (P:Program) (C:CalT) (g:FuncId) (args:List AVal) (B:Bx) (v:AVal) (B':Bx):Prop where
  call:ACall P g args B v B'
  ro:C.ro g=true→B'=B∧∀ B0,SimT args B B0→ACall P g args B0 v B0
  any:C.any g=true→∀ B0,ACall P g args B0 v B0
  len:B.box.length≤B'.box.length
  keep:kpF g=true→∀ b,b < B.box.length→argK g args b=false→B'.box[b]?=B.box[b]?
def CV (P:Program) (C:CalT):Prop:=∀ X g args B k r,C.run X g args B k=some r→∃ v B',k v B'=some r∧CRes P C g args B v B'
theorem CV.drawn {P:Program} {C:CalT} (hC:CV P C):CV P C.drawn:=by
  intro X g args B k r h
  obtain ⟨v,B',hk,hc⟩:=hC X g args B k r h
  exact ⟨v,B',hk,⟨hc.call,hc.ro,hc.any,hc.len,hc.keep⟩⟩
theorem CV.owns {P:Program} {C:CalT} (hC:CV P C):CV P C.owns:=by
  intro X g args B k r h
  obtain ⟨v,B',hk,hc⟩:=hC X g args B k r h
  exact ⟨v,B',hk,⟨hc.call,hc.ro,hc.any,hc.len,hc.keep⟩⟩
theorem CV.vecs {P:Program} {C:CalT} {l:List TypeId} (hC:CV P C):CV P (C.vecs l):=by
  intro X g args B k r h
  obtain ⟨v,B',hk,hc⟩:=hC X g args B k r h
  exact ⟨v,B',hk,⟨hc.call,hc.ro,hc.any,hc.len,hc.keep⟩⟩
theorem Vals.append {G:Gh} {dead:List Nat}:{az bs:List AVal}→{vs us:List Value}→Vals G dead az vs→Vals G dead bs us→Vals G dead (az++bs) (vs++us)
  | _,_,_,_,.nil,h=>h
  | _,_,_,_,.cons h t,h'=>.cons h (t.append h')
theorem vals_chain {G:Gh} {dead:List Nat}:{a:AVal}→{vs:List Value}→Rl G dead a vs→Vals G dead (unchain a) vs
  | .nil,vs,h=>by have h:vs=[]:=h; subst h; exact .nil
  | .cons a t,vs,h=>by
    obtain ⟨v,l,rfl,hv,hl⟩:=h
    exact .cons hv (vals_chain hl)
  | .d ..,vs,h | .own ..,vs,h | .pnil,vs,h | .bptr ..,vs,h | .iptr ..,vs,h | .func ..,vs,h | .fnil,vs,h | .snil,vs,h | .iface ..,vs,h | .inil,vs,h | .tuple ..,vs,h | .any,vs,h | .mnil,vs,h | .mref _,vs,h | .mobj ..,vs,h | .yref _,vs,h | .lobj ..,vs,h=>h.elim
theorem chain_vals {G:Gh} {dead:List Nat}:{az:List AVal}→{vs:List Value}→Vals G dead az vs→Rl G dead (chain az) vs
  | [],_,.nil=>rfl
  | a::az,_,.cons h t=>⟨_,_,rfl,h,chain_vals t⟩
theorem vals_map {G:Gh} {dead:List Nat} {ρ:Operand→AVal} {ev:Operand→Value}:{l:List Operand}→(∀ x∈l,Rv G dead (ρ x) (ev x))→Vals G dead (l.map ρ) (l.map ev)
  | [],_=>.nil
  | x::l,h=>.cons (h x (by simp)) (vals_map fun y hy=>h y (by simp [hy]))
def callA (C:CalT) {X:Type} (f:AVal) (args:List AVal) (B:Bx) (k:AVal→Bx→Option X):Option X:=
  match f with
  | .func (.func g) first cap=>bif g==YLD then none else C.run X g (unchain first++args++unchain cap) B k
  | .yref b=>C.run X YLD (.yref b::args) B k
  | _=>none
theorem acall_op {P:Program} {o:Oper} {ρ:Operand→AVal} {c:Call} {f:Operand} {g:FuncId} {first cap:AVal} {B B':Bx} {v:AVal} (ho:o.op=.call c) (hcal:c.callee=.value f) (hf:ρ f=.func (.func g) first cap) (hgy:g≠YLD)
    (hac:ACall P g (unchain first++c.args.toList.map ρ++unchain cap) B v B'):OpE P o ρ B v B':=by
  obtain ⟨hent,hcall⟩:=hac
  replace hent:=(hent.resolve_left hgy).2
  suffices main:∀ (G:Gh) (a:Act) (w:World),(∀ x∈o.op.operands,Rv G B.dead (ρ x) (a.eval x))→WOk G B w→∀ (next:Act→World→Prop) (Q:Exit→Act→World→Prop),
      (∀ e cv G' w',EndIs v cv e→Rv G' B'.dead v cv→WOk G' B' w'→GLe G B.dead G' B'.dead→Ext G w G' w'→match e with | .returned cv=>next (a.put o.dst cv) w' | .panicked ch=>Q (.panic ch) a w' | .outgrown=>False)→∀ r,o.wpIn (Fr r) 0 P a w next Q from
    ⟨fun hv G a w ha hw next Q hn r=>main G a w ha hw next Q (fun e cv G' w' he h1 h2 h3 h4=>by rw [he.ret hv]; exact hn cv G' w' h1 h2 h3 h4) r,
      fun t ht G a w ha hw next Q hn r=>main G a w ha hw next Q (fun e cv G' w' he h1 h2 h3 h4=>by
        subst ht
        obtain ⟨pv,rfl⟩:=he
        exact hn pv G' w' h2 h3 h4) r⟩
  intro G a w ha hw next Q hn
  have hops:∀ y,y=f∨y∈c.args.toList→Rv G B.dead (ρ y) (a.eval y):=fun y hy=>ha y (by
    rw [ho]
    simp only [Op.operands,Call.operands,hcal]
    rcases hy with rfl | hy
    · simp
    · simp [Array.mem_toList_iff.1 hy])
  have hfv:=hops f (.inl rfl)
  rw [hf] at hfv
  obtain ⟨cs,⟨fv,cv,rfl,h1,h2⟩,hh | hh⟩:=hfv
  · cases hh.1
  · have hfe:a.eval f=.func (.func g) fv.toArray cv.toArray:=by simpa using hh.2.symm
    have hvals:=((vals_chain h1).append (vals_map (ev:=a.eval) fun x hx=>hops x (.inr hx))).append (vals_chain h2)
    have hrun:(execOp a.eval o).run P w=.ok (.enter g (fv++c.args.toList.map a.eval++cv).toArray) w:=by
      simp only [execOp,ho]
      unfold resolve
      simp only [hcal,hfe,Deferred.ofValue,Sem.run_bind,Sem.run_pure,Result.andThen_ok,invoke]
      rw [hent]
      congr 2
      apply Array.ext'
      simp
    intro r
    refine ⟨fun _ _=>trivial,?_⟩
    have hrun':(o.semAt (Fr r).round a.eval).run P w=.ok (.enter g (fv++c.args.toList.map a.eval++cv).toArray) w:=semAt_run hrun (fun d=>by simp)
    rw [hrun',Oper.uponIn_enter]
    refine ⟨(fun h=>by cases h),callsIn_wide.2 (((hcall G w _ hvals hw).1 hgy).mono ?_)⟩
    rintro e w' ⟨cv',G',g0,g1,g2,g3,g4⟩
    have:=hn e cv' G' w' g0 g1 g2 g3 g4
    cases e<;>first | exact this | exact this.elim
theorem acall_yop {P:Program} {o:Oper} {ρ:Operand→AVal} {c:Call} {f:Operand} {b:Nat} {B B':Bx} {v:AVal} (ho:o.op=.call c) (hcal:c.callee=.value f) (hf:ρ f=.yref b)
    (hac:ACall P YLD (.yref b::c.args.toList.map ρ) B v B'):OpE P o ρ B v B':=by
  obtain ⟨_,hcall⟩:=hac
  suffices main:∀ (G:Gh) (a:Act) (w:World),(∀ x∈o.op.operands,Rv G B.dead (ρ x) (a.eval x))→WOk G B w→∀ (next:Act→World→Prop) (Q:Exit→Act→World→Prop),
      (∀ e cv G' w',EndIs v cv e→Rv G' B'.dead v cv→WOk G' B' w'→GLe G B.dead G' B'.dead→Ext G w G' w'→match e with | .returned cv=>next (a.put o.dst cv) w' | .panicked ch=>Q (.panic ch) a w' | .outgrown=>False)→∀ r,o.wpIn (Fr r) 0 P a w next Q from
    ⟨fun hv G a w ha hw next Q hn r=>main G a w ha hw next Q (fun e cv G' w' he h1 h2 h3 h4=>by rw [he.ret hv]; exact hn cv G' w' h1 h2 h3 h4) r,
      fun t ht G a w ha hw next Q hn r=>main G a w ha hw next Q (fun e cv G' w' he h1 h2 h3 h4=>by
        subst ht
        obtain ⟨pv,rfl⟩:=he
        exact hn pv G' w' h2 h3 h4) r⟩
  intro G a w ha hw next Q hn
  have hops:∀ y,y=f∨y∈c.args.toList→Rv G B.dead (ρ y) (a.eval y):=fun y hy=>ha y (by
    rw [ho]
    simp only [Op.operands,Call.operands,hcal]
    rcases hy with rfl | hy
    · simp
    · simp [Array.mem_toList_iff.1 hy])
  have hfv:=hops f (.inl rfl)
  have hfv':=hfv
  rw [hf] at hfv
  obtain ⟨cs,⟨blk,_,rfl⟩,hh | hh⟩:=hfv
  · cases hh.1
  · have hfe:a.eval f=.func (.yield blk) #[] #[]:=by simpa using hh.2.symm
    rw [hf,hfe] at hfv'
    have hvals:=Vals.cons hfv' (vals_map (ev:=a.eval) fun x hx=>hops x (.inr hx))
    obtain ⟨fn,tm,asg,bd,h1,h2⟩:=(hcall G w _ hvals hw).2 rfl blk _ rfl
    have hrun:(execOp a.eval o).run P w=.ok (.round blk fn tm asg bd) w:=by
      simp only [execOp,ho]
      unfold resolve
      simp only [hcal,hfe,Deferred.ofValue,Sem.run_bind,Sem.run_pure,Result.andThen_ok,invoke]
      rw [← h1]
      congr 2
      apply Array.ext'
      simp
    intro r
    refine ⟨fun _ _=>trivial,?_⟩
    have hrun':(o.semAt (Fr r).round a.eval).run P w=.ok (.round blk fn tm asg bd) w:=semAt_run hrun (fun d=>by simp)
    rw [hrun',Oper.uponIn_round]
    refine ⟨(fun h=>by cases h),RoundIn.mono h2 ?_⟩
    rintro e w' ⟨cv',G',g0,g1,g2,g3,g4⟩
    have:=hn e cv' G' w' g0 g1 g2 g3 g4
    cases e<;>first | exact this | exact this.elim
theorem callA_sound {P:Program} {C:CalT} {X:Type} {o:Oper} {ρ:Operand→AVal} {c:Call} {f:Operand} {B:Bx} {k:AVal→Bx→Option X} {r:X} (hC:CV P C) (ho:o.op=.call c) (hcal:c.callee=.value f) (h:callA C (ρ f) (c.args.toList.map ρ) B k=some r) (hρ:∀ f,ρ (.func f)=.func (.func f) .nil .nil) :
    ∃ v B',k v B'=some r∧OpE P o ρ B v B'∧(∀ g,f=.func g→(C.ro g=true→B'=B∧∀ B0,SimT (c.args.toList.map ρ) B B0→OpE P o ρ B0 v B0)∧(C.any g=true→∀ B0,OpE P o ρ B0 v B0)∧(kpF g=true→∀ b,b < B.box.length→argK g (c.args.toList.map ρ) b=false→B'.box[b]?=B.box[b]?))∧B.box.length≤B'.box.length:=by
  unfold callA at h
  split at h
  · rename_i g first cap hf
    cases hgy:g==YLD with
    | true=>rw [hgy] at h; cases h
    | false=>
    rw [hgy] at h
    simp only [cond_false] at h
    replace hgy:g≠YLD:=by simpa using hgy
    obtain ⟨v,B',hk,hac⟩:=hC _ _ _ _ _ _ h
    refine ⟨v,B',hk,acall_op ho hcal hf hgy hac.call,fun g' hg=>?_,hac.len⟩
    have hgg:g=g'∧first=.nil∧cap=.nil:=by subst hg; rw [hρ] at hf; injection hf with e1 e2 e3; injection e1 with e1; exact ⟨e1.symm,e2.symm,e3.symm⟩
    obtain ⟨rfl,rfl,rfl⟩:=hgg
    exact ⟨fun hr=>⟨(hac.ro hr).1,fun B0 hs=>acall_op ho hcal hf hgy ((hac.ro hr).2 B0 fun b hb=>hs b (by simpa [argT,unchain] using hb))⟩,fun hr B0=>acall_op ho hcal hf hgy (hac.any hr B0),fun hp b hb ha=>hac.keep hp b hb (by simpa [argK,argT,unchain] using ha)⟩
  · rename_i b hf
    obtain ⟨v,B',hk,hac⟩:=hC _ _ _ _ _ _ h
    refine ⟨v,B',hk,acall_yop ho hcal hf hac.call,fun g' hg=>?_,hac.len⟩
    subst hg
    rw [hρ] at hf
    cases hf
  · cases h
end Go.Proofs.YtkeipcalbbmncaaGreat.Abs
end
