import Derived.Test.YtkeipcalbbmncaaGreatA2
import Derived.Scope
import Derived.LoopN
set_option linter.unusedVariables false
set_option linter.unusedSimpArgs false
namespace Go.Proofs.YtkeipcalbbmncaaGreat.Abs
structure Grew (w w':World):Prop where
  os:w'.os=w.os
  tape:w'.tape=w.tape
  output:w'.output=w.output
  size:w.heap.size≤w'.heap.size
  same:∀ b,b < w.heap.size→w'.heap[b]?=w.heap[b]?
theorem Grew.refl (w:World):Grew w w:=⟨rfl,rfl,rfl,Nat.le_refl _,fun _ _=>rfl⟩
theorem Grew.ext {w w':World} (h:Grew w w') (G:Gh):Ext G w G w':=⟨h.os,h.tape,h.output,h.size,fun b hb _ _=>h.same b hb,ImmLe.refl _,fun _ _ _=>rfl,fun _ h=>.inl h,fun t b n h=>.inl ⟨t,h⟩⟩
theorem WOk.grew {G:Gh} {B:Bx} {w w':World} (h:WOk G B w) (g:Grew w w'):WOk G B w':=by
  refine ⟨h.len,h.nodup,fun i b c hb hc=>?_,fun b row hb=>?_,h.disj,fun t b n ht=>?_,h.inj,h.tab.ext (g.ext G),?_⟩
  · have hbo:=h.boxes i b c hb hc
    obtain ⟨_,_,k,_⟩:=id hbo
    exact hbo.mono (GLe.refl _ _) (g.same b (heap_lt k))
  · obtain ⟨cs,e,fr,k,hp⟩:=h.imm b row hb
    exact ⟨cs,e,fr,by rw [g.same b (heap_lt k)]; exact k,hp⟩
  · obtain ⟨h1,h2,cs,e,k,h3⟩:=h.own t b n ht
    exact ⟨h1,h2,cs,e,by rw [g.same b (heap_lt k)]; exact k,h3⟩
  · refine h.vec.mono (fun _ _ _ _ hx=>hx) (fun _ h=>.inl h) (fun t b n _ h1 h2=>⟨h1,h2,?_⟩) (ImmLe.refl _)
    obtain ⟨_,_,cs,e,k,_⟩:=h.own t b n h1
    exact g.same b (heap_lt k)
theorem grew_alloc (w:World) (o:Obj):Grew w (w.alloc o):=⟨rfl,rfl,rfl,by simp,fun b hb=>heap_push_lt hb⟩
structure Lone (G:Gh) (w0 w:World) (b:Nat):Prop where
  addr:b ∉ G.addr
  own:∀ t n,G.own t≠some (b,n)
  imm:G.imm b=none
  new:w0.heap.size≤b
theorem Lone.ext {G G':Gh} {w0 w w':World} {b:Nat} (h:Lone G w0 w b) (hb:b < w.heap.size) (x:Ext G w G' w'):Lone G' w0 w' b:=by
  refine ⟨fun hm=>?_,fun t n hn=>?_,?_,h.new⟩
  · rcases x.addr b hm with hm | hm
    · exact h.addr hm
    · omega
  · rcases x.own t b n hn with ⟨t',ht⟩ | hm
    · exact h.own t' n ht
    · omega
  · rw [x.same b hb h.own]; exact h.imm
theorem reg_box {G:Gh} {B:Bx} {w0 w:World} {c:AVal} {o:Obj} {cs:List Value} {blk:Nat} (hw:WOk G B w) (hl:Lone G w0 w blk) (ht:∀ q∈TABS,q.1≠blk) (hv:c.isV=false) (hm:Holds c.knd cs o) (hh:w.heap[blk]?=some o) (hc:Rc G B.dead c cs) :
    WOk { G with addr:=G.addr++[blk] } (B.push c) w∧GLe G B.dead { G with addr:=G.addr++[blk] } B.dead∧(G.addr++[blk])[B.box.length]?=some blk:=by
  have hle:GLe G B.dead { G with addr:=G.addr++[blk] } B.dead:=⟨ImmLe.refl _,List.prefix_append _ _,fun _ h=>h,fun _ _ _ _ h=>⟨h,fun _ h=>h⟩⟩
  refine ⟨?_,hle,?_⟩
  · refine ⟨by simp [Bx.push,hw.len],?_,fun i b c' hb hc'=>?_,fun b row hb=>hw.imm b row hb,fun b hb=>?_,fun t b n ht=>?_,hw.inj,?_,?_⟩
    · refine List.nodup_append.2 ⟨hw.nodup,by simp,fun a ha b hb=>?_⟩
      simp only [List.mem_singleton] at hb
      subst hb
      exact fun e=>hl.addr (e ▸ ha)
    · by_cases hi:i < B.box.length
      · have hi':i < G.addr.length:=by rw [hw.len]; exact hi
        have hb':G.addr[i]?=some b:=by
          have:(G.addr++[blk])[i]?=some b:=hb
          rwa [List.getElem?_append_left hi'] at this
        have hc'':B.box[i]?=some c':=by
          have:(B.box++[c])[i]?=some c':=hc'
          rwa [List.getElem?_append_left hi] at this
        exact (hw.boxes i b c' hb' hc'').mono hle rfl
      · have hb':(G.addr++[blk])[i]?=some b:=hb
        have hc'':(B.box++[c])[i]?=some c':=hc'
        rw [List.getElem?_append_right (by rw [hw.len]; omega)] at hb'
        rw [List.getElem?_append_right (by omega)] at hc''
        have hi0:i - B.box.length=0:=by
          have:=(List.getElem?_eq_some_iff.1 hc'').1
          simp at this
          omega
        rw [hw.len,hi0] at hb'
        rw [hi0] at hc''
        simp only [List.getElem?_cons_zero,Option.some.injEq] at hb' hc''
        subst hb'; subst hc''
        exact ⟨o,cs,hh,hm,hc.mono hle⟩
    · rcases List.mem_append.1 hb with hb | hb
      · exact hw.disj b hb
      · simp only [List.mem_singleton] at hb
        subst hb
        exact hl.imm
    · obtain ⟨h1,h2,cs,e',hh',hs⟩:=hw.own t b n ht
      refine ⟨h1,h2.of rfl fun i c' k1 k2=>?_,cs,e',hh',hs⟩
      by_cases hi:i < B.box.length
      · have hi':i < G.addr.length:=by rw [hw.len]; exact hi
        have k1':(G.addr++[blk])[i]?=some b:=k1
        have k2':(B.box++[c])[i]?=some c':=k2
        rw [List.getElem?_append_left hi'] at k1'
        rw [List.getElem?_append_left hi] at k2'
        exact .inr ⟨i,c',k1',k2',fun h=>h⟩
      · have k1':(G.addr++[blk])[i]?=some b:=k1
        rw [List.getElem?_append_right (by rw [hw.len]; omega)] at k1'
        have:=List.mem_of_getElem? k1'
        simp only [List.mem_singleton] at this
        subst this
        exact absurd ht (hl.own t n)
    · intro q hq
      obtain ⟨h1,h2,h3⟩:=hw.tab q hq
      refine ⟨h1,fun hm=>?_,h3⟩
      rcases List.mem_append.1 hm with hm | hm
      · exact h2 hm
      · simp only [List.mem_singleton] at hm
        exact ht q hq hm
    · refine hw.vec.mono (fun i t T xs hx=>?_) (fun t h=>.inl h) (fun t b n _ h1 h2=>⟨h1,h2,rfl⟩) (ImmLe.refl _)
      have hx':(B.box++[c])[i]?=some (.vrow t T xs):=hx
      by_cases hi:i < B.box.length
      · rwa [List.getElem?_append_left hi] at hx'
      · rw [List.getElem?_append_right (by omega)] at hx'
        have:=List.mem_of_getElem? hx'
        simp only [List.mem_singleton] at this
        rw [← this] at hv
        cases hv
  · rw [← hw.len,List.getElem?_append_right (Nat.le_refl _)]
    simp
def isLd (o:Oper):Bool:=match o.op with
  | .load ..=>true
  | _=>false
theorem isLd_notC {C:CalT} {o:Oper} (h:isLd o=true):isC C o=false:=by
  unfold isLd at h
  split at h
  · rename_i hop
    unfold isC isR
    rw [hop]; simp
  · cases h
theorem allocA_is {P:Program} {t:TypeId} {B B':Bx} {v:AVal} (h:allocA P t B=some (v,B')):∃ c zs,v=.bptr B.box.length []∧B'=B.push c∧c.isV=false∧zeroV P t=some zs∧(∀ cells:Array Value,cells.toList=zs→Holds c.knd zs (.cells cells t (0,0)))∧∀ G,Rc G B.dead c zs:=by
  unfold allocA at h
  split at h
  · rename_i c hc
    split at h
    · rename_i cs zs hcs hzs
      cases he:eqZs cs zs&&!c.isM with
      | false=>simp [he] at h
      | true=>
        simp only [he,cond_true,Option.some.injEq,Prod.mk.injEq] at h
        obtain ⟨rfl,rfl⟩:=h
        simp only [Bool.and_eq_true,Bool.not_eq_true'] at he
        have hnm:=he.2
        have:=eqZs_eq he.1
        subst this
        cases hbt:BLDS.contains t with
        | true=>exact ⟨.tbox t c,cs,rfl,rfl,rfl,hzs,fun cells hce=>⟨cells,rfl,hce.symm⟩,fun G=>(zcells_rc hcs:Rc G B.dead c cs)⟩
        | false=>exact ⟨c,cs,rfl,rfl,isV_of hnm,hzs,fun cells hce=>by rw [knd_cells hnm]; exact ⟨cells,t,rfl,hce.symm⟩,fun G=>zcells_rc hcs⟩
    · cases h
  · cases h
theorem alloc_run {P:Program} {o:Oper} {t:TypeId} {zs:List Value} {ev:Operand→Value} {w:World} (ho:o.op=.alloc t) (hz:zeroV P t=some zs):∃ cells:Array Value,cells.toList=zs∧(execOp ev o).run P w=.ok (.value (.pointer (some ⟨w.heap.size,0,none⟩))) (w.alloc (.cells cells t)):=by
  unfold zeroV at hz
  split at hz
  · rename_i ti hti
    split at hz
    · rename_i z hz2
      simp only [Option.some.injEq] at hz
      refine ⟨z.cells,hz,?_⟩
      simp only [execOp,ho]
      rw [Sem.run_bind]
      unfold Instr.alloc
      rw [Sem.run_bind]
      have hzv:(zeroValue t).run P w=.ok z w:=by
        unfold zeroValue
        rw [Sem.run_bind,run_typeInfo' hti,Result.andThen_ok]
        simp only [hz2]
        rfl
      rw [hzv]
      rfl
    · cases hz
  · cases hz
structure PendP (ops:Array Oper) (n1 len:Nat):Prop where
  le:n1≤ops.size
  kind:∀ (i:Nat) (o:Oper),i < n1→ops.toList[i]?=some o→isLd o=true∨isAl o=true
  loads:∀ (i j:Nat) (o oj:Oper),i < n1→ops.toList[i]?=some o→isLd o=true→j < i→ops.toList[j]?=some oj→isLd oj=true
  guard:∀ (i:Nat) (o:Oper),i < n1→ops.toList[i]?=some o→o.guard=none
  dst:∀ (i:Nat) (o:Oper),i < n1→ops.toList[i]?=some o→∃ t,o.dst=some t∧t < len
  apart:∀ (i j:Nat) (o oj:Oper) (t:Tmp),i < n1→j < n1→ops.toList[i]?=some o→ops.toList[j]?=some oj→o.dst=some t→oj.dst=some t→i=j
  old:∀ (i j:Nat) (o oj:Oper) (t:Tmp),i < n1→j < n1→ops.toList[i]?=some o→ops.toList[j]?=some oj→Operand.tmp t∈o.op.operands→oj.dst≠some t
  edge:∀ (i:Nat) (o:Oper),ops.toList[i]?=some o→∀ e∈o.after,Region.binds .any e=true→e.on < i
  late:∀ (i j:Nat) (o oj:Oper),n1≤i→ops.toList[i]?=some o→j < n1→ops.toList[j]?=some oj→isAl oj=true→((ancs ops.toList).getD i 0).testBit j=true
def pendOk (ops:Array Oper) (n1 len:Nat):Bool:=
  let l:=ops.toList
  let A:=ancs l
  let Z:=l.zipIdx
  decide (n1≤ops.size) &&
  Z.all fun (o,i)=>
    (o.after.toList.all fun e=>!Region.binds .any e||decide (e.on < i)) &&
    bif decide (i < n1) then
      (isLd o||isAl o)&&(!isLd o||Z.all fun (oj,j)=>!decide (j < i)||isLd oj) &&
      o.guard.isNone&&(match o.dst with
        | some t=>decide (t < len)&&Z.all fun (oj,j)=>j==i||!decide (j < n1)||oj.dst != some t
        | none=>false) &&
      (o.op.operands.toList.all fun x=>match x with
        | .tmp t=>Z.all fun (oj,j)=>!decide (j < n1)||oj.dst != some t
        | _=>true)
    else Z.all fun (oj,j)=>!decide (j < n1)||!isAl oj||(A.getD i 0).testBit j
theorem pendOk_spec {ops:Array Oper} {n1 len:Nat} (h:pendOk ops n1 len=true):PendP ops n1 len:=by
  have mem:∀ {i:Nat} {o:Oper},ops.toList[i]?=some o→(o,i)∈ops.toList.zipIdx:=fun {i o} ho=>by
    rw [List.mem_zipIdx_iff_getElem?]; exact ho
  unfold pendOk at h
  simp only [Bool.and_eq_true,decide_eq_true_eq] at h
  have key:∀ i o,ops.toList[i]?=some o→_:=fun i o ho=>List.all_eq_true.1 h.2 (o,i) (mem ho)
  simp only [Bool.and_eq_true] at key
  have k1:∀ i o,i < n1→ops.toList[i]?=some o→(isLd o=true∨isAl o=true)∧(isLd o=true→∀ j oj,ops.toList[j]?=some oj→j < i→isLd oj=true)∧o.guard.isNone=true∧(∃ t,o.dst=some t∧t < len∧∀ j oj,j < n1→ops.toList[j]?=some oj→oj.dst=some t→j=i)∧∀ t,Operand.tmp t∈o.op.operands→∀ j oj,j < n1→ops.toList[j]?=some oj→oj.dst≠some t:=fun i o hi ho=>by
    have:=(key i o ho).2
    rw [decide_eq_true hi] at this
    simp only [cond_true,Bool.and_eq_true] at this
    obtain ⟨⟨⟨⟨a4,a5⟩,a1⟩,a2⟩,a3⟩:=this
    refine ⟨by simpa using a4,fun hl j oj hoj hji=>?_,a1,?_,fun t ht j oj hj hoj he=>?_⟩
    · rw [hl] at a5
      simp only [Bool.not_true,Bool.false_or] at a5
      have h2:=List.all_eq_true.1 a5 (oj,j) (mem hoj)
      simpa [hji] using h2
    · cases hd:o.dst with
      | none=>rw [hd] at a2; cases a2
      | some t=>
        rw [hd] at a2
        simp only [Bool.and_eq_true,decide_eq_true_eq] at a2
        refine ⟨t,rfl,a2.1,fun j oj hj hoj he=>?_⟩
        have h2:=List.all_eq_true.1 a2.2 (oj,j) (mem hoj)
        simp only [Bool.or_eq_true,beq_iff_eq,bne_iff_ne,ne_eq,Bool.not_eq_true',decide_eq_false_iff_not] at h2
        rcases h2 with (h2 | h2) | h2
        · exact h2
        · exact absurd hj h2
        · exact absurd he h2
    · have h2:=List.all_eq_true.1 a3 _ (Array.mem_toList_iff.2 ht)
      have h3:=List.all_eq_true.1 h2 (oj,j) (mem hoj)
      simp only [Bool.or_eq_true,bne_iff_ne,ne_eq,Bool.not_eq_true',decide_eq_false_iff_not] at h3
      rcases h3 with h3 | h3
      · exact h3 hj
      · exact h3 he
  refine ⟨h.1,fun i o hi ho=>(k1 i o hi ho).1,fun i j o oj hi ho hl hji hoj=>(k1 i o hi ho).2.1 hl j oj hoj hji,fun i o hi ho=>?_,fun i o hi ho=>?_,fun i j o oj t hi hj ho hoj hd hdj=>?_,fun i j o oj t hi hj ho hoj ht=>(k1 i o hi ho).2.2.2.2 t ht j oj hj hoj,fun i o ho e he hb=>?_,fun i j o oj hi ho hj hoj hal=>?_⟩
  · simpa using (k1 i o hi ho).2.2.1
  · obtain ⟨t,h1,h2,_⟩:=(k1 i o hi ho).2.2.2.1
    exact ⟨t,h1,h2⟩
  · obtain ⟨t',h1,_,h3⟩:=(k1 i o hi ho).2.2.2.1
    rw [hd] at h1; cases h1
    exact (h3 j oj hj hoj hdj).symm
  · have:=List.all_eq_true.1 (key i o ho).1 e (Array.mem_toList_iff.2 he)
    simpa [hb] using this
  · have:=(key i o ho).2
    rw [decide_eq_false (by omega)] at this
    simp only [cond_false] at this
    have h2:=List.all_eq_true.1 this (oj,j) (mem hoj)
    simpa [hj,hal] using h2
structure P1 (P:Program) (env0:List AVal) (B0:Bx) (vl:Nat→AVal) (ops:Array Oper) (n1:Nat) (G0:Gh) (w0:World) (a0:Act) (listed:Array Bool) (G:Gh) (a:Act) (w:World):Prop where
  size:listed.size=ops.size
  low:∀ j,n1≤j→listed.getD j false=false
  wok:WOk G B0 w
  gle:GLe G0 B0.dead G B0.dead
  ext:Ext G0 w0 G w
  tsz:a.tmps.size=env0.length
  defs:a.defers=a0.defers
  old:∀ t,(∀ (j:Nat) (o:Oper),j < n1→ops.toList[j]?=some o→o.dst=some t→listed.getD j false=false)→Rv G B0.dead (env0.getD t .any) (a.tmps.getD t undef)
  ld:∀ (j:Nat) (o:Oper) (t:Tmp),j < n1→ops.toList[j]?=some o→isLd o=true→o.dst=some t→listed.getD j false=true→Rv G B0.dead (vl j) (a.tmps.getD t undef)
  al:∃ bf:Nat→Nat,(∀ (j:Nat) (o:Oper) (t:Tmp) (T:TypeId),j < n1→ops.toList[j]?=some o→o.op=.alloc T→o.dst=some t→listed.getD j false=true→Lone G w0 w (bf j)∧a.tmps.getD t undef=.pointer (some ⟨bf j,0,none⟩)∧∃ cells:Array Value,zeroV P T=some cells.toList∧w.heap[bf j]?=some (.cells cells T (0,0)))∧
    ∀ (j j':Nat) (o o':Oper) (T T':TypeId),j < n1→j' < n1→ops.toList[j]?=some o→ops.toList[j']?=some o'→o.op=.alloc T→o'.op=.alloc T'→listed.getD j false=true→listed.getD j' false=true→bf j=bf j'→j=j'
theorem put_same {a:Act} {t u:Tmp} {v:Value} (h:u≠t):(a.put (some t) v).tmps.getD u undef=a.tmps.getD u undef:=by
  simp only [Act.put]
  rw [Array.getD_eq_getD_getElem?,Array.getD_eq_getD_getElem?,Array.getElem?_setIfInBounds,if_neg (fun e=>h e.symm)]
theorem put_new {a:Act} {t:Tmp} {v:Value} (h:t < a.tmps.size):(a.put (some t) v).tmps.getD t undef=v:=by
  simp only [Act.put]
  rw [Array.getD_eq_getD_getElem?,Array.getElem?_setIfInBounds,if_pos rfl,if_pos h]; rfl
theorem listed_same {listed:Array Bool} {i j:Nat} (h:j≠i):(listed.setIfInBounds i true).getD j false=listed.getD j false:=getD_set_ne false (Ne.symm h)
theorem listed_new {listed:Array Bool} {i:Nat} (h:i < listed.size):(listed.setIfInBounds i true).getD i false=true:=by simp [h]
theorem P1.step {P:Program} {env0:List AVal} {B0:Bx} {vl:Nat→AVal} {ops:Array Oper} {n1:Nat} {G0:Gh} {w0:World} {a0:Act} {listed:Array Bool} {G:Gh} {a:Act} {w:World} (hp:PendP ops n1 env0.length) (h:P1 P env0 B0 vl ops n1 G0 w0 a0 listed G a w)
    (ht:∀ (j:Nat) (o:Oper),j < n1→ops.toList[j]?=some o→(isLd o=true∧OpD P o (opA env0) B0 (vl j) B0)∨∃ t v B1 B2,o.op=.alloc t∧allocA P t B1=some (v,B2)) {i:Nat} {o:Oper} (hi:i < n1) (ho:ops.toList[i]?=some o) (hu:listed.getD i false=false) {Q:Exit→Act→World→Prop} {K:Act→World→Prop} (r:Option Nat)
    (hK:∀ G' a' w',P1 P env0 B0 vl ops n1 G0 w0 a0 (listed.setIfInBounds i true) G' a' w'→K a' w'):wpOpIn (Fr r) 0 P ops Q i K a w:=by
  have hil:i < listed.size:=by rw [h.size]; have:=(List.getElem?_eq_some_iff.1 ho).1; simpa using this
  obtain ⟨t,htd,htl⟩:=hp.dst i o hi ho
  have hts:t < a.tmps.size:=by rw [h.tsz]; exact htl
  have hlow:∀ j,n1≤j→(listed.setIfInBounds i true).getD j false=false:=fun j hj=>by rw [listed_same (by omega)]; exact h.low j hj
  have hoth:∀ (j:Nat) (oj:Oper) (u:Tmp),j < n1→ops.toList[j]?=some oj→oj.dst=some u→j≠i→u≠t:=fun j oj u hj hoj hd hne e=>by
    subst e
    exact hne (hp.apart j i oj o u hj hi hoj ho hd htd)
  have hnot:∀ u,(∀ (j:Nat) (oj:Oper),j < n1→ops.toList[j]?=some oj→oj.dst=some u→(listed.setIfInBounds i true).getD j false=false)→u≠t∧∀ (j:Nat) (oj:Oper),j < n1→ops.toList[j]?=some oj→oj.dst=some u→listed.getD j false=false:=fun u hq=>by
    constructor
    · intro e
      subst e
      have:=hq i o hi ho htd
      rw [listed_new hil] at this; cases this
    · intro j oj hj hoj hd
      have:=hq j oj hj hoj hd
      by_cases e:j=i
      · subst e; exact hu
      · rwa [listed_same e] at this
  unfold wpOpIn
  rw [(by rw [← Array.getElem?_toList]; exact ho:ops[i]?=some o)]
  simp only
  rw [if_pos (by unfold Region.wanted; rw [hp.guard i o hi ho])]
  obtain ⟨bf,hb1,hb2⟩:=h.al
  rcases ht i o hi ho with ⟨hld,hop⟩ | ⟨T,v,B1,B2,hal,haa⟩
  · refine hop G a w (fun x hx=>?_) h.wok _ Q (fun cv G1 w1 k1 k2 k3 k4=>?_) r
    · cases x with
      | tmp u=>exact h.old u fun j oj hj hoj hd=>absurd hd (hp.old i j o oj u hi hj ho hoj hx)
      | const v=>exact constA_v v
      | global g=>exact any_v _
      | func f=>exact leaf_v rfl ⟨[],[],rfl,rfl,rfl⟩
    · rw [htd]
      have hne:∀ (j:Nat) (oj:Oper) (T:TypeId),ops.toList[j]?=some oj→oj.op=.alloc T→j≠i:=fun j oj T hoj ha e=>by
        subst e
        rw [ho] at hoj; cases hoj
        unfold isLd at hld
        rw [ha] at hld; cases hld
      refine hK G1 _ w1 ⟨by simp [h.size],hlow,k2,h.gle.trans k3,h.ext.trans k4,by simp [Act.put,h.tsz],by rw [put_defers']; exact h.defs,fun u hq=>?_,fun j oj u hj hoj hl hd hli=>?_,bf,fun j oj u T hj hoj ha hd hli=>?_,fun j j' oj oj' T T' hj hj' hoj hoj' ha ha' hli hli' he=>?_⟩
      · obtain ⟨q1,q2⟩:=hnot u hq
        rw [put_same q1]
        exact (h.old u q2).mono k3
      · by_cases e:j=i
        · subst e
          rw [ho] at hoj; cases hoj
          rw [htd] at hd; cases hd
          rw [put_new hts]; exact k1
        · rw [put_same (hoth j oj u hj hoj hd e)]
          rw [listed_same e] at hli
          exact (h.ld j oj u hj hoj hl hd hli).mono k3
      · have e:=hne j oj T hoj ha
        rw [listed_same e] at hli
        obtain ⟨c1,c2,cells,c3,c4⟩:=hb1 j oj u T hj hoj ha hd hli
        refine ⟨c1.ext (heap_lt c4) k4,by rw [put_same (hoth j oj u hj hoj hd e)]; exact c2,cells,c3,?_⟩
        rw [k4.frame _ (heap_lt c4) c1.addr c1.own]; exact c4
      · rw [listed_same (hne j oj T hoj ha)] at hli
        rw [listed_same (hne j' oj' T' hoj' ha')] at hli'
        exact hb2 j j' oj oj' T T' hj hj' hoj hoj' ha ha' hli hli' he
  · obtain ⟨c,zs,_,_,_,hz,_,_⟩:=allocA_is haa
    obtain ⟨cells,hcs,hrun⟩:=alloc_run (ev:=a.eval) (w:=w) hal hz
    refine wp_of_run hrun ?_ r
    rw [htd]
    have hg:=grew_alloc w (.cells cells T)
    have hnld:isLd o=false:=by unfold isLd; rw [hal]
    have lt:∀ (j:Nat) (oj:Oper) (u:Tmp) (T:TypeId),j < n1→ops.toList[j]?=some oj→oj.op=.alloc T→oj.dst=some u→listed.getD j false=true→bf j < w.heap.size:=fun j oj u T hj hoj ha hd hli=>by
      obtain ⟨_,_,cells,_,c4⟩:=hb1 j oj u T hj hoj ha hd hli
      exact heap_lt c4
    refine hK G _ _ ⟨by simp [h.size],hlow,h.wok.grew hg,h.gle,h.ext.trans (hg.ext G),by simp [Act.put,h.tsz],by rw [put_defers']; exact h.defs,fun u hq=>?_,fun j oj u hj hoj hl hd hli=>?_,fun j=>if j=i then w.heap.size else bf j,fun j oj u T' hj hoj ha hd hli=>?_,fun j j' oj oj' T1 T2 hj hj' hoj hoj' ha ha' hli hli' he=>?_⟩
    · obtain ⟨q1,q2⟩:=hnot u hq
      rw [put_same q1]
      exact h.old u q2
    · by_cases e:j=i
      · subst e
        rw [ho] at hoj; cases hoj
        rw [hnld] at hl; cases hl
      · rw [put_same (hoth j oj u hj hoj hd e)]
        rw [listed_same e] at hli
        exact h.ld j oj u hj hoj hl hd hli
    · by_cases e:j=i
      · subst e
        rw [ho] at hoj; cases hoj
        rw [htd] at hd; cases hd
        rw [hal] at ha; cases ha
        dsimp only
        rw [if_pos rfl]
        refine ⟨⟨fun hm=>?_,fun t n hn=>?_,?_,h.ext.size⟩,put_new hts,cells,by rw [hcs]; exact hz,heap_push_eq⟩
        · have:=h.wok.addr_lt hm; omega
        · obtain ⟨_,_,_,_,hh,_⟩:=h.wok.own t _ n hn
          have:=heap_lt hh; omega
        · cases hq:G.imm w.heap.size with
          | none=>rfl
          | some row=>have:=h.wok.imm_lt hq; omega
      · dsimp only
        rw [if_neg e]
        rw [listed_same e] at hli
        obtain ⟨c1,c2,cs,c3,c4⟩:=hb1 j oj u T' hj hoj ha hd hli
        refine ⟨c1.ext (heap_lt c4) (hg.ext G),by rw [put_same (hoth j oj u hj hoj hd e)]; exact c2,cs,c3,?_⟩
        rw [hg.same _ (heap_lt c4)]; exact c4
    · dsimp only at he
      obtain ⟨u,hd,_⟩:=hp.dst j oj hj hoj
      obtain ⟨u',hd',_⟩:=hp.dst j' oj' hj' hoj'
      by_cases e:j=i
      · by_cases e':j'=i
        · omega
        · rw [if_pos e,if_neg e'] at he
          rw [listed_same e'] at hli'
          have:=lt j' oj' u' T2 hj' hoj' ha' hd' hli'
          omega
      · by_cases e':j'=i
        · rw [if_neg e,if_pos e'] at he
          rw [listed_same e] at hli
          have:=lt j oj u T1 hj hoj ha hd hli
          omega
        · rw [if_neg e,if_neg e'] at he
          rw [listed_same e] at hli
          rw [listed_same e'] at hli'
          exact hb2 j j' oj oj' T1 T2 hj hj' hoj hoj' ha ha' hli hli' he
theorem Ext.reg {G0 G:Gh} {w0 w:World} {blk:Nat} (x:Ext G0 w0 G w) (h:w0.heap.size≤blk):Ext G0 w0 { G with addr:=G.addr++[blk] } w:=by
  refine ⟨x.os,x.tape,x.output,x.size,x.frame,x.imm,x.same,fun b hb=>?_,x.own⟩
  rcases List.mem_append.1 hb with hb | hb
  · exact x.addr b hb
  · simp only [List.mem_singleton] at hb
    subst hb
    exact .inr h
theorem count_step {listed:Array Bool} {i fuel:Nat} (hlt:i < listed.size) (hun:listed.getD i false=false) (hc:listed.toList.count false≤fuel+1):(listed.setIfInBounds i true).toList.count false≤fuel:=by
  have hf:listed[i]=false:=by simp [hlt] at hun; exact hun
  have:(listed.setIfInBounds i true).toList=listed.toList.set i true:=by simp
  rw [this]
  have hl:i < listed.toList.length:=by simpa using hlt
  have hfi:listed.toList[i]=false:=by simpa using hf
  have e1:listed.toList=listed.toList.take i++false::listed.toList.drop (i+1):=by
    rw [← hfi,← List.drop_eq_getElem_cons hl,List.take_append_drop]
  have e2:listed.toList.set i true=listed.toList.take i++true::listed.toList.drop (i+1):=by
    rw [List.set_eq_take_append_cons_drop,if_pos hl]
  have c1:=congrArg (List.count false) e1
  have c2:=congrArg (List.count false) e2
  simp only [List.count_append,List.count_cons] at c1 c2
  simp at c1 c2
  rw [e2]
  simp only [List.count_append,List.count_cons]
  simp
  simp at hc
  omega
theorem count_pos {listed:Array Bool} {i:Nat} (hlt:i < listed.size) (hun:listed.getD i false=false):0 < listed.toList.count false:=by
  have hf:listed[i]=false:=by simp [hlt] at hun; exact hun
  exact List.count_pos_iff.2 (by rw [← hf]; exact Array.mem_toList_iff.2 (Array.getElem_mem hlt))
theorem all_come {ops:Array Oper} {listed:Array Bool} (hd:∀ (i:Nat) (o:Oper),ops.toList[i]?=some o→∀ e∈o.after,Region.binds .any e=true→e.on < i) (hsz:listed.size=ops.size) (h:Region.ready .any ops listed=[]):∀ i,i < ops.size→listed.getD i false=true:=by
  intro i
  induction i using Nat.strongRecOn with
  | _ i ih=>
    intro hi
    cases hl:listed.getD i false with
    | true=>rfl
    | false=>
      exfalso
      have ho:ops[i]?=some ops[i]:=Array.getElem?_eq_getElem hi
      have hmem:i∈Region.ready .any ops listed:=mem_ready.2 ⟨by
        have:i < listed.size:=by rw [hsz]; exact hi
        simp [this] at hl ⊢; exact hl,ops[i],ho,fun e he hb=>by
        have:=hd i _ (toList_get.2 ho) e he hb
        exact ih e.on this (by omega)⟩
      rw [h] at hmem
      cases hmem
def envK (ops:Array Oper) (vs:Nat→AVal) (listed:Array Bool) (env0:List AVal):Nat→List AVal
  | 0=>env0
  | k+1=>match ops.toList[k]? with
    | some o=>bif listed.getD k false then setA (envK ops vs listed env0 k) o.dst (vs k) else envK ops vs listed env0 k
    | none=>envK ops vs listed env0 k
theorem envK_len (ops:Array Oper) (vs:Nat→AVal) (listed:Array Bool) (env0:List AVal):∀ k,(envK ops vs listed env0 k).length=env0.length
  | 0=>rfl
  | k+1=>by
    have ih:=envK_len ops vs listed env0 k
    simp only [envK]
    split
    · cases listed.getD k false with
      | true=>rw [cond_true,setA_len]; exact ih
      | false=>exact ih
    · exact ih
theorem envK_get {ops:Array Oper} {n1:Nat} {vs:Nat→AVal} {listed:Array Bool} {env0:List AVal} (hp:PendP ops n1 env0.length):∀ k,k≤n1→
    (∀ (j:Nat) (o:Oper) (t:Tmp),j < k→ops.toList[j]?=some o→o.dst=some t→listed.getD j false=true→(envK ops vs listed env0 k).getD t .any=vs j)∧
    (∀ t,(∀ (j:Nat) (o:Oper),j < k→ops.toList[j]?=some o→o.dst=some t→listed.getD j false=false)→(envK ops vs listed env0 k).getD t .any=env0.getD t .any)
  | 0,_=>⟨fun j o t h=>by omega,fun t _=>rfl⟩
  | k+1,hk=>by
    obtain ⟨ih1,ih2⟩:=envK_get (vs:=vs) (listed:=listed) hp k (by omega)
    have hks:k < ops.toList.length:=by have:=hp.le; simp; omega
    have ho:ops.toList[k]?=some ops.toList[k]:=List.getElem?_eq_getElem hks
    obtain ⟨u,hu,hul⟩:=hp.dst k _ (by omega) ho
    simp only [envK,ho]
    constructor
    · intro j o t hj hoj hd hl
      by_cases e:j=k
      · subst e
        rw [ho] at hoj; cases hoj
        rw [hl,cond_true,setA_get,if_pos ⟨hd,by rw [envK_len]; rw [hu] at hd; cases hd; exact hul⟩]
      · have hne:u≠t:=fun e'=>by
          subst e'
          exact e (hp.apart j k o _ u (by omega) (by omega) hoj ho hd hu)
        cases listed.getD k false with
        | true=>rw [cond_true,setA_get,if_neg (fun h=>hne (by rw [hu] at h; simpa using h.1))]; exact ih1 j o t (by omega) hoj hd hl
        | false=>exact ih1 j o t (by omega) hoj hd hl
    · intro t hq
      have ih:=ih2 t fun j o hj hoj hd=>hq j o (by omega) hoj hd
      cases hl:listed.getD k false with
      | true=>
        have hne:u≠t:=fun e'=>by
          subst e'
          rw [hq k _ (by omega) ho hu] at hl; cases hl
        rw [cond_true,setA_get,if_neg (fun h=>hne (by rw [hu] at h; simpa using h.1))]; exact ih
      | false=>exact ih
theorem reg_k {P:Program} {C:CalT} {ops:Array Oper} {envs:Nat→List AVal} {bs:Nat→Bx} {vs:Nat→AVal} {wn:Nat→Bool} {n1:Nat} (hp:PendP ops n1 (envs 0).length) (ht:TrI P C ops ops.toList envs bs vs wn) (hwn:∀ (j:Nat) (o:Oper),j < n1→ops.toList[j]?=some o→wn j=true) {G0 G:Gh} {w0 w:World} {a0 a:Act} {listed:Array Bool} (h:P1 P (envs 0) (bs 0) vs ops n1 G0 w0 a0 listed G a w) (htab:∀ q∈TABS,q.1 < w0.heap.size)
    (hall:∀ (j:Nat) (o:Oper),j < n1→ops.toList[j]?=some o→isAl o=true→listed.getD j false=true) {bf:Nat→Nat}
    (hb1:∀ (j:Nat) (o:Oper) (t:Tmp) (T:TypeId),j < n1→ops.toList[j]?=some o→o.op=.alloc T→o.dst=some t→listed.getD j false=true→Lone G w0 w (bf j)∧a.tmps.getD t undef=.pointer (some ⟨bf j,0,none⟩)∧∃ cells:Array Value,zeroV P T=some cells.toList∧w.heap[bf j]?=some (.cells cells T (0,0)))
    (hb2:∀ (j j':Nat) (o o':Oper) (T T':TypeId),j < n1→j' < n1→ops.toList[j]?=some o→ops.toList[j']?=some o'→o.op=.alloc T→o'.op=.alloc T'→listed.getD j false=true→listed.getD j' false=true→bf j=bf j'→j=j') :
    ∀ k,k≤n1→∃ Gk,WOk Gk (bs k) w∧(bs k).dead=(bs 0).dead∧GLe G (bs 0).dead Gk (bs 0).dead∧Ext G0 w0 Gk w∧
      (∀ t,(∀ (j:Nat) (o:Oper),k≤j→j < n1→ops.toList[j]?=some o→o.dst=some t→listed.getD j false=false)→Rv Gk (bs 0).dead ((envK ops vs listed (envs 0) k).getD t .any) (a.tmps.getD t undef))∧
      (∀ (j:Nat) (o:Oper) (T:TypeId),k≤j→j < n1→ops.toList[j]?=some o→o.op=.alloc T→Lone Gk w0 w (bf j))
  | 0,_=>⟨G,h.wok,rfl,GLe.refl _ _,h.ext,fun t hq=>h.old t fun j o hj hoj hd=>hq j o (Nat.zero_le _) hj hoj hd,fun j o T _ hj hoj ha=>by
      obtain ⟨t,hd,_⟩:=hp.dst j o hj hoj
      exact (hb1 j o t T hj hoj ha hd (hall j o hj hoj (by unfold isAl; rw [ha]))).1⟩
  | k+1,hk=>by
    obtain ⟨Gk,i1,i2,i3,i4,i5,i6⟩:=reg_k hp ht hwn h htab hall hb1 hb2 k (by omega)
    have hks:k < ops.toList.length:=by have:=hp.le; simp; omega
    have ho:ops.toList[k]?=some ops.toList[k]:=List.getElem?_eq_getElem hks
    obtain ⟨u,hu,hul⟩:=hp.dst k _ (by omega) ho
    have hlen:u < (envK ops vs listed (envs 0) k).length:=by rw [envK_len]; exact hul
    cases hld:isLd ops.toList[k] with
    | true=>
      have hst:bs (k+1)=bs k:=ht.still k _ ho (isLd_notC hld)
      refine ⟨Gk,by rw [hst]; exact i1,by rw [hst]; exact i2,i3,i4,fun t hq=>?_,fun j o T hj=>i6 j o T (by omega)⟩
      simp only [envK,ho]
      cases hl:listed.getD k false with
      | true=>
        rw [cond_true,setA_get]
        by_cases e:u=t
        · subst e
          rw [if_pos ⟨hu,hlen⟩]
          exact (h.ld k _ u (by omega) ho hld hu hl).mono i3
        · rw [if_neg (fun h=>e (by rw [hu] at h; simpa using h.1))]
          refine i5 t fun j o hj hj1 hoj hd=>?_
          by_cases e':j=k
          · subst e'
            rw [ho] at hoj; cases hoj
            rw [hu] at hd; cases hd; exact absurd rfl e
          · exact hq j o (by omega) hj1 hoj hd
      | false=>
        refine i5 t fun j o hj hj1 hoj hd=>?_
        by_cases e':j=k
        · subst e'; exact hl
        · exact hq j o (by omega) hj1 hoj hd
    | false=>
      have hal:isAl ops.toList[k]=true:=by
        rcases hp.kind k _ (by omega) ho with h' | h'
        · rw [hld] at h'; cases h'
        · exact h'
      obtain ⟨T,hT⟩:∃ T,ops.toList[k].op=.alloc T:=by
        unfold isAl at hal
        split at hal
        · rename_i T hop; exact ⟨T,hop⟩
        · cases hal
      have hl:=hall k _ (by omega) ho hal
      obtain ⟨c,zs,hv1,hv2,hv,hz,hh,hrc⟩:=allocA_is (ht.alloc k _ T ho (hwn k _ (by omega) ho) hT)
      obtain ⟨_,hptr,cells,hzc,hheap⟩:=hb1 k _ u T (by omega) ho hT hu hl
      have lone:=i6 k _ T (Nat.le_refl _) (by omega) ho hT
      rw [hz] at hzc
      simp only [Option.some.injEq] at hzc
      obtain ⟨r1,r2,r3⟩:=reg_box i1 lone (fun q hq e=>by have:=htab q hq; have:=lone.new; omega) hv (hh cells hzc.symm) hheap (hrc Gk)
      rw [i2] at r2
      refine ⟨_,by rw [hv2]; exact r1,by rw [hv2]; exact i2,i3.trans r2,i4.reg lone.new,fun t hq=>?_,fun j o T' hj hj1 hoj ha=>?_⟩
      · simp only [envK,ho,hl,cond_true,setA_get]
        by_cases e:u=t
        · subst e
          rw [if_pos ⟨hu,hlen⟩,hptr,hv1]
          exact leaf_v rfl ⟨_,r3,trivial,rfl⟩
        · rw [if_neg (fun h=>e (by rw [hu] at h; simpa using h.1))]
          refine (i5 t fun j o hj hj1 hoj hd=>?_).mono r2
          by_cases e':j=k
          · subst e'
            rw [ho] at hoj; cases hoj
            rw [hu] at hd; cases hd; exact absurd rfl e
          · exact hq j o (by omega) hj1 hoj hd
      · have k1:=i6 j o T' (by omega) hj1 hoj ha
        refine ⟨fun hm=>?_,k1.own,k1.imm,k1.new⟩
        rcases List.mem_append.1 hm with hm | hm
        · exact k1.addr hm
        · simp only [List.mem_singleton] at hm
          have hlj:=hall j o hj1 hoj (by unfold isAl; rw [ha])
          have:=hb2 j k o _ T' T hj1 (by omega) hoj ho ha hT hlj hl hm
          omega
theorem pend_sound {n:Nat} {f:Bool} {P:Program} {C:CalT} {ops:Array Oper} {id n1:Nat} {env env':List AVal} {B B':Bx} (hm:P.follows .mixedOrders=true) (hd:drawOkN n1 C ops env.length B.box.length env'=true) (hpo:pendOk ops n1 env.length=true) (ht:Tr P C ops ops.toList env B env' B') {G:Gh} {a:Act} {w:World} {Q:Exit→Act→World→Prop} (r:Option Nat) (hok:Ok G B env a w)
    (hQ:∀ G1 a1 w1,Goes n f B.dead G a w G1 B' env' a1 w1→Q .normal a1 w1):(Code.region id ops true).wpIn (Fr r) 0 P Q a w:=by
  obtain ⟨envs,bs,vs,wn,rfl,rfl,rfl,rfl,hti⟩:=tr_index ht
  have hdp:DrawP n1 C ops (envs 0).length (bs 0).box.length (envs ops.toList.length):=drawOk_spec hd
  have hp:=pendOk_spec hpo
  refine wpIn_region_any hm ?_
  have hok':Ok G (bs 0) (envs 0) a w.drew:=⟨hok.env,hok.w.heap rfl,hok.marks.ext (Ext.drew G w)⟩
  have hwn:∀ (j:Nat) (o:Oper),j < n1→ops.toList[j]?=some o→wn j=true:=fun j o hj ho=>by
    have:=hti.wanted j o ho
    unfold wantedA at this
    rw [hp.guard j o hj ho] at this
    simpa using this.symm
  have hld0:∀ (j:Nat) (o:Oper),j < n1→ops.toList[j]?=some o→isLd o=true→bs j=bs 0:=fun j=>by
    induction j with
    | zero=>intro _ _ _ _; rfl
    | succ j ih=>
      intro o hj ho hl
      have hjs:j < ops.toList.length:=by have:=(List.getElem?_eq_some_iff.1 ho).1; omega
      have hoj:ops.toList[j]?=some ops.toList[j]:=List.getElem?_eq_getElem hjs
      have hlj:=hp.loads (j+1) j o _ hj ho hl (by omega) hoj
      rw [hti.still j _ hoj (isLd_notC hlj)]
      exact ih _ (by omega) hoj hlj
  have hat:∀ (j:Nat) (o:Oper),j < n1→ops.toList[j]?=some o→(isLd o=true∧OpD P o (opA (envs 0)) (bs 0) (vs j) (bs 0))∨∃ t v B1 B2,o.op=.alloc t∧allocA P t B1=some (v,B2):=fun j o hj ho=>by
    cases hl:isLd o with
    | true=>
      refine .inl ⟨rfl,?_⟩
      have hjs:j≤ops.toList.length:=by have:=(List.getElem?_eq_some_iff.1 ho).1; omega
      have h1:=(hti.run j o ho (hwn j o hj ho)).1
      have hst:bs (j+1)=bs j:=hti.still j o ho (isLd_notC hl)
      rw [hst,hld0 j o hj ho hl] at h1
      have hL:=envs_L hdp hti j hjs
      have hops:∀ x∈o.op.operands,opA (envs j) x=opA (envs 0) x:=fun x hx=>by
        cases x with
        | tmp t=>
          exact (hL.2 t).2 fun q oq hoq hdq hq=>hp.old j q o oq t hj (by omega) ho hoq hx hdq
        | _=>rfl
      exact fun G a w ha hw next Q hn=>h1 G a w (fun x hx=>by rw [hops x hx]; exact ha x hx) hw next Q hn
    | false=>
      refine .inr ?_
      rcases hp.kind j o hj ho with h' | h'
      · rw [hl] at h'; cases h'
      · unfold isAl at h'
        split at h'
        · rename_i T hop
          exact ⟨T,_,_,_,hop,hti.alloc j o T ho (hwn j o hj ho) hop⟩
        · cases h'
  have htab:∀ q∈TABS,q.1 < w.drew.heap.size:=fun q hq=>by
    obtain ⟨⟨e,fr,h1⟩,_⟩:=hok'.w.tab q hq
    exact heap_lt h1
  have fin:∀ (fuel:Nat) (listed:Array Bool) (G1:Gh) (a1:Act) (w1:World),listed.toList.count false≤fuel→(Closed ops.toList fun j=>listed.getD j false=true)→P1 P (envs 0) (bs 0) vs ops n1 G w.drew a listed G1 a1 w1→
      (∀ (j:Nat) (o:Oper),j < n1→ops.toList[j]?=some o→isAl o=true→listed.getD j false=true)→wpAnyIn (Fr r) 0 P .any ops Q fuel listed a1 w1:=fun fuel listed G1 a1 w1 hc hcl h hall=>by
    obtain ⟨bf,hb1,hb2⟩:=h.al
    obtain ⟨G',k1,k2,k3,k4,k5,_⟩:=reg_k hp hti hwn h htab hall hb1 hb2 n1 (Nat.le_refl _)
    have hE:EnvOk G' (bs n1).dead (envK ops vs listed (envs 0) n1) a1.tmps:=by
      rw [k2]
      exact ⟨by rw [h.tsz,envK_len],fun t=>k5 t fun j o h1 h2=>by omega⟩
    have hgo:Goes n f (bs 0).dead G a w G' (bs n1) (envK ops vs listed (envs 0) n1) a1 w1:=⟨⟨hE,k1,by rw [h.defs]; exact hok'.marks.ext k4⟩,(Ext.drew G w).trans k4,⟨fun d hd=>.inl (by rw [← h.defs]; exact hd),by rw [h.defs]⟩,(fun i b _ hb=>prefix_getElem? (h.gle.addr.trans k3.addr) hb),fun _=>by rw [k2]; exact h.gle.trans k3⟩
    obtain ⟨g1,g2⟩:=envK_get (vs:=vs) (listed:=listed) hp n1 (Nat.le_refl _)
    have lt1:∀ j,listed.getD j false=true→j < n1:=fun j hl=>by
      rcases Nat.lt_or_ge j n1 with h' | h'
      · exact h'
      · rw [h.low j h'] at hl; cases hl
    have hst:Stands C ops (envs 0) bs vs listed (envK ops vs listed (envs 0) n1) (bs n1):=by
      refine ⟨h.size,hcl,⟨envK_len _ _ _ _ _,fun t=>⟨fun j o hoj hd hl=>g1 j o t (lt1 j hl) hoj hd hl,fun hno=>g2 t fun j o hj hoj hd=>by
        cases hl:listed.getD j false with
        | false=>rfl
        | true=>exact absurd hl (hno j o hoj hd)⟩⟩,n1,by have:=hp.le; simpa using this,rfl,fun j o hoj hcj=>⟨lt1 j,fun hj=>?_⟩⟩
      rcases hp.kind j o hj hoj with h' | h'
      · rw [isLd_notC h'] at hcj; cases hcj
      · exact hall j o hj hoj h'
    exact draw_any hdp hti r fuel listed _ _ G' a1 w1 hc hst hall hgo.ok fun G2 a2 w2 h2=>hQ G2 a2 w2 (hgo.trans h2)
  have key:∀ (fuel:Nat) (listed:Array Bool) (G1:Gh) (a1:Act) (w1:World),listed.toList.count false≤fuel→(Closed ops.toList fun j=>listed.getD j false=true)→P1 P (envs 0) (bs 0) vs ops n1 G w.drew a listed G1 a1 w1→wpAnyIn (Fr r) 0 P .any ops Q fuel listed a1 w1:=by
    intro fuel
    induction fuel with
    | zero=>
      intro listed G1 a1 w1 hc hcl h
      refine fin 0 listed G1 a1 w1 hc hcl h fun j o hj hoj _=>?_
      have hjs:j < ops.size:=by have:=(List.getElem?_eq_some_iff.1 hoj).1; simpa using this
      cases hl:listed.getD j false with
      | true=>rfl
      | false=>have:=count_pos (by rw [h.size]; exact hjs) hl; omega
    | succ fuel ih=>
      intro listed G1 a1 w1 hc hcl h
      by_cases hall:∀ (j:Nat) (o:Oper),j < n1→ops.toList[j]?=some o→isAl o=true→listed.getD j false=true
      · exact fin (fuel+1) listed G1 a1 w1 hc hcl h hall
      · obtain ⟨j,o,hj1,hoj,hja,hj3⟩:∃ (j:Nat) (o:Oper),j < n1∧ops.toList[j]?=some o∧isAl o=true∧listed.getD j false=false:=by
          apply Classical.byContradiction
          intro hn
          refine hall fun j o hj hoj ha=>?_
          cases hl:listed.getD j false with
          | true=>rfl
          | false=>exact absurd ⟨j,o,hj,hoj,ha,hl⟩ hn
        have hj2:j < ops.size:=by have:=(List.getElem?_eq_some_iff.1 hoj).1; simpa using this
        refine ⟨fun hr=>?_,fun m hm=>?_⟩
        · rw [all_come hp.edge h.size hr j hj2] at hj3; cases hj3
        · obtain ⟨hum,om,hom,hedge⟩:=mem_ready.1 hm
          have hms:m < ops.size:=(Array.getElem?_eq_some_iff.1 hom).1
          have hml:m < listed.size:=by rw [h.size]; exact hms
          have hum':listed.getD m false=false:=by simp [hml] at hum ⊢; exact hum
          have hom':ops.toList[m]?=some om:=by rw [Array.getElem?_toList]; exact hom
          have hm1:m < n1:=by
            rcases Nat.lt_or_ge m n1 with h' | h'
            · exact h'
            · exfalso
              have:=anc_listed hcl hp.edge m om hom' (fun e he hb=>hedge e he hb) j (hp.late m j om o h' hom' hj1 hoj hja)
              have this:listed.getD j false=true:=this
              rw [hj3] at this; cases this
          have up:∀ q,listed.getD q false=true→(listed.setIfInBounds m true).getD q false=true:=fun q hq=>by
            by_cases e:q=m
            · subst e; exact listed_new hml
            · rw [listed_same e]; exact hq
          refine h.step hp hat hm1 hom' hum' r fun G' a' w' h'=>ih _ G' a' w' (count_step hml hum' hc) (fun q oq hoq hlq e he hb=>?_) h'
          by_cases e':q=m
          · subst e'
            rw [hom'] at hoq; cases hoq
            exact up _ (hedge e he hb)
          · have hlq:(listed.setIfInBounds m true).getD q false=true:=hlq
            rw [listed_same e'] at hlq
            exact up _ (hcl q oq hoq hlq e he hb)
  have hrep:∀ j,(Array.replicate ops.size false).getD j false=false:=fun j=>by
    rcases Nat.lt_or_ge j ops.size with h | h
    · simp [h]
    · simp [h]
  exact key ops.size (Array.replicate ops.size false) G a w.drew (by simp) (fun i o _ h=>by simp only [hrep] at h; cases h)
    ⟨by simp,fun j _=>hrep j,hok'.w,GLe.refl _ _,Ext.refl _ _,hok.env.len,rfl,fun t _=>hok.env.val t,(fun j o t _ _ _ _ h=>by rw [hrep] at h; cases h),fun _=>0,(fun j o t T _ _ _ _ h=>by rw [hrep] at h; cases h),(fun j j' o o' T T' _ _ _ _ _ _ h=>by rw [hrep] at h; cases h)⟩
def pendN (ops:Array Oper):Nat:=
  let l:=ops.toList.takeWhile isLd++(ops.toList.dropWhile isLd).takeWhile isAl
  let A:=ancs l
  bif l.zipIdx.any fun (o,i)=>isAl o&&l.zipIdx.any fun (oj,j)=>isAl oj&&decide (j < i)&&!(A.getD i 0).testBit j then l.length else 0
end Go.Proofs.YtkeipcalbbmncaaGreat.Abs
set_option linter.unusedVariables false
set_option linter.unusedSimpArgs false
namespace Go.Proofs.YtkeipcalbbmncaaGreat.Abs
inductive AExit where
  | normal
  | exit (id:Nat)
  | ret
  | pan (t:TypeId)
def AExit.is:AExit→Exit→Prop
  | .normal,x=>x=.normal
  | .exit id,x=>x=.exit id
  | .ret,x=>x=.ret
  | .pan t,x=>∃ pv,x=.panic [{ v:=.iface t (wrongV pv),recovered:=false }]
theorem panic_op {P:Program} {o:Oper} {ρ:Operand→AVal} {x:Operand} {t:TypeId} {T:DTy} {s:T.El} {B:Bx} (hT:(T.agg||u8F T)=false) (ho:o.op=.panic x) (hx:ρ x=.iface t (.cons (.d T s) .nil)):OpPan P o ρ B t B:=by
  intro G a w ha hw next Q hn r
  have hv:=ha x (by rw [ho]; simp [Op.operands])
  rw [hx] at hv
  obtain ⟨cs,⟨v',rfl,c,hc,hc2⟩,hh | hh⟩:=hv
  · cases hh.1
  · obtain ⟨pv,hv'⟩:∃ pv,v'=wrongV pv:=by
      obtain ⟨c1,c2,rfl,h1,h2⟩:=hc
      have h2':c2=[]:=h2
      subst h2'
      obtain ⟨pv,rfl,hpv⟩:∃ pv,c1=[pv]∧opqV pv=true:=by
        cases T with
        | int k=>exact ⟨_,h1,by cases k<;>first | rfl | simp [u8F] at hT⟩
        | bool=>exact ⟨_,h1,rfl⟩
        | str=>exact ⟨_,h1,rfl⟩
        | list e=>obtain ⟨A,cap,h,_⟩:=h1; exact ⟨_,h,rfl⟩
        | mapr=>obtain ⟨o,h⟩:=h1; exact ⟨_,h,rfl⟩
        | opq=>obtain ⟨o,h,h'⟩:=h1; exact ⟨_,h,h'⟩
        | _=>simp [DTy.agg] at hT
      rcases hc2 with ⟨_,h⟩ | ⟨h,_⟩
      · exact ⟨pv,by rw [h]; simp [wrongV,lfV,hpv]⟩
      · cases h
    subst hv'
    have he:a.eval x=.iface t (wrongV pv):=by simpa using hh.2.symm
    have hrun:(o.semAt (Fr r).round a.eval).run P w=.halt (.panic (.iface t (wrongV pv))) w:=by
      rw [Oper.semAt_eq _ _ _ (fun c hc=>by rw [ho] at hc; cases hc)]
      simp only [execOp,ho,he]
      rfl
    refine ⟨fun _ _=>trivial,?_⟩
    rw [hrun]
    exact hn pv G w hw (GLe.refl _ _) (Ext.refl _ _)
def regX (P:Program) (C:CalT) {X:Type} (ops:Array Oper):List Oper→List AVal→Bx→(AExit→List AVal→Bx→Option X)→Option X
  | [],env,B,k=>k .normal env B
  | o::rest,env,B,k=>match o.guard with
    | none=>match o.op with
      | .panic x=>match opA env x with
        | .iface t (.cons (.d T _) .nil)=>bif T.agg||u8F T then none else k (.pan t) env B
        | _=>none
      | .call c=>match c.callee with
        | .value f=>callA C (opA env f) (c.args.toList.map (opA env)) B fun v B'=>match v with
          | .pan t=>k (.pan t) env B'
          | v=>regX P C ops rest (setA env o.dst v) B' k
        | _=>regR P C ops [o] env B fun env' B'=>regX P C ops rest env' B' k
      | _=>regR P C ops [o] env B fun env' B'=>regX P C ops rest env' B' k
    | some (j,want)=>match o.op with
      | .call c=>match c.callee with
        | .value f=>match guardTmp ops j with
          | some t=>match env.getD t .any with
            | .d .bool b=>
              bif b then
                (bif want then callA C (opA (env.set t (.d .bool true)) f) (c.args.toList.map (opA (env.set t (.d .bool true)))) B fun v B'=>match v with
                  | .pan t'=>k (.pan t') (env.set t (.d .bool true)) B'
                  | v=>regX P C ops rest (setA (env.set t (.d .bool true)) o.dst v) B' k
                else regX P C ops rest (setA (env.set t (.d .bool true)) o.dst (.tuple .nil)) B k)
              else
                (bif want then regX P C ops rest (setA (env.set t (.d .bool false)) o.dst (.tuple .nil)) B k
                else callA C (opA (env.set t (.d .bool false)) f) (c.args.toList.map (opA (env.set t (.d .bool false)))) B fun v B'=>match v with
                  | .pan t'=>k (.pan t') (env.set t (.d .bool false)) B'
                  | v=>regX P C ops rest (setA (env.set t (.d .bool false)) o.dst v) B' k)
            | .tuple .nil=>regX P C ops rest (setA env o.dst (.tuple .nil)) B k
            | _=>none
          | none=>none
        | _=>regR P C ops [o] env B fun env' B'=>regX P C ops rest env' B' k
      | _=>regR P C ops [o] env B fun env' B'=>regX P C ops rest env' B' k
def LW (n:Nat) (P:Program) (ops:Array Oper) (l:List Oper) (env:List AVal) (B:Bx) (e:AExit) (env':List AVal) (B':Bx) (f:Bool:=false):Prop:=
  ∀ (r:Option Nat) (G:Gh) (a:Act) (w:World) (Q:Exit→Act→World→Prop),Ok G B env a w→(∀ G1 a1 w1 x,e.is x→Goes n f B.dead G a w G1 B' env' a1 w1→Q x a1 w1)→wpListIn (Fr r) 0 P ops Q l a w
theorem tr_one {P:Program} {C:CalT} {ops:Array Oper} {o:Oper} {rest:List Oper} {env env':List AVal} {B B':Bx} (ht:Tr P C ops [o] env B env' B') {n:Nat} {f:Bool} {G:Gh} {a:Act} {w:World} {Q:Exit→Act→World→Prop} (r:Option Nat) (hok:Ok G B env a w)
    (hQ:∀ G1 a1 w1,Goes n f B.dead G a w G1 B' env' a1 w1→wpListIn (Fr r) 0 P ops Q rest a1 w1):wpListIn (Fr r) 0 P ops Q (o::rest) a w:=by
  cases ht with
  | run hw hop hal ht=>
    cases ht
    unfold wpListIn
    rw [if_pos (wantedA_spec hok.env hw)]
    refine hop.op G a w (fun x _=>hok.env.op x) hok.w _ Q (fun cv G1 w1 h1 h2 h3 h4=>?_) r
    have hok1:Ok G1 _ _ (a.put o.dst cv) w1:=⟨(hok.env.mono h3).put o.dst h1,h2,by rw [put_defers']; exact hok.marks.ext h4⟩
    exact hQ G1 _ w1 ⟨hok1,h4,⟨(fun d hd=>.inl (by rw [put_defers'] at hd; exact hd)),by rw [put_defers']⟩,(fun i b _ hb=>prefix_getElem? h3.addr hb),fun _=>h3⟩
  | skip hw ht=>
    cases ht
    unfold wpListIn
    rw [if_neg (by rw [wantedA_spec hok.env hw]; simp)]
    have hok1:Ok G _ _ (a.put o.dst undef) w:=⟨hok.env.put o.dst (undef_v G _),hok.w,by rw [put_defers']; exact hok.marks⟩
    exact ⟨fun _ _=>trivial,hQ G _ w ⟨hok1,Ext.refl _ _,⟨(fun d hd=>.inl (by rw [put_defers'] at hd; exact hd)),by rw [put_defers']⟩,(fun _ _ _ h=>h),fun _=>GLe.refl _ _⟩⟩
theorem regX_sound {n:Nat} {fl:Bool} {P:Program} {C:CalT} {X:Type} {ops:Array Oper} {k:AExit→List AVal→Bx→Option X} {r:X} (hC:CV P C):{l:List Oper}→{env:List AVal}→{B:Bx}→regX P C ops l env B k=some r→
    ∃ e env' B',k e env' B'=some r∧LW n P ops l env B e env' B' fl
  | [],env,B,h=>⟨.normal,env,B,h,fun r G a w Q hok hQ=>hQ G a w .normal rfl (Goes.refl hok)⟩
  | o::rest,env,B,h=>by
    have one:(regR P C ops [o] env B fun env' B'=>regX P C ops rest env' B' k)=some r→∃ e env' B',k e env' B'=some r∧LW n P ops (o::rest) env B e env' B' fl:=fun h=>by
      obtain ⟨env1,B1,ht,h1⟩:=regR_tr hC h
      obtain ⟨e,env2,B2,h2,w2⟩:=regX_sound hC h1
      exact ⟨e,env2,B2,h2,fun r G a w Q hok hQ=>tr_one (n:=n) ht r hok fun G1 a1 w1 g1=>w2 r G1 a1 w1 Q g1.ok fun G2 a2 w2 x hx g2=>hQ G2 a2 w2 x hx (g1.trans g2)⟩
    have called:∀ (env:List AVal) (c:Call) (f:Operand),o.op=.call c→c.callee=.value f→(∀ (G:Gh) (a:Act) (w:World),Ok G B env a w→Region.wanted o (yielded ops a.tmps)=true)→
        (callA C (opA env f) (c.args.toList.map (opA env)) B fun v B'=>match v with
          | .pan t=>k (.pan t) env B'
          | v=>regX P C ops rest (setA env o.dst v) B' k)=some r→∃ e env' B',k e env' B'=some r∧LW n P ops (o::rest) env B e env' B' fl:=fun env c f ho hcal hwant h=>by
      obtain ⟨v,B',h1,h2,_,_⟩:=callA_sound hC ho hcal h (fun f=>rfl)
      cases hv:v.isPan with
      | true=>
        obtain ⟨t,rfl⟩:∃ t,v=.pan t:=by cases v<;>first | exact ⟨_,rfl⟩ | simp [AVal.isPan] at hv
        refine ⟨.pan t,env,B',h1,fun r G a w Q hok hQ=>?_⟩
        unfold wpListIn
        rw [if_pos (hwant G a w hok)]
        exact (h2.2 t rfl) G a w (fun x _=>hok.env.op x) hok.w _ Q (fun pv G1 w1 h1 h2 h3=>hQ G1 a w1 _ ⟨pv,rfl⟩ ⟨⟨hok.env.mono h2,h1,hok.marks.ext h3⟩,h3,⟨(fun d hd=>.inl hd),rfl⟩,(fun i b _ hb=>prefix_getElem? h2.addr hb),fun _=>h2⟩) r
      | false=>
        have h1':regX P C ops rest (setA env o.dst v) B' k=some r:=by
          cases v<;>first | exact h1 | simp [AVal.isPan] at hv
        obtain ⟨e,env2,B2,h3,w2⟩:=regX_sound hC h1'
        refine ⟨e,env2,B2,h3,fun r G a w Q hok hQ=>?_⟩
        unfold wpListIn
        rw [if_pos (hwant G a w hok)]
        refine h2.1 hv G a w (fun x _=>hok.env.op x) hok.w _ Q (fun cv G1 w1 g1 g2 g3 g4=>?_) r
        have hok1:Ok G1 _ _ (a.put o.dst cv) w1:=⟨(hok.env.mono g3).put o.dst g1,g2,by rw [put_defers']; exact hok.marks.ext g4⟩
        exact w2 r G1 _ w1 Q hok1 fun G2 a2 w2 x hx g=>hQ G2 a2 w2 x hx (Goes.trans ⟨hok1,g4,⟨(fun d hd=>.inl (by rw [put_defers'] at hd; exact hd)),by rw [put_defers']⟩,(fun i b _ hb=>prefix_getElem? g3.addr hb),fun _=>g3⟩ g)
    have skipped:∀ (env:List AVal),wantedA ops env o=some false→regX P C ops rest (setA env o.dst (.tuple .nil)) B k=some r→∃ e env' B',k e env' B'=some r∧LW n P ops (o::rest) env B e env' B' fl:=fun env hw h=>by
      obtain ⟨e,env2,B2,h2,w2⟩:=regX_sound hC h
      have ht:Tr P C ops [o] env B (setA env o.dst (.tuple .nil)) B:=.skip hw .nil
      exact ⟨e,env2,B2,h2,fun r G a w Q hok hQ=>tr_one (n:=n) ht r hok fun G1 a1 w1 g1=>w2 r G1 a1 w1 Q g1.ok fun G2 a2 w2 x hx g2=>hQ G2 a2 w2 x hx (g1.trans g2)⟩
    unfold regX at h
    split at h
    · rename_i hg
      have hwant:∀ (a:Act),Region.wanted o (yielded ops a.tmps)=true:=fun a=>by unfold Region.wanted; rw [hg]
      split at h
      · rename_i x ho
        split at h
        · rename_i t T v hx
          cases hT:(T.agg||u8F T) with
          | true=>rw [hT] at h; cases h
          | false=>
          rw [hT] at h
          refine ⟨.pan t,env,B,h,fun r G a w Q hok hQ=>?_⟩
          unfold wpListIn
          rw [if_pos (hwant a)]
          exact panic_op hT ho hx G a w (fun x _=>hok.env.op x) hok.w _ Q (fun pv G1 w1 h1 h2 h3=>hQ G1 a w1 _ ⟨pv,rfl⟩ ⟨⟨hok.env.mono h2,h1,hok.marks.ext h3⟩,h3,⟨(fun d hd=>.inl hd),rfl⟩,(fun i b _ hb=>prefix_getElem? h2.addr hb),fun _=>h2⟩) r
        · cases h
      · rename_i c ho
        split at h
        · rename_i f hcal
          exact called env c f ho hcal (fun G a w _=>hwant a) h
        · exact one h
      · exact one h
    · rename_i j want hg
      split at h
      · rename_i c ho
        split at h
        · rename_i f hcal
          split at h
          · rename_i t ht
            split at h
            · rename_i b hb
              have hs:=set_same hb (by simp)
              have hwa:wantedA ops env o=some (b==want):=by
                unfold wantedA
                rw [hg]
                simp only
                rw [ht]
                simp only
                rw [hb]
              have hwt:(b==want)=true→∀ (G:Gh) (a:Act) (w:World),Ok G B env a w→Region.wanted o (yielded ops a.tmps)=true:=fun he G a w hok=>by
                rw [wantedA_spec hok.env hwa]; exact he
              cases b<;>cases want<;>simp only [cond_true,cond_false] at h<;>rw [hs] at h
              · exact called env c f ho hcal (hwt rfl) h
              · exact skipped env hwa h
              · exact skipped env hwa h
              · exact called env c f ho hcal (hwt rfl) h
            · rename_i hb
              refine skipped env ?_ h
              unfold wantedA
              rw [hg]
              simp only
              rw [ht]
              simp only
              rw [hb]
            · cases h
          · cases h
        · exact one h
      · exact one h
end Go.Proofs.YtkeipcalbbmncaaGreat.Abs
set_option linter.unusedVariables false
set_option linter.unusedSimpArgs false
namespace Go.Proofs.YtkeipcalbbmncaaGreat.Abs
def befA (ops:Array Oper) (c i:Nat):Bool:=i != c&&!((ancs ops.toList).getD i 0).testBit c
def panAts (ops:Array Oper):List Nat:=(ops.toList.zipIdx.filter fun (o,_)=>match o.op with
  | .call cc=>match cc.callee with
    | .value (.func g)=>PANS.contains g
    | _=>false
  | _=>false).map (·.2)
def panOk (ops:Array Oper) (c len:Nat):Bool:=
  let A:=ancs ops.toList
  let Z:=ops.toList.zipIdx
  Z.all fun (o,i)=>
    (o.after.toList.all fun e=>!Region.binds .any e||decide (e.on < i)) &&
    (match o.dst with
      | some t=>decide (t < len)&&Z.all fun (oj,j)=>j==i||oj.dst != some t
      | none=>true) &&
    ((!(befA ops c i)&&i != c) ||
      (((o.looksAt ops).all fun t=>Z.all fun (oj,j)=>oj.dst != some t||((A.getD i 0).testBit j||!befA ops c j)) &&
       (Z.all fun (oj,j)=>!(A.getD i 0).testBit j||(befA ops c j&&decide (j < i)))))
structure PanP (ops:Array Oper) (c len:Nat):Prop where
  edge:∀ (i:Nat) (o:Oper),ops.toList[i]?=some o→∀ e∈o.after,Region.binds .any e=true→e.on < i
  lt:∀ (i:Nat) (o:Oper) (t:Tmp),ops.toList[i]?=some o→o.dst=some t→t < len
  apart:∀ (i j:Nat) (o oj:Oper) (t:Tmp),ops.toList[i]?=some o→ops.toList[j]?=some oj→o.dst=some t→oj.dst=some t→i=j
  look:∀ (i j:Nat) (o oj:Oper) (t:Tmp),(befA ops c i=true∨i=c)→ops.toList[i]?=some o→ops.toList[j]?=some oj→t∈o.looksAt ops→oj.dst=some t→((ancs ops.toList).getD i 0).testBit j=true∨befA ops c j=false
  anc:∀ (i j:Nat) (o oj:Oper),(befA ops c i=true∨i=c)→ops.toList[i]?=some o→ops.toList[j]?=some oj→((ancs ops.toList).getD i 0).testBit j=true→befA ops c j=true∧j < i
theorem panOk_spec {ops:Array Oper} {c len:Nat} (h:panOk ops c len=true):PanP ops c len:=by
  have mem:∀ {i:Nat} {o:Oper},ops.toList[i]?=some o→(o,i)∈ops.toList.zipIdx:=fun {i o} ho=>by
    rw [List.mem_zipIdx_iff_getElem?]; exact ho
  unfold panOk at h
  have key:∀ i o,ops.toList[i]?=some o→_:=fun i o ho=>List.all_eq_true.1 h (o,i) (mem ho)
  simp only [Bool.and_eq_true,Bool.or_eq_true] at key
  have late:∀ i o,(befA ops c i=true∨i=c)→ops.toList[i]?=some o→_:=fun i o hb ho=>(key i o ho).2.resolve_left (by
    rintro ⟨h1,h2⟩
    rcases hb with hb | rfl
    · rw [hb] at h1; cases h1
    · simp at h2)
  refine ⟨fun i o ho e he hb=>?_,fun i o t ho ht=>?_,fun i j o oj t ho hoj ht htj=>?_,fun i j o oj t hbi ho hoj ht htj=>?_,fun i j o oj hbi ho hoj hb=>?_⟩
  · have:=List.all_eq_true.1 (key i o ho).1.1 e (Array.mem_toList_iff.2 he)
    simpa [hb] using this
  · have:=(key i o ho).1.2
    rw [ht] at this
    simp only [Bool.and_eq_true,decide_eq_true_eq] at this
    exact this.1
  · have:=(key i o ho).1.2
    rw [ht] at this
    simp only [Bool.and_eq_true] at this
    have h2:=List.all_eq_true.1 this.2 (oj,j) (mem hoj)
    simp only [Bool.or_eq_true,beq_iff_eq,bne_iff_ne,ne_eq] at h2
    rcases h2 with h2 | h2
    · exact h2.symm
    · exact absurd htj h2
  · have h2:=List.all_eq_true.1 (List.all_eq_true.1 (late i o hbi ho).1 t ht) (oj,j) (mem hoj)
    simp only [Bool.or_eq_true,bne_iff_ne,ne_eq,Bool.not_eq_true'] at h2
    exact h2.resolve_left (fun hne=>hne htj)
  · have h2:=List.all_eq_true.1 (late i o hbi ho).2 (oj,j) (mem hoj)
    simp only [Bool.or_eq_true,Bool.not_eq_true',hb,Bool.and_eq_true,decide_eq_true_eq] at h2
    exact h2.resolve_left (by simp)
theorem EnvL.step' {ops:Array Oper} {c:Nat} {vs:Nat→AVal} {env0 env:List AVal} {listed listed':Nat→Prop} {i:Nat} {o:Oper} (hd:PanP ops c env0.length) (h:EnvL ops vs env0 listed env) (ho:ops.toList[i]?=some o) (hl:∀ j,listed' j↔listed j∨j=i) (hi:¬ listed i) :
    EnvL ops vs env0 listed' (setA env o.dst (vs i)):=by
  refine ⟨by rw [setA_len,h.1],fun t=>⟨fun j oj hoj hdj hlj=>?_,fun hno=>?_⟩⟩
  · rw [setA_get]
    by_cases hji:j=i
    · subst hji
      rw [ho] at hoj; cases hoj
      have:=hd.lt j o t ho hdj
      rw [if_pos ⟨hdj,by rw [h.1]; exact this⟩]
    · have hne:¬ (o.dst=some t):=fun he=>hji (hd.apart j i oj o t hoj ho hdj he)
      rw [if_neg (fun hh=>hne hh.1)]
      exact (h.2 t).1 j oj hoj hdj (((hl j).1 hlj).resolve_right hji)
  · rw [setA_get]
    have hne:¬ (o.dst=some t):=fun he=>hno i o ho he ((hl i).2 (.inr rfl))
    rw [if_neg (fun hh=>hne hh.1)]
    exact (h.2 t).2 fun j oj hoj hdj hlj=>hno j oj hoj hdj ((hl j).2 (.inl hlj))
theorem EnvL.congr {ops:Array Oper} {vs vs':Nat→AVal} {env0 env:List AVal} {l l':Nat→Prop} (h:EnvL ops vs env0 l env) (hl:∀ j o,ops.toList[j]?=some o→(l j↔l' j)) (hv:∀ j,l j→vs j=vs' j):EnvL ops vs' env0 l' env:=
  ⟨h.1,fun t=>⟨fun j o ho hd hj=>by
    have hj':=(hl j o ho).2 hj
    rw [(h.2 t).1 j o ho hd hj',hv j hj'],fun hno=>(h.2 t).2 fun j o ho hd hj=>hno j o ho hd ((hl j o ho).1 hj)⟩⟩
theorem looks' {ops:Array Oper} {c:Nat} {vs:Nat→AVal} {env0 env1 env2:List AVal} {l1 l2:Nat→Prop} {i:Nat} {o:Oper} (hd:PanP ops c env0.length) (h1:EnvL ops vs env0 l1 env1) (h2:EnvL ops vs env0 l2 env2) (hbi:befA ops c i=true∨i=c) (ho:ops.toList[i]?=some o)
    (hl1:∀ j oj,ops.toList[j]?=some oj→((ancs ops.toList).getD i 0).testBit j=true→l1 j) (hl2:∀ j oj,ops.toList[j]?=some oj→((ancs ops.toList).getD i 0).testBit j=true→l2 j)
    (hb1:∀ j oj,ops.toList[j]?=some oj→l1 j→befA ops c j=true) (hb2:∀ j oj,ops.toList[j]?=some oj→l2 j→befA ops c j=true):∀ t∈o.looksAt ops,env1.getD t .any=env2.getD t .any:=by
  intro t ht
  by_cases hex:∃ (j:Nat) (oj:Oper),ops.toList[j]?=some oj∧oj.dst=some t
  · obtain ⟨j,oj,hoj,hdj⟩:=hex
    rcases hd.look i j o oj t hbi ho hoj ht hdj with hb | hb
    · rw [(h1.2 t).1 j oj hoj hdj (hl1 j oj hoj hb),(h2.2 t).1 j oj hoj hdj (hl2 j oj hoj hb)]
    · rw [(h1.2 t).2 (fun j' oj' hoj' hdj' hj'=>by
        have e:=hd.apart j' j oj' oj t hoj' hoj hdj' hdj
        subst e
        rw [hb1 j' oj' hoj' hj'] at hb; cases hb),(h2.2 t).2 (fun j' oj' hoj' hdj' hj'=>by
        have e:=hd.apart j' j oj' oj t hoj' hoj hdj' hdj
        subst e
        rw [hb2 j' oj' hoj' hj'] at hb; cases hb)]
  · rw [(h1.2 t).2 (fun j oj hoj hdj _=>hex ⟨j,oj,hoj,hdj⟩),(h2.2 t).2 (fun j oj hoj hdj _=>hex ⟨j,oj,hoj,hdj⟩)]
def befR (P:Program) (C:CalT) {X:Type} (ops:Array Oper) (c:Nat):List Oper→Nat→List AVal→Bx→(List AVal→Option X)→Option X
  | [],_,env,_,k=>k env
  | o::l,i,env,B,k=>bif befA ops c i then
      match o.guard with
      | none=>bif !isC C o then opR P C o (opA env) B fun v _=>befR P C ops c l (i+1) (setA env o.dst v) B k else none
      | some _=>none
    else befR P C ops c l (i+1) env B k
theorem befR_spec {P:Program} {C:CalT} {X:Type} {ops:Array Oper} {c:Nat} {env0:List AVal} {B:Bx} {k:List AVal→Option X} {r:X} (hC:CV P C) (hd:PanP ops c env0.length):(l:List Oper)→(s:Nat)→(env:List AVal)→(vs0:Nat→AVal)→l=ops.toList.drop s→
    EnvL ops vs0 env0 (fun j=>j < s∧befA ops c j=true) env→befR P C ops c l s env B k=some r→
    ∃ vs envF,(∀ j,j < s→vs j=vs0 j)∧k envF=some r∧EnvL ops vs env0 (fun j=>befA ops c j=true) envF∧
      ∀ i o,s≤i→ops.toList[i]?=some o→befA ops c i=true→o.guard=none∧∃ envi,EnvL ops vs env0 (fun j=>j < i∧befA ops c j=true) envi∧OpD P o (opA envi) B (vs i) B
  | [],s,env,vs0,hl,he,h=>by
    have hlen:ops.toList.length≤s:=by
      have:=congrArg List.length hl
      rw [List.length_drop] at this
      simp only [List.length_nil] at this
      omega
    refine ⟨vs0,env,fun _ _=>rfl,h,he.congr (fun j o ho=>⟨fun h=>h.2,fun h=>⟨by have:=(List.getElem?_eq_some_iff.1 ho).1; omega,h⟩⟩) (fun _ _=>rfl),fun i o hs ho=>?_⟩
    have:=(List.getElem?_eq_some_iff.1 ho).1
    omega
  | o::l,s,env,vs0,hl,he,h=>by
    have ho:ops.toList[s]?=some o:=by
      have:(ops.toList.drop s)[0]?=some o:=by rw [← hl]; rfl
      simpa using this
    have hl':l=ops.toList.drop (s+1):=by
      have:=congrArg List.tail hl
      simpa using this
    unfold befR at h
    cases hb:befA ops c s with
    | false=>
      rw [hb] at h
      simp only [cond_false] at h
      have he':EnvL ops vs0 env0 (fun j=>j < s+1∧befA ops c j=true) env:=by
        refine he.congr (fun j oj _=>⟨fun h=>⟨by omega,h.2⟩,fun h=>?_⟩) (fun _ _=>rfl)
        rcases Nat.lt_or_ge j s with h1 | h1
        · exact ⟨h1,h.2⟩
        · have hjs:j=s:=by omega
          have h2:=h.2
          rw [hjs,hb] at h2
          cases h2
      obtain ⟨vs,envF,h1,h2,h3,h4⟩:=befR_spec hC hd l (s+1) env vs0 hl' he' h
      refine ⟨vs,envF,fun j hj=>h1 j (by omega),h2,h3,fun i oi hs hoi hbi=>h4 i oi ?_ hoi hbi⟩
      rcases Nat.lt_or_ge s i with h5 | h5
      · exact h5
      · have:i=s:=by omega
        subst this
        rw [hb] at hbi; cases hbi
    | true=>
      rw [hb] at h
      simp only [cond_true] at h
      split at h
      · rename_i hg
        cases hcc:!isC C o with
        | false=>rw [hcc] at h; cases h
        | true=>
          rw [hcc] at h
          simp only [cond_true] at h
          obtain ⟨v,B1,h1,hq⟩:=opR_sound hC (fun f=>rfl) h
          have hop:OpD P o (opA env) B v B:=by
            have:isP C o=true∨isR C o=true:=by
              unfold isC at hcc
              cases h1:isP C o<;>cases h2:isR C o<;>simp [h1,h2] at hcc ⊢
            have e:B1=B:=by
              rcases this with h | h
              · exact (hq.p h).1
              · exact (hq.r h).1
            have:=hq.op
            rw [e] at this
            exact this
          let vs1:Nat→AVal:=fun j=>if j=s then v else vs0 j
          have e1:∀ j,j < s→vs1 j=vs0 j:=fun j hj=>by
            show (if j=s then v else vs0 j)=_
            rw [if_neg (by omega)]
          have es:vs1 s=v:=by
            show (if s=s then v else vs0 s)=_
            rw [if_pos rfl]
          have he1:EnvL ops vs1 env0 (fun j=>j < s∧befA ops c j=true) env:=he.congr (fun _ _ _=>Iff.rfl) (fun j hj=>(e1 j hj.1).symm)
          have he':EnvL ops vs1 env0 (fun j=>j < s+1∧befA ops c j=true) (setA env o.dst v):=by
            have:=EnvL.step' (listed':=fun j=>j < s+1∧befA ops c j=true) hd he1 ho (fun j=>⟨fun h=>by
              rcases Nat.lt_or_ge j s with h1 | h1
              · exact .inl ⟨h1,h.2⟩
              · exact .inr (by omega),fun h=>by
              rcases h with h | rfl
              · exact ⟨by omega,h.2⟩
              · exact ⟨by omega,hb⟩⟩) (fun h=>by omega)
            rw [es] at this
            exact this
          obtain ⟨vs,envF,k1,k2,k3,k4⟩:=befR_spec hC hd l (s+1) (setA env o.dst v) vs1 hl' he' h1
          refine ⟨vs,envF,fun j hj=>by rw [k1 j (by omega),e1 j hj],k2,k3,fun i oi hs hoi hbi=>?_⟩
          rcases Nat.lt_or_ge s i with h5 | h5
          · exact k4 i oi h5 hoi hbi
          · have:i=s:=by omega
            subst this
            rw [ho] at hoi
            simp only [Option.some.injEq] at hoi
            subst hoi
            refine ⟨hg,env,he1.congr (fun _ _ _=>Iff.rfl) (fun j hj=>(k1 j (by omega)).symm),?_⟩
            rw [k1 i (by omega),es]
            exact hop
      · cases h
def forgetA (ops:Array Oper) (c:Nat) (env:List AVal):List AVal:=(List.range env.length).map fun t=>bif ops.toList.zipIdx.any (fun p=>p.1.dst==some t&&befA ops c p.2) then .any else env.getD t .any
theorem forget_ok {G:Gh} {dead:List Nat} {ops:Array Oper} {c:Nat} {vs:Nat→AVal} {env0 env:List AVal} {listed:Nat→Prop} {tm:Array Value} (h:EnvL ops vs env0 listed env) (hl:∀ j o,ops.toList[j]?=some o→listed j→befA ops c j=true) (he:EnvOk G dead env tm):EnvOk G dead (forgetA ops c env0) tm:=by
  refine ⟨by rw [he.len,h.1]; simp [forgetA],fun t=>?_⟩
  rcases Nat.lt_or_ge t env0.length with hlt | hge
  · have e:(forgetA ops c env0).getD t .any=bif ops.toList.zipIdx.any (fun p=>p.1.dst==some t&&befA ops c p.2) then .any else env0.getD t .any:=by
      unfold forgetA
      rw [List.getD_eq_getElem?_getD,List.getElem?_map,List.getElem?_range hlt]
      rfl
    rw [e]
    cases ha:ops.toList.zipIdx.any (fun p=>p.1.dst==some t&&befA ops c p.2) with
    | true=>exact any_v _
    | false=>
      simp only [cond_false]
      rw [← (h.2 t).2 (fun j o ho hdj hj=>by
        have:=List.any_eq_false.1 ha (o,j) (by rw [List.mem_zipIdx_iff_getElem?]; exact ho)
        simp [hdj,hl j o ho hj] at this)]
      exact he.val t
  · have e:(forgetA ops c env0).getD t .any=.any:=by
      rw [List.getD_eq_getElem?_getD,List.getElem?_eq_none (by simp [forgetA]; exact hge)]
      rfl
    rw [e]
    exact any_v _
theorem pan_any {n:Nat} {f:Bool} {P:Program} {ops:Array Oper} {c:Nat} {oc:Oper} {vs:Nat→AVal} {env0 envF:List AVal} {B B':Bx} {t:TypeId} (hd:PanP ops c env0.length) (hoc:ops.toList[c]?=some oc) (hg:oc.guard=none) (hF:EnvL ops vs env0 (fun j=>befA ops c j=true) envF)
    (hbef:∀ i o,ops.toList[i]?=some o→befA ops c i=true→o.guard=none∧∃ envi,EnvL ops vs env0 (fun j=>j < i∧befA ops c j=true) envi∧OpD P o (opA envi) B (vs i) B) (hpan:OpPan P oc (opA envF) B t B') {Q:Exit→Act→World→Prop} (r:Option Nat) :
    ∀ (fuel:Nat) (listed:Array Bool) (env:List AVal) (G:Gh) (a:Act) (w:World),listed.toList.count false≤fuel→listed.size=ops.size→Closed ops.toList (fun i=>listed.getD i false=true)→(∀ i o,ops.toList[i]?=some o→listed.getD i false=true→befA ops c i=true)→
      EnvL ops vs env0 (fun i=>listed.getD i false=true) env→Ok G B env a w→(∀ G1 a1 w1 x,(AExit.pan t).is x→Goes n f B.dead G a w G1 B' (forgetA ops c env0) a1 w1→Q x a1 w1)→wpAnyIn (Fr r) 0 P .any ops Q fuel listed a w:=by
  have hcs:c < ops.size:=by simpa using (List.getElem?_eq_some_iff.1 hoc).1
  have hcb:befA ops c c=false:=by simp [befA]
  have never:∀ (listed:Array Bool),(∀ i o,ops.toList[i]?=some o→listed.getD i false=true→befA ops c i=true)→listed.getD c false=true→False:=fun listed h1 h2=>by
    have:=h1 c oc hoc h2
    rw [hcb] at this; cases this
  intro fuel
  induction fuel with
  | zero=>
    intro listed env G a w hc hsz hcl hlb he hok hQ
    exfalso
    have hlt:c < listed.size:=by rw [hsz]; exact hcs
    cases hlc:listed.getD c false with
    | true=>exact never listed hlb hlc
    | false=>have:=count_pos hlt hlc; omega
  | succ fuel ih=>
    intro listed env G a w hc hsz hcl hlb he hok hQ
    refine ⟨fun hr=>(never listed hlb (all_come hd.edge hsz hr c hcs)).elim,fun i hi=>?_⟩
    obtain ⟨hun,o,ho,hready⟩:=mem_ready.1 hi
    have ho':ops.toList[i]?=some o:=toList_get.2 ho
    have hlt:i < listed.size:=by rw [hsz]; exact (Array.getElem?_eq_some_iff.1 ho).1
    have hun':listed.getD i false=false:=by simp [hlt] at hun ⊢; exact hun
    have hanc:=anc_listed hcl hd.edge i o ho' (fun e he hb=>by have:=hready e he hb; exact this)
    unfold wpOpIn
    rw [ho]
    simp only
    have hbi:befA ops c i=true∨i=c:=by
      by_cases hic:i=c
      · exact .inr hic
      · refine .inl ?_
        unfold befA
        cases hb:((ancs ops.toList).getD i 0).testBit c with
        | true=>exact (never listed hlb (hanc c hb)).elim
        | false=>simp [hic]
    have hwant:∀ o:Oper,o.guard=none→Region.wanted o (yielded ops a.tmps)=true:=fun o hg=>by unfold Region.wanted; rw [hg]
    by_cases hic:i=c
    · subst hic
      rw [hoc] at ho'
      simp only [Option.some.injEq] at ho'
      subst ho'
      rw [if_pos (hwant oc hg)]
      have hsame:=opA_looks (looks' hd he hF (.inr rfl) hoc (fun j oj _ hb=>hanc j hb) (fun j oj hoj hb=>(hd.anc i j oc oj (.inr rfl) hoc hoj hb).1) hlb (fun j oj _ h=>h))
      exact hpan G a w (fun x hx=>by rw [← hsame x hx]; exact hok.env.op x) hok.w _ Q (fun pv G1 w1 h1 h2 h3=>hQ G1 a w1 _ ⟨pv,rfl⟩ ⟨⟨forget_ok he hlb (hok.env.mono h2),h1,hok.marks.ext h3⟩,h3,⟨(fun d hd=>.inl hd),rfl⟩,(fun i b _ hb=>prefix_getElem? h2.addr hb),fun _=>h2⟩) r
    · have hb:=hbi.resolve_right hic
      obtain ⟨hgi,envi,hei,hop⟩:=hbef i o ho' hb
      rw [if_pos (hwant o hgi)]
      have hsame:=opA_looks (looks' hd he hei (.inl hb) ho' (fun j oj _ hb=>hanc j hb) (fun j oj hoj hbb=>⟨(hd.anc i j o oj (.inl hb) ho' hoj hbb).2,(hd.anc i j o oj (.inl hb) ho' hoj hbb).1⟩) hlb (fun j oj _ h=>h.2))
      refine hop G a w (fun x hx=>by rw [← hsame x hx]; exact hok.env.op x) hok.w _ Q (fun cv G1 w1 h1 h2 h3 h4=>?_) r
      have hok1:Ok G1 B (setA env o.dst (vs i)) (a.put o.dst cv) w1:=⟨(hok.env.mono h3).put o.dst h1,h2,by rw [put_defers']; exact hok.marks.ext h4⟩
      have hnew:∀ j,(listed.setIfInBounds i true).getD j false=true↔listed.getD j false=true∨j=i:=fun j=>by
        by_cases e:j=i
        · subst e
          exact ⟨fun _=>.inr rfl,fun _=>listed_new hlt⟩
        · rw [listed_same e]
          exact ⟨.inl,fun h=>h.resolve_right e⟩
      refine ih _ _ _ _ _ (count_step hlt hun' hc) (by simpa using hsz) (fun j oj hoj hj e hee hbe=>?_) (fun j oj hoj hj=>?_) (EnvL.step' hd he ho' hnew (fun h=>by rw [hun'] at h; cases h)) hok1 fun G2 a2 w2 x hx h=>hQ G2 a2 w2 x hx (Goes.trans ⟨hok1,h4,⟨(fun d hd=>.inl (by rw [put_defers'] at hd; exact hd)),by rw [put_defers']⟩,(fun i b _ hb=>prefix_getElem? h3.addr hb),fun _=>h3⟩ h)
      · refine (hnew e.on).2 (.inl ?_)
        rcases (hnew j).1 hj with hj | rfl
        · exact hcl j oj hoj hj e hee hbe
        · rw [ho'] at hoj
          simp only [Option.some.injEq] at hoj
          subst hoj
          exact hready e hee hbe
      · rcases (hnew j).1 hj with hj | rfl
        · exact hlb j oj hoj hj
        · exact hb
def drawXs (P:Program) (C:CalT) {X:Type} (ops:Array Oper) (env:List AVal) (B:Bx) (k:AExit→List AVal→Bx→Option X):List Nat→Option X
  | []=>regR P C ops ops.toList env B fun env' B'=>bif !drawOk C ops env.length B.box.length env' then none else k .normal env' B'
  | c::cs=>bif !panOk ops c env.length then none else befR P C ops c ops.toList 0 env B fun envF=>match ops.toList[c]? with
    | some o=>match o.op with
      | .call cc=>match cc.callee with
        | .value f=>callA C (opA envF f) (cc.args.toList.map (opA envF)) B fun v B1=>match v with
          | .pan t=>bif o.guard.isNone then k (.pan t) (forgetA ops c env) B1 else none
          | _=>drawXs P C ops env B k cs
        | _=>none
      | _=>none
    | none=>none
def drawX (P:Program) (C:CalT) {X:Type} (ops:Array Oper) (env:List AVal) (B:Bx) (k:AExit→List AVal→Bx→Option X):Option X:=drawXs P C ops env B k (panAts ops)
theorem drawXs_sound {n:Nat} {f:Bool} {P:Program} {C:CalT} {X:Type} {ops:Array Oper} {env:List AVal} {B:Bx} {k:AExit→List AVal→Bx→Option X} {r:X} (id:Nat) (hm:P.follows .mixedOrders=true) (hC:CV P C):(cs:List Nat)→drawXs P C ops env B k cs=some r→
    ∃ e env' B',k e env' B'=some r∧∀ (ro:Option Nat) (G:Gh) (a:Act) (w:World) (Q:Exit→Act→World→Prop),Ok G B env a w→(∀ G1 a1 w1 x,e.is x→Goes n f B.dead G a w G1 B' env' a1 w1→Q x a1 w1)→(Code.region id ops true).wpIn (Fr ro) 0 P Q a w
  | [],h=>by
    unfold drawXs at h
    obtain ⟨env',B',ht,hk⟩:=regR_tr hC h
    cases hb:!drawOk C ops env.length B.box.length env' with
    | true=>rw [hb] at hk; cases hk
    | false=>
      rw [hb] at hk
      simp only [cond_false] at hk
      exact ⟨.normal,env',B',hk,fun ro G a w Q hok hQ=>draw_sound hm (by simpa using hb) ht ro hok fun G1 a1 w1 g1=>hQ G1 a1 w1 _ rfl g1⟩
  | c::cs,h=>by
    unfold drawXs at h
    cases hpk:panOk ops c env.length with
    | false=>rw [hpk] at h; cases h
    | true=>
      rw [hpk] at h
      simp only [Bool.not_true,cond_false] at h
      have hd:=panOk_spec hpk
      obtain ⟨vs,envF,_,h1,hF,hbef⟩:=befR_spec hC hd ops.toList 0 env (fun _=>.any) rfl ⟨rfl,fun t=>⟨fun j o _ _ h=>absurd h.1 (by omega),fun _=>rfl⟩⟩ h
      split at h1
      · rename_i o hoc
        split at h1
        · rename_i cc hcc
          split at h1
          · rename_i f hcal
            obtain ⟨v,B1,k1,k2,_,_⟩:=callA_sound hC hcc hcal h1 (fun f=>rfl)
            cases hv:v.isPan with
            | true=>
              obtain ⟨t,rfl⟩:∃ t,v=.pan t:=by cases v<;>first | exact ⟨_,rfl⟩ | simp [AVal.isPan] at hv
              cases hg:o.guard.isNone with
              | false=>rw [hg] at k1; cases k1
              | true=>
                rw [hg] at k1
                simp only [cond_true] at k1
                refine ⟨.pan t,forgetA ops c env,B1,k1,fun ro G a w Q hok hQ=>wpIn_region_any hm ?_⟩
                have hrep:∀ j,(Array.replicate ops.size false).getD j false=false:=fun j=>by
                  rcases Nat.lt_or_ge j ops.size with h | h
                  · simp [h]
                  · simp [h]
                have hok':Ok G B env a w.drew:=⟨hok.env,hok.w.heap rfl,hok.marks.ext (Ext.drew G w)⟩
                exact pan_any hd hoc (by simpa using hg) hF (fun i o ho hb=>hbef i o (Nat.zero_le _) ho hb) (k2.2 t rfl) ro ops.size (Array.replicate ops.size false) env G a w.drew (by simp) (by simp) (fun i o _ h=>by simp only [hrep] at h; cases h) (fun i o _ h=>by simp only [hrep] at h; cases h)
                  ⟨rfl,fun t=>⟨(fun j o _ _ h=>by simp only [hrep] at h; cases h),fun _=>rfl⟩⟩ hok' fun G1 a1 w1 x hx h=>hQ G1 a1 w1 x hx ⟨h.ok,(Ext.drew G w).trans h.ext,h.defers,h.held,h.full⟩
            | false=>
              refine drawXs_sound id hm hC cs ?_
              cases v<;>first | exact k1 | simp [AVal.isPan] at hv
          · cases h1
        · cases h1
      · cases h1
theorem drawX_sound {n:Nat} {f:Bool} {P:Program} {C:CalT} {X:Type} {ops:Array Oper} {env:List AVal} {B:Bx} {k:AExit→List AVal→Bx→Option X} {r:X} (id:Nat) (hm:P.follows .mixedOrders=true) (hC:CV P C) (h:drawX P C ops env B k=some r) :
    ∃ e env' B',k e env' B'=some r∧∀ (ro:Option Nat) (G:Gh) (a:Act) (w:World) (Q:Exit→Act→World→Prop),Ok G B env a w→(∀ G1 a1 w1 x,e.is x→Goes n f B.dead G a w G1 B' env' a1 w1→Q x a1 w1)→(Code.region id ops true).wpIn (Fr ro) 0 P Q a w:=drawXs_sound id hm hC _ h
end Go.Proofs.YtkeipcalbbmncaaGreat.Abs
set_option linter.unusedVariables false
set_option linter.unusedSimpArgs false
namespace Go.Proofs.YtkeipcalbbmncaaGreat.Abs
structure LoopT where
  run:(X:Type)→List AVal→Bx→(AExit→List AVal→Bx→Option X)→Option X
def nl:Code→Nat
  | .seq a b=>nl a+nl b
  | .cond _ x y=>nl x+nl y
  | .block _ c=>nl c
  | .scope c=>nl c
  | .loop _=>1
  | .rangeFunc ..=>1
  | _=>0
theorem nl_len:(c:Code)→(loopsOf c).length=nl c
  | .seq a b=>by simp [loopsOf,nl,nl_len a,nl_len b]
  | .cond _ x y=>by simp [loopsOf,nl,nl_len x,nl_len y]
  | .block _ c=>by simp [loopsOf,nl,nl_len c]
  | .scope c=>by simp [loopsOf,nl,nl_len c]
  | .loop c=>rfl
  | .rangeFunc f ps a b=>rfl
  | .skip | .region .. | .exit _ | .label _ | .goto _ | .ret | .refuse _=>rfl
def blockK {X:Type} (id:Nat) (k:AExit→List AVal→Bx→Option X):AExit→List AVal→Bx→Option X
  | .exit i,env,B=>bif i==id then k .normal env B else k (.exit i) env B
  | e,env,B=>k e env B
theorem stepR_scope {P:Program} {b:Frame} {a:Act} {k:List Item} {cs:List Frame} {w:World} {c:Code}:step P (lone (b.atR a (.code (.scope c)::k)) cs w)=.next (lone (b.atR a (.code c::.inScope c::k)) cs w):=
  step_lone_go (by simp [stepG,stepG.exec,Frame.atR])
theorem stepR_inScope {P:Program} {b:Frame} {a:Act} {k:List Item} {cs:List Frame} {w:World} {c:Code}:step P (lone (b.atR a (.inScope c::k)) cs w)=.next (lone (b.atR a k) cs w):=
  step_lone_go (by simp [stepG,stepG.exec,Frame.atR])
theorem wpIn_scope_straight {F:Fence} {n:Nat} {P:Program} {Q:Exit→Act→World→Prop} {a:Act} {w:World} {c:Code} (h:c.wpIn F n P (Exit.noGoto Q) a w):(Code.scope c).wpIn F n P Q a w:=by
  intro b k cs hro hb hr
  have h0:(lone (b.atR a (.code (.scope c)::k)) cs w).fenced P F:=fenced_calm hb hr rfl
  obtain ⟨e,a₁,w₁,hq,harr⟩:=h b (.inScope c::k) cs hro hb hr
  have hx:∀ id,exitTo id (.inScope c::k)=exitTo id k:=fun id=>by simp [exitTo]
  cases e with
  | normal=>exact ⟨.normal,a₁,w₁,hq,.head h0 stepR_scope (StepsIn.trans harr (.one (fenced_calm hb hr rfl) stepR_inScope))⟩
  | exit id=>exact ⟨.exit id,a₁,w₁,hq,fun k' hk=>.head h0 stepR_scope (harr.1 k' (by rw [hx]; exact hk)),
      fun hr' hk=>let ⟨k₁,h1,h2⟩:=harr.2 hr' (by rw [hx]; exact hk); ⟨k₁,h1,.head h0 stepR_scope h2⟩⟩
  | goto l=>exact hq.elim
  | ret=>exact ⟨_,a₁,w₁,hq,.of_steps (.one h0 stepR_scope) harr⟩
  | panic ch=>exact ⟨_,a₁,w₁,hq,.of_steps (.one h0 stepR_scope) harr⟩
  | outgrown=>exact ⟨_,a₁,w₁,hq,.of_steps (.one h0 stepR_scope) harr⟩
def codeR (P:Program) (C:CalT) {X:Type}:Code→List LoopT→List AVal→Bx→(AExit→List AVal→Bx→Option X)→Option X
  | .skip,_,env,B,k=>k .normal env B
  | .label _,_,env,B,k=>k .normal env B
  | .region _ ops draw,_,env,B,k=>bif draw then
      (bif !(pendN ops==0) then
        regR P C.drawn ops ops.toList env B fun env' B'=>bif drawOkN (pendN ops) C.drawn ops env.length B.box.length env'&&pendOk ops (pendN ops) env.length then k .normal env' B' else none
      else drawX P C.drawn ops env B k)
    else regX P C ops ops.toList env B k
  | .seq a b,Ls,env,B,k=>codeR P C a Ls env B fun e env' B'=>match e with
    | .normal=>codeR P C b (Ls.drop (nl a)) env' B' k
    | e=>k e env' B'
  | .cond c x y,Ls,env,B,k=>match opA env c with
    | .d .bool t=>bif t then codeR P C x Ls env B k else codeR P C y (Ls.drop (nl x)) env B k
    | _=>none
  | .block id c,Ls,env,B,k=>codeR P C c Ls env B (blockK id k)
  | .scope c,Ls,env,B,k=>codeR P C c Ls env B k
  | .loop _,Ls,env,B,k=>match Ls with
    | L::_=>L.run X env B k
    | []=>none
  | .rangeFunc _ _ _ _,Ls,env,B,k=>match Ls with
    | L::_=>L.run X env B k
    | []=>none
  | .exit id,_,env,B,k=>k (.exit id) env B
  | .ret,_,env,B,k=>k .ret env B
  | _,_,_,_,_=>none
def AW (n:Nat) (P:Program) (c:Code) (env:List AVal) (B:Bx) (e:AExit) (env':List AVal) (B':Bx) (rd:Bool:=false) (f:Bool:=false):Prop:=
  ∀ (r:Option Nat),r.isSome=rd→∀ (G:Gh) (a:Act) (w:World) (Q:Exit→Act→World→Prop),Ok G B env a w→(∀ G1 a1 w1 x,e.is x→Goes n f B.dead G a w G1 B' env' a1 w1→Q x a1 w1)→c.wpIn (Fr r) 0 P Q a w
def LValid (n:Nat) (P:Program) (c:Code) (L:LoopT) (rd:Bool:=false) (f:Bool:=false):Prop:=∀ X env B k r,L.run X env B k=some r→∃ e env' B',k e env' B'=some r∧AW n P c env B e env' B' rd f
def LVf (n:Nat) (P:Program) (rd f:Bool):List Code→List LoopT→Prop
  | c::cs,L::Ls=>LValid n P c L rd f∧LVf n P rd f cs Ls
  | _,_=>True
abbrev LV (n:Nat) (P:Program) (rd:Bool):List Code→List LoopT→Prop:=LVf n P rd false
theorem LV.left {n:Nat} {P:Program} {rd f:Bool}:{cs ds:List Code}→{Ls:List LoopT}→LVf n P rd f (cs++ds) Ls→LVf n P rd f cs Ls
  | [],_,_,_=>by unfold LVf; trivial
  | c::cs,ds,[],_=>by unfold LVf; trivial
  | c::cs,ds,L::Ls,h=>⟨h.1,LV.left h.2⟩
theorem LV.right {n:Nat} {P:Program} {rd f:Bool}:{cs ds:List Code}→{Ls:List LoopT}→LVf n P rd f (cs++ds) Ls→LVf n P rd f ds (Ls.drop cs.length)
  | [],_,_,h=>h
  | c::cs,ds,[],_=>by simp; cases ds<;>trivial
  | c::cs,ds,L::Ls,h=>by simpa using LV.right h.2
theorem codeR_sound {n:Nat} {P:Program} {rd fl:Bool} {C:CalT} {X:Type} {r:X} (hm:P.follows .mixedOrders=true) (hC:CV P C):(c:Code)→{Ls:List LoopT}→{env:List AVal}→{B:Bx}→{k:AExit→List AVal→Bx→Option X}→LVf n P rd fl (loopsOf c) Ls→codeR P C c Ls env B k=some r→
    ∃ e env' B',k e env' B'=some r∧AW n P c env B e env' B' rd fl
  | .skip,Ls,env,B,k,_,h=>⟨.normal,env,B,h,fun ro hro G a w Q hok hQ=>wpIn_skip (hQ G a w _ rfl (Goes.refl hok))⟩
  | .label _,Ls,env,B,k,_,h=>⟨.normal,env,B,h,fun ro hro G a w Q hok hQ=>wpIn_label (hQ G a w _ rfl (Goes.refl hok))⟩
  | .region id ops draw,Ls,env,B,k,_,h=>by
    simp only [codeR] at h
    cases draw with
    | false=>
      simp only [cond_false] at h
      obtain ⟨e,env',B',hk,hl⟩:=regX_sound (n:=n) hC h
      exact ⟨e,env',B',hk,fun ro hro G a w Q hok hQ=>wpIn_region_list (hl ro G a w Q hok hQ)⟩
    | true=>
      simp only [cond_true] at h
      cases hpn:!(pendN ops==0) with
      | true=>
        rw [hpn] at h
        simp only [cond_true] at h
        obtain ⟨env',B',ht,hk⟩:=regR_tr hC.drawn h
        cases hb:drawOkN (pendN ops) C.drawn ops env.length B.box.length env'&&pendOk ops (pendN ops) env.length with
        | false=>rw [hb] at hk; cases hk
        | true=>
          rw [hb] at hk
          simp only [Bool.and_eq_true] at hb
          refine ⟨.normal,env',B',hk,fun ro hro G a w Q hok hQ=>?_⟩
          exact pend_sound hm hb.1 hb.2 ht ro hok fun G1 a1 w1 g1=>hQ G1 a1 w1 _ rfl g1
      | false=>
        rw [hpn] at h
        simp only [cond_false] at h
        obtain ⟨e,env',B',hk,hw⟩:=drawX_sound (n:=n) id hm hC.drawn h
        exact ⟨e,env',B',hk,fun ro hro G a w Q hok hQ=>hw ro G a w Q hok hQ⟩
  | .seq x y,Ls,env,B,k,hL,h=>by
    simp only [codeR] at h
    obtain ⟨e,env1,B1,h1,w1⟩:=codeR_sound hm hC x (LV.left hL) h
    cases e with
    | normal=>
      simp only at h1
      obtain ⟨e2,env2,B2,h2,w2⟩:=codeR_sound hm hC y (by have:=LV.right hL; rwa [nl_len] at this) h1
      refine ⟨e2,env2,B2,h2,fun ro hro G a w Q hok hQ=>wpIn_seq (w1 ro hro G a w _ hok fun G1 a1 w1' x hx g1=>?_)⟩
      cases hx
      exact w2 ro hro G1 a1 w1' Q g1.ok fun G2 a2 w2' x hx g2=>hQ G2 a2 w2' x hx (g1.trans g2)
    | exit id=>exact ⟨.exit id,env1,B1,h1,fun ro hro G a w Q hok hQ=>wpIn_seq (w1 ro hro G a w _ hok fun G1 a1 w1' x hx g1=>by cases hx; exact hQ G1 a1 w1' _ rfl g1)⟩
    | ret=>exact ⟨.ret,env1,B1,h1,fun ro hro G a w Q hok hQ=>wpIn_seq (w1 ro hro G a w _ hok fun G1 a1 w1' x hx g1=>by cases hx; exact hQ G1 a1 w1' _ rfl g1)⟩
    | pan t=>exact ⟨.pan t,env1,B1,h1,fun ro hro G a w Q hok hQ=>wpIn_seq (w1 ro hro G a w _ hok fun G1 a1 w1' x hx g1=>by obtain ⟨pv,rfl⟩:=hx; exact hQ G1 a1 w1' _ ⟨pv,rfl⟩ g1)⟩
  | .cond c x y,Ls,env,B,k,hL,h=>by
    simp only [codeR] at h
    split at h
    · rename_i t ht
      cases t with
      | true=>
        obtain ⟨e,env1,B1,h1,w1⟩:=codeR_sound hm hC x (LV.left hL) h
        refine ⟨e,env1,B1,h1,fun ro hro G a w Q hok hQ=>wpIn_cond_true ?_ (w1 ro hro G a w Q hok hQ)⟩
        have:=hok.env.op c
        rw [ht] at this
        exact bool_form this
      | false=>
        obtain ⟨e,env1,B1,h1,w1⟩:=codeR_sound hm hC y (by have:=LV.right hL; rwa [nl_len] at this) h
        refine ⟨e,env1,B1,h1,fun ro hro G a w Q hok hQ=>wpIn_cond_false ?_ (w1 ro hro G a w Q hok hQ)⟩
        have:=hok.env.op c
        rw [ht] at this
        exact bool_form this
    · cases h
  | .block id c,Ls,env,B,k,hL,h=>by
    simp only [codeR] at h
    obtain ⟨e,env1,B1,h1,w1⟩:=codeR_sound hm hC c hL h
    cases e with
    | normal=>exact ⟨.normal,env1,B1,h1,fun ro hro G a w Q hok hQ=>wpIn_block (w1 ro hro G a w _ hok fun G1 a1 w1' x hx g1=>by cases hx; exact hQ G1 a1 w1' _ rfl g1)⟩
    | ret=>exact ⟨.ret,env1,B1,h1,fun ro hro G a w Q hok hQ=>wpIn_block (w1 ro hro G a w _ hok fun G1 a1 w1' x hx g1=>by cases hx; exact hQ G1 a1 w1' _ rfl g1)⟩
    | pan t=>exact ⟨.pan t,env1,B1,h1,fun ro hro G a w Q hok hQ=>wpIn_block (w1 ro hro G a w _ hok fun G1 a1 w1' x hx g1=>by obtain ⟨pv,rfl⟩:=hx; exact hQ G1 a1 w1' _ ⟨pv,rfl⟩ g1)⟩
    | exit i=>
      simp only [blockK] at h1
      by_cases hi:i=id
      · simp only [hi,beq_self_eq_true,cond_true] at h1
        exact ⟨.normal,env1,B1,h1,fun ro hro G a w Q hok hQ=>wpIn_block (w1 ro hro G a w _ hok fun G1 a1 w1' x hx g1=>by
          cases hx
          simp only [Exit.inBlock,hi,if_true]
          exact hQ G1 a1 w1' _ rfl g1)⟩
      · have hb:(i==id)=false:=by simpa using hi
        simp only [hb,cond_false] at h1
        exact ⟨.exit i,env1,B1,h1,fun ro hro G a w Q hok hQ=>wpIn_block (w1 ro hro G a w _ hok fun G1 a1 w1' x hx g1=>by
          cases hx
          simp only [Exit.inBlock,hi,if_false]
          exact hQ G1 a1 w1' _ rfl g1)⟩
  | .scope c,Ls,env,B,k,hL,h=>by
    simp only [codeR] at h
    obtain ⟨e,env1,B1,h1,w1⟩:=codeR_sound hm hC c hL h
    exact ⟨e,env1,B1,h1,fun ro hro G a w Q hok hQ=>wpIn_scope_straight (w1 ro hro G a w _ hok fun G1 a1 w1' x hx g1=>by
      cases e with
      | pan t=>obtain ⟨pv,rfl⟩:=hx; exact hQ G1 a1 w1' _ ⟨pv,rfl⟩ g1
      | _=>cases hx; exact hQ G1 a1 w1' _ rfl g1)⟩
  | .loop c,Ls,env,B,k,hL,h=>by
    simp only [codeR] at h
    cases Ls with
    | nil=>cases h
    | cons L Ls=>exact hL.1 X env B k r h
  | .rangeFunc f ps a b,Ls,env,B,k,hL,h=>by
    simp only [codeR] at h
    cases Ls with
    | nil=>cases h
    | cons L Ls=>exact hL.1 X env B k r h
  | .exit id,Ls,env,B,k,_,h=>⟨.exit id,env,B,h,fun ro hro G a w Q hok hQ=>wpIn_exit (hQ G a w _ rfl (Goes.refl hok))⟩
  | .ret,Ls,env,B,k,_,h=>⟨.ret,env,B,h,fun ro hro G a w Q hok hQ=>wpIn_ret (hQ G a w _ rfl (Goes.refl hok))⟩
  | .goto _,_,_,_,_,_,h | .refuse _,_,_,_,_,_,h=>by simp [codeR] at h
def resA (P:Program) (env:List AVal) (B:Bx):List ResultVar→Option (List AVal)
  | []=>some []
  | .tmp t::rs=>match resA P env B rs with
    | some l=>some (env.getD t .any::l)
    | none=>none
  | .cell a t::rs=>match loadA P t (env.getD a .any) B,resA P env B rs with
    | some v,some l=>some (v::l)
    | _,_=>none
theorem loadA_run {P:Program} {G:Gh} {B:Bx} {w:World} {t:TypeId} {x v:AVal} {cv:Value} (hw:WOk G B w) (hx:Rv G B.dead x cv) (h:loadA P t x B=some v):∃ a cv',cv=.pointer (some a)∧(loadVar t a).run P w=.ok cv' w∧Rv G B.dead v cv':=by
  unfold loadA at h
  have conv:∀ b off cv',(Instr.loadAt t (.pointer (some ⟨b,off,none⟩))).run P w=.ok cv' w→(loadVar t ⟨b,off,none⟩).run P w=.ok cv' w:=fun b off cv' h=>h
  split at h
  · rename_i T y
    cases hf:fitT P t (.d T y) with
    | false=>simp [hf] at h
    | true=>
      simp only [hf,cond_true,Option.some.injEq] at h
      subst h
      obtain ⟨b,off,row,hv,hrow,hle,hr⟩:=iptr_form hx
      obtain ⟨cells,e,fr,hb,hp⟩:=hw.imm b row hrow
      have hlen:((row.drop off).take T.sz).length=T.sz:=RD.len hr
      obtain ⟨cv',hrun,hcv⟩:=run_loadAt' (P:=P) (w:=w) (b:=b) (off:=off) hf (G:=G) (dead:=B.dead) (cs:=(row.drop off).take T.sz) hr (fun j hj=>by
        rw [hlen] at hj
        rw [cell_of_heap hb,List.getElem?_take_of_lt hj,List.getElem?_drop,← Array.getElem?_toList]
        exact prefix_getElem? hp (List.getElem?_eq_getElem (by omega)) |>.trans (List.getElem?_eq_getElem (by omega)).symm)
      exact ⟨_,cv',hv,conv _ _ _ hrun,hcv⟩
  · rename_i bb p
    split at h
    · rename_i c hc
      split at h
      · rename_i c' hc'
        cases hf:fitT P t c' with
        | false=>simp [hf] at h
        | true=>
          simp only [hf,cond_true,Option.some.injEq] at h
          subst h
          obtain ⟨blk,hb,hp,hv⟩:=ptr_form hx
          obtain ⟨cells,e,hheap,hrc⟩:=(hw.boxes bb blk c hb hc).cells (getP_notM hc' (fitT_notM hf))
          obtain ⟨hle,hr⟩:=getP_spec hc' hp _ hrc
          have hlen:=Rc.len hr
          obtain ⟨cv',hrun,hcv⟩:=run_loadAt' (P:=P) (w:=w) (b:=blk) (off:=offP p) hf hr (fun j hj=>by
            rw [hlen] at hj
            rw [cell_of_heap hheap,List.getElem?_take_of_lt hj,List.getElem?_drop,← Array.getElem?_toList])
          exact ⟨_,cv',hv,conv _ _ _ hrun,hcv⟩
      · cases h
    · cases h
  · cases h
def rvSem (tm:Array Value):ResultVar→Sem Value
  | .tmp t=>pure (tm.getD t undef)
  | .cell a t=>do loadVar t (← asAddr (tm.getD a undef))
theorem results_eq (fn:Func) (tm:Array Value):results fn tm=(do let vs ← fn.results.mapM (rvSem tm); pure (if h:vs.size=1 then vs[0] else .tuple vs)):=by
  unfold results
  congr 1
theorem resA_run {P:Program} {G:Gh} {B:Bx} {w:World} {env:List AVal} {tm:Array Value} (hw:WOk G B w) (he:EnvOk G B.dead env tm):{rs:List ResultVar}→{l:List AVal}→resA P env B rs=some l→
    ∃ vs,(rs.mapM (rvSem tm)).run P w=.ok vs w∧Vals G B.dead l vs
  | [],l,h=>by
    simp only [resA,Option.some.injEq] at h
    subst h
    exact ⟨[],rfl,.nil⟩
  | .tmp t::rs,l,h=>by
    simp only [resA] at h
    split at h
    · rename_i l' hl
      simp only [Option.some.injEq] at h
      subst h
      obtain ⟨vs,h1,h2⟩:=resA_run hw he hl
      refine ⟨tm.getD t undef::vs,?_,.cons (he.val t) h2⟩
      simp only [List.mapM_cons,rvSem,Sem.run_bind,Sem.run_pure,Result.andThen_ok,h1]
    · cases h
  | .cell a t::rs,l,h=>by
    simp only [resA] at h
    split at h
    · rename_i v l' hv hl
      simp only [Option.some.injEq] at h
      subst h
      obtain ⟨vs,h1,h2⟩:=resA_run hw he hl
      obtain ⟨ad,cv,e1,e2,e3⟩:=loadA_run hw (he.val a) hv
      refine ⟨cv::vs,?_,.cons e3 h2⟩
      simp only [List.mapM_cons,rvSem,Sem.run_bind,e1,asAddr,Sem.run_pure,Result.andThen_ok,e2,h1]
    · cases h
def oneOf:List AVal→AVal
  | [v]=>v
  | l=>.tuple (chain l)
def endK {X:Type} (P:Program) (fn:Func) (k:AVal→Bx→Option X) (e:AExit) (env:List AVal) (B':Bx):Option X:=match e with
    | .exit _=>none
    | .pan t=>k (.pan t) B'
    | _=>match resA P env B' fn.results.toList with
      | some l=>bif (oneOf l).isPan then none else k (oneOf l) B'
      | none=>none
def fnR (P:Program) (C:CalT) {X:Type} (Ls:List LoopT) (fn:Func) (c:Code) (args:List AVal) (B:Bx) (k:AVal→Bx→Option X):Option X:=
  codeR P C c Ls (args++List.replicate (fn.ntmps - args.length) .any) B (endK P fn k)
theorem vals_len {G:Gh} {dead:List Nat}:{az:List AVal}→{vs:List Value}→Vals G dead az vs→az.length=vs.length
  | _,_,.nil=>rfl
  | _,_,.cons _ t=>by simp [vals_len t]
def LCall (n:Nat) (P:Program) (g:FuncId) (args:List AVal) (B:Bx) (v:AVal) (B':Bx):Prop:=
  Ent' P g∧∀ (G:Gh) (w:World) (vs:List Value),Vals G B.dead args vs→WOk G B w→
    Run P g vs w fun e w'=>∃ cv G',EndIs v cv e∧Rv G' B'.dead v cv∧WOk G' B' w'∧Ext G w G' w'∧∀ i b,i < n→G.addr[i]?=some b→G'.addr[i]?=some b
def LCallF (n:Nat) (fl:Bool) (P:Program) (g:FuncId) (args:List AVal) (B:Bx) (v:AVal) (B':Bx):Prop:=
  Ent' P g∧∀ (G:Gh) (w:World) (vs:List Value),Vals G B.dead args vs→WOk G B w→
    Run P g vs w fun e w'=>∃ cv G',EndIs v cv e∧Rv G' B'.dead v cv∧WOk G' B' w'∧Ext G w G' w'∧(∀ i b,i < n→G.addr[i]?=some b→G'.addr[i]?=some b)∧(fl=true→GLe G B.dead G' B'.dead)
theorem LCallF.drop {n:Nat} {fl:Bool} {P:Program} {g:FuncId} {args:List AVal} {B:Bx} {v:AVal} {B':Bx} (h:LCallF n fl P g args B v B'):LCall n P g args B v B':=
  ⟨h.1,fun G w vs hvs hw=>(h.2 G w vs hvs hw).mono fun _ _ ⟨cv,G',h1,h2,h3,h4,h5,_⟩=>⟨cv,G',h1,h2,h3,h4,h5⟩⟩
theorem LCallF.acall {n:Nat} {P:Program} {g:FuncId} {args:List AVal} {B:Bx} {v:AVal} {B':Bx} (h:LCallF n true P g args B v B'):ACall P g args B v B':=
  ⟨h.1,fun G w vs hvs hw=>(h.2 G w vs hvs hw).mono fun _ _ ⟨cv,G',h1,h2,h3,h4,_,h5⟩=>⟨cv,G',h1,h2,h3,h5 rfl,h4⟩⟩
theorem body_lcallF {n:Nat} {fl:Bool} {P:Program} {X:Type} {f:FuncId} {fn:Func} {c:Code} {args:List AVal} {B B':Bx} {env:List AVal} {e:AExit} {k:AVal→Bx→Option X} {r:X} (hf:P.funcs[f]?=some fn) (hb:fn.body=some c) (hent:Ent P f)
    (w1:AW n P c (args++List.replicate (fn.ntmps - args.length) .any) B e env B' false fl) (h1:endK P fn k e env B'=some r):∃ v B',k v B'=some r∧LCallF n fl P f args B v B':=by
  unfold endK at h1
  have main:∀ (v:AVal),(∀ (G1:Gh) (a1:Act) (x:Exit),e.is x→EnvOk G1 B'.dead env a1.tmps→∃ u:FrameMode,u≠.run∧(∀ R w2,bodyPostM Fence.wide 0 P fn R x a1 w2=LeavesInM Fence.wide 0 P fn a1.tmps R a1.defers u w2)∧∀ w2,WOk G1 B' w2→∀ (R:Ending→World→Prop),(∀ en cv,EndIs v cv en→Rv G1 B'.dead v cv→R en w2)→LeavesInM Fence.wide 0 P fn a1.tmps R [] u w2)→LCallF n fl P f args B v B':=by
    intro v hbase
    refine ⟨.inr hent,fun G w vs hvs hw=>Run.call hent.1 ((callsIn_wide (n:=0)).1 ?_)⟩
    refine callsIn_of_wp_marks hf hb trivial ?_
    have hok:Ok G B (args++List.replicate (fn.ntmps - args.length) .any) { tmps:=vs.toArray++Array.replicate (fn.ntmps - vs.toArray.size) undef,defers:=[] } w:=by
      have hlen:=vals_len hvs
      refine ⟨⟨by simp [hlen],fun t=>?_⟩,hw,trivial⟩
      rw [List.getD_eq_getElem?_getD,Array.getD_eq_getD_getElem?]
      simp only [List.size_toArray,← hlen]
      by_cases ht:t < args.length
      · rw [List.getElem?_append_left ht,Array.getElem?_append_left (by simpa [← hlen] using ht),List.getElem?_eq_getElem ht]
        obtain ⟨v,hv1,hv2⟩:=vals_get hvs (List.getElem?_eq_getElem ht)
        simp only [Option.getD_some]
        have:vs.toArray[t]?=some v:=by simpa using hv1
        rw [this]
        exact hv2
      · rw [List.getElem?_append_right (by omega)]
        have:((List.replicate (fn.ntmps - args.length) AVal.any)[t - args.length]?).getD .any=.any:=by
          cases hq:(List.replicate (fn.ntmps - args.length) AVal.any)[t - args.length]? with
          | none=>rfl
          | some q=>
            have:=List.mem_of_getElem? hq
            rw [List.mem_replicate] at this
            simp [this.2]
        rw [this]
        exact any_v _
    refine w1 none rfl G _ w _ hok fun G1 a1 w1' x hx g=>?_
    obtain ⟨u,hu,hpostu,hnil⟩:=hbase G1 a1 x hx g.ok.env
    have leave:∀ (ds:List Deferred) (w2:World),WOk G1 B' w2→Ext G w G1 w2→Marks G1 w2 ds→(∀ d∈ds,∃ D,d.target=.collected D∧w.heap.size≤D)→
        LeavesInM Fence.wide 0 P fn a1.tmps (fun e w'=>∃ cv G',EndIs v cv e∧Rv G' B'.dead v cv∧WOk G' B' w'∧Ext G w G' w'∧(∀ i b,i < n→G.addr[i]?=some b→G'.addr[i]?=some b)∧(fl=true→GLe G B.dead G' B'.dead)) ds u w2:=by
      intro ds
      induction ds with
      | nil=>
        intro w2 hw2 hx2 _ _
        exact hnil w2 hw2 _ fun en cv h1 h2=>⟨cv,G1,h1,h2,hw2,hx2,g.held,g.full⟩
      | cons d ds ih=>
        intro w2 hw2 hx2 hm hd
        have nofn:∀ {d':Deferred},(∃ D,d'.target=.collected D∧w.heap.size≤D)→isFnD d'=true→False:=fun {d'} ⟨D,e1,_⟩ h=>by unfold isFnD at h; rw [e1] at h; cases h
        obtain ⟨h0,h6⟩:=hm
        obtain ⟨D,h1,h2,h3,h4,h5⟩:=h0.resolve_left (fun h=>nofn (hd d (by simp)) h)
        have hge:w.heap.size≤D:=by
          obtain ⟨D',e1,e2⟩:=hd d (by simp)
          rw [h1] at e1
          cases e1
          exact e2
        have hput:∀ b,b≠D→(w2.putObj D (.deferred none)).heap[b]?=w2.heap[b]?:=fun b hb=>World.putObj_heap_other hb
        have hcell:∀ b c e fr,w2.heap[b]?=some (.cells c e fr)→b≠D:=fun b c e fr hb hbD=>by subst hbD; rw [h2] at hb; cases hb
        refine ⟨hu,.inl ⟨D,_,h1,run_takeDeferred h2,ih _ ⟨hw2.len,hw2.nodup,fun i b c hb hc=>?_,fun b row hb=>?_,hw2.disj,fun t b n ht=>?_,hw2.inj,fun q hq=>?_,?_⟩ ⟨hx2.os,hx2.tape,hx2.output,by rw [World.putObj_size]; exact hx2.size,fun b hb ha ho=>?_,hx2.imm,hx2.same,hx2.addr,hx2.own⟩ ?_ (fun d' hd'=>hd d' (by simp [hd']))⟩⟩
        · exact (hw2.boxes i b c hb hc).mono (GLe.refl _ _) (hput b (fun e=>h3 (by rw [← e]; exact List.mem_of_getElem? hb)))
        · obtain ⟨c,e,fr,k1,k2⟩:=hw2.imm b row hb
          exact ⟨c,e,fr,by rw [hput b (hcell b c e fr k1)]; exact k1,k2⟩
        · obtain ⟨k1,k2,c,e,k3,k4⟩:=hw2.own t b n ht
          exact ⟨k1,k2,c,e,by rw [hput b (hcell b c e _ k3)]; exact k3,k4⟩
        · obtain ⟨⟨e,fr,k1⟩,k2,k3⟩:=hw2.tab q hq
          exact ⟨⟨e,fr,by rw [hput q.1 (hcell _ _ e fr k1)]; exact k1⟩,k2,k3⟩
        · refine hw2.vec.mono (fun _ _ _ _ hx=>hx) (fun _ h=>.inl h) (fun t b n _ h1 h2=>⟨h1,h2,?_⟩) (ImmLe.refl _)
          obtain ⟨_,_,c,e,k3,_⟩:=hw2.own t b n h1
          exact hput b (hcell b c e _ k3)
        · rw [hput b (by omega)]
          exact hx2.frame b hb ha ho
        · have key:∀ ds',(∀ d'∈ds',d'.target≠.collected D)→Marks G1 w2 ds'→Marks G1 (w2.putObj D (.deferred none)) ds':=by
            intro ds'
            induction ds' with
            | nil=>intro _ _; trivial
            | cons d' ds' ih'=>
              intro hn hm'
              obtain ⟨h0,a6⟩:=hm'
              rcases h0 with h0 | ⟨D',a1,a2,a3,a4,a5⟩
              · exact ⟨.inl h0,ih' (fun d2 hd2=>hn d2 (by simp [hd2])) a6⟩
              have hne:D'≠D:=fun e=>hn d' (by simp) (by rw [a1,e])
              exact ⟨.inr ⟨D',a1,by rw [hput D' hne]; exact a2,a3,a4,a5⟩,ih' (fun d2 hd2=>hn d2 (by simp [hd2])) a6⟩
          exact key ds h5 h6
    have hpost:=leave a1.defers w1' g.ok.w g.ext g.ok.marks (fun d hd=>by
      rcases g.defers.1 d hd with hd | hd
      · cases hd
      · exact hd)
    rw [hpostu]
    exact hpost
  have ret:∀ l x,resA P env B' fn.results.toList=some l→(oneOf l).isPan=false→∀ (G1:Gh) (a1:Act),(x=.normal∨x=.ret)→EnvOk G1 B'.dead env a1.tmps→∃ u:FrameMode,u≠.run∧(∀ R w2,bodyPostM Fence.wide 0 P fn R x a1 w2=LeavesInM Fence.wide 0 P fn a1.tmps R a1.defers u w2)∧∀ w2,WOk G1 B' w2→∀ (R:Ending→World→Prop),(∀ en cv,EndIs (oneOf l) cv en→Rv G1 B'.dead (oneOf l) cv→R en w2)→LeavesInM Fence.wide 0 P fn a1.tmps R [] u w2:=by
    intro l x hl hp G1 a1 hx henv
    refine ⟨.returning,by simp,fun R w2=>by rcases hx with rfl | rfl<;>rfl,fun w2 hw2 R hR=>?_⟩
    obtain ⟨rv,hr1,hr2⟩:=resA_run (P:=P) hw2 henv hl
    have hres:∃ cv,(results fn a1.tmps).run P w2=.ok cv w2∧Rv G1 B'.dead (oneOf l) cv:=by
      rw [results_eq]
      have hmap:(fn.results.mapM (rvSem a1.tmps)).run P w2=.ok rv.toArray w2:=by
        rw [Array.mapM_eq_mapM_toList]
        simp only [Sem.run_map,hr1,Result.andThen_ok]
      have hl2:=vals_len hr2
      refine ⟨if h:rv.toArray.size=1 then rv.toArray[0] else .tuple rv.toArray,?_,?_⟩
      · rw [Sem.run_bind,hmap]
        rfl
      · match l,rv,hr2 with
        | [],[],.nil=>exact leaf_v rfl ⟨[],rfl,rfl⟩
        | [v],[u],.cons hv .nil=>exact hv
        | v1::v2::l,u1::u2::us,hv=>exact leaf_v rfl ⟨_,by simp,chain_vals hv⟩
    obtain ⟨cv,hc1,hc2⟩:=hres
    exact ⟨cv,hc1,hR _ cv (.of cv hp) hc2⟩
  cases e with
  | exit id=>cases h1
  | pan t=>
    refine ⟨_,_,h1,main _ fun G1 a1 x hx henv=>?_⟩
    obtain ⟨pv,rfl⟩:=hx
    exact ⟨.panicking [{ v:=.iface t (wrongV pv),recovered:=false }],by simp,fun R w2=>rfl,fun w2 hw2 R hR=>hR _ .nilIface ⟨pv,rfl⟩ (leaf_v rfl rfl)⟩
  | normal=>
    simp only at h1
    split at h1
    · rename_i l hl
      cases hp:(oneOf l).isPan with
      | true=>rw [hp] at h1; cases h1
      | false=>
        rw [hp] at h1
        exact ⟨_,_,h1,main _ fun G1 a1 x hx henv=>ret l x hl hp G1 a1 (.inl hx) henv⟩
    · cases h1
  | ret=>
    simp only at h1
    split at h1
    · rename_i l hl
      cases hp:(oneOf l).isPan with
      | true=>rw [hp] at h1; cases h1
      | false=>
        rw [hp] at h1
        exact ⟨_,_,h1,main _ fun G1 a1 x hx henv=>ret l x hl hp G1 a1 (.inr hx) henv⟩
    · cases h1
theorem body_lcall {n:Nat} {P:Program} {X:Type} {f:FuncId} {fn:Func} {c:Code} {args:List AVal} {B B':Bx} {env:List AVal} {e:AExit} {k:AVal→Bx→Option X} {r:X} (hf:P.funcs[f]?=some fn) (hb:fn.body=some c) (hent:Ent P f)
    (w1:AW n P c (args++List.replicate (fn.ntmps - args.length) .any) B e env B' false) (h1:endK P fn k e env B'=some r):∃ v B',k v B'=some r∧LCall n P f args B v B':=by
  obtain ⟨v,B',h1,h2⟩:=body_lcallF (fl:=false) hf hb hent w1 h1
  exact ⟨v,B',h1,h2.drop⟩
theorem fnR_soundF {n:Nat} {fl:Bool} {P:Program} {C:CalT} {X:Type} {Ls:List LoopT} {f:FuncId} {fn:Func} {c:Code} {args:List AVal} {B:Bx} {k:AVal→Bx→Option X} {r:X} (hm:P.follows .mixedOrders=true) (hf:P.funcs[f]?=some fn) (hb:fn.body=some c) (hent:Ent P f)
    (hC:CV P C) (hL:LVf n P false fl (loopsOf c) Ls) (h:fnR P C Ls fn c args B k=some r):∃ v B',k v B'=some r∧LCallF n fl P f args B v B':=by
  unfold fnR at h
  obtain ⟨e,env,B',h1,w1⟩:=codeR_sound hm hC c hL h
  exact body_lcallF hf hb hent w1 h1
theorem fnR_sound {n:Nat} {P:Program} {C:CalT} {X:Type} {Ls:List LoopT} {f:FuncId} {fn:Func} {c:Code} {args:List AVal} {B:Bx} {k:AVal→Bx→Option X} {r:X} (hm:P.follows .mixedOrders=true) (hf:P.funcs[f]?=some fn) (hb:fn.body=some c) (hent:Ent P f)
    (hC:CV P C) (hL:LV n P false (loopsOf c) Ls) (h:fnR P C Ls fn c args B k=some r):∃ v B',k v B'=some r∧LCall n P f args B v B':=by
  obtain ⟨v,B',h1,h2⟩:=fnR_soundF hm hf hb hent hC hL h
  exact ⟨v,B',h1,h2.drop⟩
end Go.Proofs.YtkeipcalbbmncaaGreat.Abs
set_option linter.unusedVariables false
set_option linter.unusedSimpArgs false
namespace Go.Proofs.YtkeipcalbbmncaaGreat.Abs
inductive PTy where
  | any
  | fix (a:AVal)
  | dat (T:DTy)
  | own (tok:Nat) (T:DTy)
  | cons (h t:PTy)
  | nil
  | tup (p:PTy)
  | map (K V:DTy)
  | ip (T:DTy)
  | lp (g i:Nat) (ps:PTy)
  | vec (k b:Nat) (T:DTy)
  | vrow (k:Nat) (T:DTy)
  | optp (b:Nat)
  | siter
  | fnp (f:Fn) (p q:PTy)
  | tbox (t:TypeId) (p:PTy)
@[reducible] def PTy.El:PTy→Type
  | .any=>Unit
  | .fix _=>Unit
  | .dat T=>T.El
  | .own _ T=>List T.El
  | .cons h t=>h.El×t.El
  | .nil=>Unit
  | .tup p=>p.El
  | .map K V=>List (K.El×V.El)
  | .ip T=>T.El
  | .lp _ _ ps=>Nat×ps.El
  | .vec _ _ _=>Nat
  | .vrow _ T=>List T.El
  | .optp _=>Unit
  | .siter=>ByteArray×Nat
  | .fnp _ p q=>p.El×q.El
  | .tbox _ p=>p.El
def PTy.enc:(p:PTy)→p.El→AVal
  | .any,_=>.any
  | .fix a,_=>a
  | .dat T,x=>.d T x
  | .own k T,x=>.own k T x
  | .cons h t,x=>.cons (h.enc x.1) (t.enc x.2)
  | .nil,_=>.nil
  | .tup p,x=>.tuple (p.enc x)
  | .map K V,x=>.mobj K V x
  | .ip T,x=>.iptr T x
  | .lp g i ps,x=>.lobj g i x.1 (ps.enc x.2)
  | .vec k b T,n=>.vec k b T n
  | .vrow k T,xs=>.vrow k T xs
  | .optp b,_=>.optp b
  | .siter,x=>.siter x.1 x.2
  | .fnp f p q,x=>.func f (p.enc x.1) (q.enc x.2)
  | .tbox t p,x=>.tbox t (p.enc x)
def PTy.lst:PTy→Bool
  | .nil=>true
  | .cons _ t=>t.lst
  | _=>false
def sameP:List PStep→List PStep→Bool
  | [],[]=>true
  | .fld k o::p,.fld k' o'::q=>k==k'&&o==o'&&sameP p q
  | .ix i s n::p,.ix i' s' n'::q=>i==i'&&s==s'&&n==n'&&sameP p q
  | _,_=>false
theorem sameP_eq:{p q:List PStep}→sameP p q=true→p=q
  | [],[],_=>rfl
  | .fld k o::p,.fld k' o'::q,h=>by
    simp only [sameP,Bool.and_eq_true,beq_iff_eq] at h
    obtain ⟨⟨rfl,rfl⟩,h⟩:=h
    rw [sameP_eq h]
  | .ix i s n::p,.ix i' s' n'::q,h=>by
    simp only [sameP,Bool.and_eq_true,beq_iff_eq] at h
    obtain ⟨⟨⟨rfl,rfl⟩,rfl⟩,h⟩:=h
    rw [sameP_eq h]
  | [],_::_,h | _::_,[],h | .fld ..::_,.ix ..::_,h | .ix ..::_,.fld ..::_,h=>by simp [sameP] at h
def sameA:AVal→AVal→Bool
  | .nil,.nil=>true
  | .cons a b,.cons c d=>sameA a c&&sameA b d
  | .pnil,.pnil=>true
  | .fnil,.fnil=>true
  | .snil,.snil=>true
  | .inil,.inil=>true
  | .mnil,.mnil=>true
  | .pan t,.pan t'=>t==t'
  | .bptr b p,.bptr c q=>b==c&&sameP p q
  | .mref b,.mref c=>b==c
  | .yref b,.yref c=>b==c
  | .func f a b,.func g c d=>f==g&&sameA a c&&sameA b d
  | _,_=>false
theorem sameA_eq {a b:AVal} (h:sameA a b=true):a=b:=by
  induction a generalizing b with
  | cons x y ih1 ih2=>
    cases b with
    | cons u v=>
      simp only [sameA,Bool.and_eq_true] at h
      rw [ih1 h.1,ih2 h.2]
    | _=>simp [sameA] at h
  | func f x y ih1 ih2=>
    cases b with
    | func g u v=>
      simp only [sameA,Bool.and_eq_true,beq_iff_eq] at h
      rw [h.1.1,ih1 h.1.2,ih2 h.2]
    | _=>simp [sameA] at h
  | bptr c p=>
    cases b with
    | bptr d q=>
      simp only [sameA,Bool.and_eq_true,beq_iff_eq] at h
      rw [h.1,sameP_eq h.2]
    | _=>simp [sameA] at h
  | mref c=>
    cases b with
    | mref d=>
      simp only [sameA,beq_iff_eq] at h
      rw [h]
    | _=>simp [sameA] at h
  | yref c=>
    cases b with
    | yref d=>
      simp only [sameA,beq_iff_eq] at h
      rw [h]
    | _=>simp [sameA] at h
  | pan t=>
    cases b with
    | pan t'=>
      simp only [sameA,beq_iff_eq] at h
      rw [h]
    | _=>simp [sameA] at h
  | nil | pnil | fnil | snil | inil | mnil=>cases b<;>first | rfl | simp [sameA] at h
  | _=>simp [sameA] at h
def under (m:Nat):AVal→Bool
  | .cons a b=>under m a&&under m b
  | .bptr b _=>decide (b < m)
  | .optp b=>decide (b < m)
  | .bsl b _ _ _=>decide (b < m)
  | .mref b=>decide (b < m)
  | .yref b=>decide (b < m)
  | .func _ a b=>under m a&&under m b
  | .iface _ v=>under m v
  | .tuple v=>under m v
  | _=>true
def PTy.dec:(p:PTy)→AVal→Option (p.El×List (Nat×Nat))
  | .any,_=>some ((),[])
  | .fix a,v=>bif sameA a v then some ((),[]) else none
  | .dat T,v=>match asData v T with
    | some x=>some (x,[])
    | none=>none
  | .own k T,.own t T' xs=>if h:T'=T then some (h ▸ xs,[(k,t)]) else none
  | .own _ T,.snil=>some ([],[])
  | .own _ _,_=>none
  | .cons h t,.cons a b=>match h.dec a,t.dec b with
    | some (x,l),some (y,m)=>some ((x,y),l++m)
    | _,_=>none
  | .cons h t,.d (.cons T U) x=>match h.dec (.d T x.1),t.dec (.d U x.2) with
    | some (x,l),some (y,m)=>some ((x,y),l++m)
    | _,_=>none
  | .cons _ _,_=>none
  | .nil,.nil=>some ((),[])
  | .nil,.d .nil _=>some ((),[])
  | .nil,_=>none
  | .tup p,.tuple a=>bif p.lst then p.dec a else none
  | .tup _,_=>none
  | .map K V,.mobj K' V' xs=>if h:K'=K∧V'=V then some (h.1 ▸ h.2 ▸ xs,[]) else none
  | .map _ _,_=>none
  | .ip T,.iptr T' x=>if h:T'=T then some (h ▸ x,[]) else none
  | .ip _,_=>none
  | .lp g i ps,.lobj g' i' k env=>bif g==g'&&i==i'&&ps.lst then match ps.dec env with
      | some (x,l)=>some ((k,x),l)
      | none=>none
    else none
  | .lp _ _ _,_=>none
  | .vec k b T,.vec t b' T' n=>if T'=T∧b'=b then some (n,[(k,t)]) else none
  | .vec _ _ _,_=>none
  | .vrow k T,.vrow t T' xs=>if h:T'=T then some (h ▸ xs,[(k,t)]) else none
  | .vrow _ _,_=>none
  | .optp _,.pnil=>some ((),[])
  | .optp b,.bptr b' []=>if b'=b then some ((),[]) else none
  | .optp b,.optp b'=>if b'=b then some ((),[]) else none
  | .optp _,_=>none
  | .siter,.siter s n=>some ((s,n),[])
  | .siter,_=>none
  | .fnp f p q,.func f' a b=>bif f'==f&&(p.lst&&q.lst) then (match p.dec a,q.dec b with
      | some (x,l),some (y,m)=>some ((x,y),l++m)
      | _,_=>none) else none
  | .fnp _ _ _,_=>none
  | .tbox t p,.tbox t' a=>bif t'==t then p.dec a else none
  | .tbox _ _,_=>none
theorem dec_optp {b:Nat} {a:AVal} {x:(PTy.optp b).El} {l:List (Nat×Nat)} (h:(PTy.optp b).dec a=some (x,l)):(a=.pnil∨a=.bptr b []∨a=.optp b)∧l=[]:=by
  cases a with
  | pnil=>simp only [PTy.dec,Option.some.injEq,Prod.mk.injEq] at h; exact ⟨.inl rfl,h.2.symm⟩
  | bptr b' p=>
    cases p with
    | nil=>
      simp only [PTy.dec] at h
      split at h
      · rename_i hh
        simp only [Option.some.injEq,Prod.mk.injEq] at h
        exact ⟨.inr (.inl (by rw [hh])),h.2.symm⟩
      · cases h
    | cons _ _=>simp [PTy.dec] at h
  | optp b'=>
    simp only [PTy.dec] at h
    split at h
    · rename_i hh
      simp only [Option.some.injEq,Prod.mk.injEq] at h
      exact ⟨.inr (.inr (by rw [hh])),h.2.symm⟩
    · cases h
  | _=>simp [PTy.dec] at h
theorem dec_siter {a:AVal} {x:PTy.siter.El} {l:List (Nat×Nat)} (h:PTy.siter.dec a=some (x,l)):a=.siter x.1 x.2∧l=[]:=by
  cases a with
  | siter s n=>
    simp only [PTy.dec,Option.some.injEq,Prod.mk.injEq] at h
    obtain ⟨rfl,rfl⟩:=h
    exact ⟨rfl,rfl⟩
  | _=>simp [PTy.dec] at h
theorem dec_fnp {f:Fn} {p q:PTy} {a:AVal} {x:(PTy.fnp f p q).El} {l:List (Nat×Nat)} (h:(PTy.fnp f p q).dec a=some (x,l)):∃ a1 b1 l1 l2,a=.func f a1 b1∧p.dec a1=some (x.1,l1)∧q.dec b1=some (x.2,l2)∧l=l1++l2∧p.lst=true∧q.lst=true:=by
  cases a with
  | func f' a b=>
    simp only [PTy.dec] at h
    cases hb:f'==f&&(p.lst&&q.lst) with
    | false=>rw [hb] at h; cases h
    | true=>
      rw [hb] at h
      simp only [cond_true] at h
      simp only [Bool.and_eq_true,beq_iff_eq] at hb
      obtain ⟨rfl,h1,h2⟩:=hb
      split at h
      · rename_i y l1 z l2 e1 e2
        simp only [Option.some.injEq,Prod.mk.injEq] at h
        obtain ⟨rfl,rfl⟩:=h
        exact ⟨a,b,l1,l2,rfl,e1,e2,rfl,h1,h2⟩
      · cases h
  | _=>simp [PTy.dec] at h
theorem dec_tbox {t:TypeId} {p:PTy} {a:AVal} {x:(PTy.tbox t p).El} {l:List (Nat×Nat)} (h:(PTy.tbox t p).dec a=some (x,l)):∃ a',a=.tbox t a'∧p.dec a'=some (x,l):=by
  cases a with
  | tbox t' a'=>
    simp only [PTy.dec] at h
    cases hb:t'==t with
    | false=>rw [hb] at h; cases h
    | true=>
      rw [hb] at h
      have:t'=t:=by simpa using hb
      subst this
      exact ⟨a',rfl,h⟩
  | _=>simp [PTy.dec] at h
theorem dec_vec {k b:Nat} {T:DTy} {a:AVal} {x:(PTy.vec k b T).El} {l:List (Nat×Nat)} (h:(PTy.vec k b T).dec a=some (x,l)):∃ t,a=.vec t b T x∧l=[(k,t)]:=by
  cases a with
  | vec t b' T' n=>
    simp only [PTy.dec] at h
    split at h
    · rename_i hh
      obtain ⟨rfl,rfl⟩:=hh
      simp only [Option.some.injEq,Prod.mk.injEq] at h
      obtain ⟨rfl,rfl⟩:=h
      exact ⟨t,rfl,rfl⟩
    · cases h
  | _=>simp [PTy.dec] at h
theorem dec_vrow {k:Nat} {T:DTy} {a:AVal} {x:(PTy.vrow k T).El} {l:List (Nat×Nat)} (h:(PTy.vrow k T).dec a=some (x,l)):∃ t,a=.vrow t T x∧l=[(k,t)]:=by
  cases a with
  | vrow t T' xs=>
    simp only [PTy.dec] at h
    split at h
    · rename_i hh
      subst hh
      simp only [Option.some.injEq,Prod.mk.injEq] at h
      obtain ⟨rfl,rfl⟩:=h
      exact ⟨t,rfl,rfl⟩
    · cases h
  | _=>simp [PTy.dec] at h
theorem dec_lp {g i:Nat} {ps:PTy} {a:AVal} {x:(PTy.lp g i ps).El} {l:List (Nat×Nat)} (h:(PTy.lp g i ps).dec a=some (x,l)):∃ env,a=.lobj g i x.1 env∧ps.dec env=some (x.2,l)∧ps.lst=true:=by
  cases a with
  | lobj g' i' k env=>
    simp only [PTy.dec] at h
    cases hb:g==g'&&i==i'&&ps.lst with
    | false=>rw [hb] at h; cases h
    | true=>
      rw [hb] at h
      simp only [cond_true] at h
      simp only [Bool.and_eq_true,beq_iff_eq] at hb
      obtain ⟨⟨rfl,rfl⟩,hl⟩:=hb
      split at h
      · rename_i y m hy
        simp only [Option.some.injEq,Prod.mk.injEq] at h
        obtain ⟨rfl,rfl⟩:=h
        exact ⟨env,rfl,hy,hl⟩
      · cases h
  | _=>simp [PTy.dec] at h
theorem dec_ip {T:DTy} {a:AVal} {x:(PTy.ip T).El} {l:List (Nat×Nat)} (h:(PTy.ip T).dec a=some (x,l)):a=.iptr T x∧l=[]:=by
  cases a with
  | iptr T' y=>
    simp only [PTy.dec] at h
    split at h
    · rename_i hh
      subst hh
      simp only [Option.some.injEq,Prod.mk.injEq] at h
      obtain ⟨rfl,rfl⟩:=h
      exact ⟨rfl,rfl⟩
    · cases h
  | _=>simp [PTy.dec] at h
theorem dec_map {K V:DTy} {a:AVal} {x:(PTy.map K V).El} {l:List (Nat×Nat)} (h:(PTy.map K V).dec a=some (x,l)):a=.mobj K V x∧l=[]:=by
  cases a with
  | mobj K' V' xs=>
    simp only [PTy.dec] at h
    split at h
    · rename_i hh
      obtain ⟨rfl,rfl⟩:=hh
      simp only [Option.some.injEq,Prod.mk.injEq] at h
      obtain ⟨rfl,rfl⟩:=h
      exact ⟨rfl,rfl⟩
    · cases h
  | _=>simp [PTy.dec] at h
structure ReTok (G:Gh) (dead:List Nat) (G':Gh) (m:Nat) (l:List (Nat×Nat)):Prop where
  imm:G'.imm=G.imm
  addr:G'.addr=G.addr.take m
  own:∀ k t,(k,t)∈l→t ∉ dead∧G'.own k=G.own t
theorem under_rp {G G':Gh} {dead:List Nat} {m:Nat} {l:List (Nat×Nat)} (hr:ReTok G dead G' m l):(a:AVal)→under m a=true→sameA a a=true→(∀ cs,(Rp G dead a).1 cs→(Rp G' [] a).1 cs)∧(∀ vs,(Rp G dead a).2 vs→(Rp G' [] a).2 vs)
  | .nil,_,_=>⟨fun _ h=>h,fun _ h=>h⟩
  | .cons a b,hu,hs=>by
    simp only [under,Bool.and_eq_true] at hu
    simp only [sameA,Bool.and_eq_true] at hs
    have m1:=under_rp hr a hu.1 hs.1
    have m2:=under_rp hr b hu.2 hs.2
    exact ⟨fun cs h=>by
      obtain ⟨c1,c2,rfl,h1,h2⟩:=h
      exact ⟨c1,c2,rfl,m1.1 _ h1,m2.1 _ h2⟩,fun vs h=>by
      obtain ⟨v,l,rfl,⟨cs,hc,hv⟩,hl⟩:=h
      exact ⟨v,l,rfl,⟨cs,m1.1 _ hc,hv⟩,m2.2 _ hl⟩⟩
  | .pnil,_,_=>⟨fun _ h=>h,fun _ h=>h⟩
  | .fnil,_,_=>⟨fun _ h=>h,fun _ h=>h⟩
  | .snil,_,_=>⟨fun _ h=>h,fun _ h=>h⟩
  | .inil,_,_=>⟨fun _ h=>h,fun _ h=>h⟩
  | .bptr b p,hu,_=>⟨fun cs h=>by
      obtain ⟨blk,hb,ho,rfl⟩:=h
      simp only [under,decide_eq_true_eq] at hu
      exact ⟨blk,by rw [hr.addr,List.getElem?_take_of_lt hu]; exact hb,ho,rfl⟩,fun _ h=>h⟩
  | .func fn f c,hu,hs=>by
    simp only [under,Bool.and_eq_true] at hu
    simp only [sameA,Bool.and_eq_true] at hs
    have m1:=under_rp hr f hu.1 hs.1.2
    have m2:=under_rp hr c hu.2 hs.2
    exact ⟨fun cs h=>by
      obtain ⟨fv,cv,rfl,h1,h2⟩:=h
      exact ⟨fv,cv,rfl,m1.2 _ h1,m2.2 _ h2⟩,fun _ h=>h⟩
  | .mnil,_,_=>⟨fun _ h=>h,fun _ h=>h⟩
  | .mref b,hu,_=>⟨fun cs h=>by
      obtain ⟨blk,hb,rfl⟩:=h
      simp only [under,decide_eq_true_eq] at hu
      exact ⟨blk,by rw [hr.addr,List.getElem?_take_of_lt hu]; exact hb,rfl⟩,fun _ h=>h⟩
  | .yref b,hu,_=>⟨fun cs h=>by
      obtain ⟨blk,hb,rfl⟩:=h
      simp only [under,decide_eq_true_eq] at hu
      exact ⟨blk,by rw [hr.addr,List.getElem?_take_of_lt hu]; exact hb,rfl⟩,fun _ h=>h⟩
  | .pan _,_,_=>⟨fun _ h=>h,fun _ h=>h⟩
  | .d ..,_,hs | .own ..,_,hs | .iptr ..,_,hs | .iface ..,_,hs | .tuple ..,_,hs | .any,_,hs | .mobj ..,_,hs | .lobj ..,_,hs=>by simp [sameA] at hs
def PTy.isAny:PTy→Bool
  | .any=>true
  | _=>false
mutual
def PTy.under (m:Nat):PTy→Bool
  | .any=>false
  | .fix a=>Abs.under m a&&sameA a a
  | .cons h t=>h.under m&&t.under m
  | .tup p=>p.under m
  | .lp _ _ ps=>ps.underL m
  | .dat _=>true
  | .own _ _=>true
  | .nil=>true
  | .map _ _=>true
  | .ip _=>true
  | .vec _ _ _=>true
  | .vrow _ _=>true
  | .optp b=>decide (b < m)
  | .siter=>true
  | .fnp _ p q=>p.underL m&&q.underL m
  | .tbox _ p=>p.under m
def PTy.underL (m:Nat):PTy→Bool
  | .cons h t=>(h.isAny||h.under m)&&t.underL m
  | .any=>true
  | .dat _=>true
  | .fix _=>true
  | .own _ _=>true
  | .nil=>true
  | .tup _=>true
  | .map _ _=>true
  | .ip _=>true
  | .lp _ _ _=>true
  | .vec _ _ _=>true
  | .vrow _ _=>true
  | .optp _=>true
  | .siter=>true
  | .fnp _ _ _=>true
  | .tbox _ _=>true
end
theorem underL_of {m:Nat}:{p:PTy}→p.under m=true→p.underL m=true
  | .cons a b,h=>by
    simp only [PTy.under,Bool.and_eq_true] at h
    simp only [PTy.underL,Bool.and_eq_true,Bool.or_eq_true]
    exact ⟨.inr h.1,underL_of h.2⟩
  | .any,h=>by simp [PTy.under] at h
  | .dat _,_ | .fix _,_ | .own _ _,_ | .nil,_ | .tup _,_ | .map _ _,_ | .ip _,_ | .lp _ _ _,_ | .vec _ _ _,_ | .vrow _ _,_ | .optp _,_ | .siter,_ | .fnp _ _ _,_ | .tbox _ _,_=>by simp [PTy.underL]
def PTy.top (m:Nat):PTy→Bool
  | .any=>true
  | p=>p.under m
theorem under_top {m:Nat} {p:PTy} (h:p.under m=true):p.top m=true:=by
  cases p<;>first | rfl | exact h
theorem dec_agg {m:Nat} {p:PTy} {a:AVal} {x:p.El} {l:List (Nat×Nat)} (h:p.dec a=some (x,l)) (hu:p.under m=true):(p.enc x).agg=a.agg:=by
  cases p with
  | any=>simp [PTy.under] at hu
  | fix b=>
    simp only [PTy.dec] at h
    cases hb:sameA b a with
    | false=>simp [hb] at h
    | true=>rw [← sameA_eq hb]; rfl
  | dat T=>
    simp only [PTy.dec] at h
    split at h
    · rename_i y hy
      exact asData_agg hy
    · cases h
  | own k T=>cases a<;>first | rfl | simp [PTy.dec] at h
  | cons p q=>
    cases a with
    | cons a b=>rfl
    | d T w=>cases T<;>first | rfl | simp [PTy.dec] at h
    | _=>simp [PTy.dec] at h
  | nil=>
    cases a with
    | nil=>rfl
    | d T w=>cases T<;>first | rfl | simp [PTy.dec] at h
    | _=>simp [PTy.dec] at h
  | tup p=>cases a<;>first | rfl | simp [PTy.dec] at h
  | map K V=>rw [(dec_map h).1]; rfl
  | ip T=>rw [(dec_ip h).1]; rfl
  | lp g i ps=>obtain ⟨env,rfl,_⟩:=dec_lp h; rfl
  | vec k b T=>obtain ⟨t,rfl,_⟩:=dec_vec h; rfl
  | vrow k T=>obtain ⟨t,rfl,_⟩:=dec_vrow h; rfl
  | optp b=>obtain ⟨rfl | rfl | rfl,_⟩:=dec_optp h<;>rfl
  | siter=>rw [(dec_siter h).1]; rfl
  | fnp f p q=>obtain ⟨a1,b1,l1,l2,rfl,_⟩:=dec_fnp h; rfl
  | tbox t p=>obtain ⟨a',rfl,_⟩:=dec_tbox h; rfl
theorem enc_vrow {p:PTy} {a:AVal} {x:p.El} {l:List (Nat×Nat)} {k:Nat} {T:DTy} {xs:List T.El} (h:p.dec a=some (x,l)) (he:p.enc x=.vrow k T xs):∃ t,a=.vrow t T xs∧(k,t)∈l:=by
  cases p with
  | vrow k' T'=>
    obtain ⟨t,rfl,rfl⟩:=dec_vrow h
    simp only [PTy.enc,AVal.vrow.injEq] at he
    obtain ⟨rfl,rfl,h3⟩:=he
    exact ⟨t,by rw [eq_of_heq h3],List.mem_cons_self⟩
  | fix b=>
    have he:b=.vrow k T xs:=he
    subst he
    simp only [PTy.dec] at h
    cases a<;>simp [sameA] at h
  | _=>simp [PTy.enc] at he
theorem vrow_enc {m:Nat} {p:PTy} {x:p.El} {l:List (Nat×Nat)} {t:Nat} {T:DTy} {xs:List T.El} (h:p.dec (.vrow t T xs)=some (x,l)) (hu:p.under m=true):∃ k,p.enc x=.vrow k T xs∧(k,t)∈l:=by
  cases p with
  | any=>simp [PTy.under] at hu
  | fix b=>cases b<;>simp [PTy.dec,sameA] at h
  | vrow k T'=>
    obtain ⟨t',e1,rfl⟩:=dec_vrow h
    simp only [AVal.vrow.injEq] at e1
    obtain ⟨rfl,rfl,e3⟩:=e1
    exact ⟨k,by rw [eq_of_heq e3]; rfl,List.mem_cons_self⟩
  | _=>simp [PTy.dec,asData] at h
theorem dec_knd {m:Nat} {p:PTy} {a:AVal} {x:p.El} {l:List (Nat×Nat)} (h:p.dec a=some (x,l)) (hu:p.under m=true):(p.enc x).knd=a.knd:=by
  cases p with
  | any=>simp [PTy.under] at hu
  | fix b=>
    simp only [PTy.dec] at h
    cases hb:sameA b a with
    | false=>simp [hb] at h
    | true=>rw [← sameA_eq hb]; rfl
  | dat T=>
    simp only [PTy.dec] at h
    split at h
    · rename_i y hy
      show Knd.cells=a.knd
      cases a<;>first | rfl | simp [asData] at hy
    · cases h
  | own k T=>cases a<;>first | rfl | simp [PTy.dec] at h
  | cons p q=>
    cases a with
    | cons a b=>rfl
    | d T w=>cases T<;>first | rfl | simp [PTy.dec] at h
    | _=>simp [PTy.dec] at h
  | nil=>
    cases a with
    | nil=>rfl
    | d T w=>cases T<;>first | rfl | simp [PTy.dec] at h
    | _=>simp [PTy.dec] at h
  | tup p=>cases a<;>first | rfl | simp [PTy.dec] at h
  | map K V=>rw [(dec_map h).1]; rfl
  | ip T=>rw [(dec_ip h).1]; rfl
  | lp g i ps=>obtain ⟨env,rfl,_⟩:=dec_lp h; rfl
  | vec k b T=>obtain ⟨t,rfl,_⟩:=dec_vec h; rfl
  | vrow k T=>obtain ⟨t,rfl,_⟩:=dec_vrow h; rfl
  | optp b=>obtain ⟨rfl | rfl | rfl,_⟩:=dec_optp h<;>rfl
  | siter=>rw [(dec_siter h).1]; rfl
  | fnp f p q=>obtain ⟨a1,b1,l1,l2,rfl,_⟩:=dec_fnp h; rfl
  | tbox t p=>obtain ⟨a',rfl,_⟩:=dec_tbox h; rfl
mutual
theorem dec_spec {G G':Gh} {dead:List Nat} {m:Nat} {l0:List (Nat×Nat)} (hr:ReTok G dead G' m l0):{p:PTy}→{a:AVal}→{x:p.El}→{l:List (Nat×Nat)}→p.dec a=some (x,l)→p.under m=true→(∀ q∈l,q∈l0)→∀ cs,Rc G dead a cs→Rc G' [] (p.enc x) cs
  | .tup p,a,x,l,h,hu,hl,cs,hc=>by
    cases a with
    | tuple a=>
      simp only [PTy.dec] at h
      cases hb:p.lst with
      | false=>rw [hb] at h; cases h
      | true=>
        simp only [hb,cond_true] at h
        obtain ⟨vs,rfl,hvs⟩:=hc
        exact ⟨vs,rfl,decL_spec hr h hb (underL_of hu) hl vs hvs⟩
    | _=>simp [PTy.dec] at h
  | .any,a,x,l,h,hu,_,cs,hc=>by simp [PTy.under] at hu
  | .fix b,a,x,l,h,hu,_,cs,hc=>by
    simp only [PTy.dec] at h
    cases hb:sameA b a with
    | false=>simp [hb] at h
    | true=>
      have:=sameA_eq hb
      subst this
      simp only [PTy.under,Bool.and_eq_true] at hu
      exact (under_rp hr b hu.1 hu.2).1 cs hc
  | .dat T,a,x,l,h,_,_,cs,hc=>by
    simp only [PTy.dec] at h
    split at h
    · rename_i y hy
      simp only [Option.some.injEq,Prod.mk.injEq] at h
      obtain ⟨rfl,_⟩:=h
      have:=asData_spec hy cs hc
      show RD G'.imm T y cs
      rw [hr.imm]
      exact this
    · cases h
  | .own k T,a,x,l,h,_,hl,cs,hc=>by
    cases a with
    | own t T' xs=>
      simp only [PTy.dec] at h
      split at h
      · rename_i hT
        subst hT
        simp only [Option.some.injEq,Prod.mk.injEq] at h
        obtain ⟨rfl,rfl⟩:=h
        obtain ⟨hrd,A,cap,rfl,hor⟩:=hc
        obtain ⟨hnd,heq⟩:=hr.own k t (hl _ (by simp))
        refine ⟨by rw [hr.imm]; exact hrd,A,cap,rfl,.inr ?_⟩
        rcases hor with hor | hor | ⟨b,off,row,h1,h2,h3,h4⟩
        · exact absurd hor hnd
        · exact .inl hor
        · exact .inr ⟨b,off,row,h1,by rw [heq]; exact h2,by rw [hr.imm]; exact h3,h4⟩
      · cases h
    | snil=>
      simp only [PTy.dec,Option.some.injEq,Prod.mk.injEq] at h
      obtain ⟨rfl,_⟩:=h
      have hc:cs=[.slice none 0 0]:=hc
      subst hc
      exact ⟨⟨none,0,rfl,Nat.le_refl _,fun h=>absurd rfl h⟩,none,0,rfl,.inr (.inl ⟨rfl,rfl⟩)⟩
    | _=>simp [PTy.dec] at h
  | .cons p q,a,x,l,h,hu,hl,cs,hc=>by
    simp only [PTy.under,Bool.and_eq_true] at hu
    cases a with
    | cons a b=>
      simp only [PTy.dec] at h
      split at h
      · rename_i y l1 z l2 h1 h2
        simp only [Option.some.injEq,Prod.mk.injEq] at h
        obtain ⟨rfl,rfl⟩:=h
        obtain ⟨c1,c2,rfl,k1,k2⟩:=hc
        exact ⟨c1,c2,rfl,dec_spec hr h1 hu.1 (fun q hq=>hl q (by simp [hq])) c1 k1,dec_spec hr h2 hu.2 (fun q hq=>hl q (by simp [hq])) c2 k2⟩
      · cases h
    | d T w=>
      cases T with
      | cons T U=>
        simp only [PTy.dec] at h
        split at h
        · rename_i y l1 z l2 h1 h2
          simp only [Option.some.injEq,Prod.mk.injEq] at h
          obtain ⟨rfl,rfl⟩:=h
          obtain ⟨c1,c2,rfl,k1,k2⟩:=hc
          exact ⟨c1,c2,rfl,dec_spec hr h1 hu.1 (fun q hq=>hl q (by simp [hq])) c1 k1,dec_spec hr h2 hu.2 (fun q hq=>hl q (by simp [hq])) c2 k2⟩
        · cases h
      | _=>simp [PTy.dec] at h
    | _=>simp [PTy.dec] at h
  | .map K V,a,x,l,h,_,_,cs,hc=>by
    obtain ⟨rfl,_⟩:=dec_map h
    show RM G'.imm K V x cs
    rw [hr.imm]
    exact hc
  | .ip T,a,x,l,h,_,_,cs,hc=>by
    obtain ⟨rfl,_⟩:=dec_ip h
    obtain ⟨b,off,row,e,h1,h2,h3⟩:=hc
    exact ⟨b,off,row,e,by rw [hr.imm]; exact h1,h2,by rw [hr.imm]; exact h3⟩
  | .nil,a,x,l,h,_,_,cs,hc=>by
    cases a with
    | nil=>exact hc
    | d T w=>
      cases T with
      | nil=>exact hc
      | _=>simp [PTy.dec] at h
    | _=>simp [PTy.dec] at h
  | .lp g i ps,a,x,l,h,hu,hl,cs,hc=>by
    obtain ⟨env,rfl,hd,hls⟩:=dec_lp h
    exact decL_spec hr hd hls (by simpa [PTy.under] using hu) hl cs hc
  | .vec k b T,a,x,l,h,_,hl,cs,hc=>by
    obtain ⟨t,rfl,rfl⟩:=dec_vec h
    obtain ⟨A,cap,rfl,hc⟩:=hc
    obtain ⟨e1,e2⟩:=hr.own k t (hl _ List.mem_cons_self)
    refine ⟨A,cap,rfl,?_⟩
    rcases hc with hc | ⟨h1,h2⟩
    · exact absurd hc e1
    · exact .inr ⟨e2.trans h1,h2⟩
  | .vrow k T,a,x,l,h,_,_,cs,hc=>by
    obtain ⟨t,rfl,rfl⟩:=dec_vrow h
    exact hc
  | .optp b,a,x,l,h,hu,_,cs,hc=>by
    simp only [PTy.under,decide_eq_true_eq] at hu
    have key:∀ blk,G.addr[b]?=some blk→G'.addr[b]?=some blk:=fun blk hb=>by rw [hr.addr,List.getElem?_take_of_lt hu]; exact hb
    obtain ⟨rfl | rfl | rfl,_⟩:=dec_optp h
    · exact .inl hc
    · obtain ⟨blk,hb,_,rfl⟩:=hc
      exact .inr ⟨blk,key blk hb,rfl⟩
    · rcases hc with hc | ⟨blk,hb,rfl⟩
      · exact .inl hc
      · exact .inr ⟨blk,key blk hb,rfl⟩
  | .siter,a,x,l,h,_,_,cs,hc=>by
    obtain ⟨rfl,_⟩:=dec_siter h
    exact hc
  | .fnp f p q,a,x,l,h,hu,hl,cs,hc=>by
    obtain ⟨a1,b1,l1,l2,rfl,h1,h2,rfl,hp,hq⟩:=dec_fnp h
    simp only [PTy.under,Bool.and_eq_true] at hu
    obtain ⟨fv,cv,rfl,k1,k2⟩:=hc
    exact ⟨fv,cv,rfl,decL_spec hr h1 hp hu.1 (fun q hq=>hl q (by simp [hq])) fv k1,decL_spec hr h2 hq hu.2 (fun q hq=>hl q (by simp [hq])) cv k2⟩
  | .tbox t p,a,x,l,h,hu,hl,cs,hc=>by
    obtain ⟨a',rfl,hd⟩:=dec_tbox h
    exact dec_spec (p:=p) hr hd (by simpa [PTy.under] using hu) hl cs hc
theorem decL_spec {G G':Gh} {dead:List Nat} {m:Nat} {l0:List (Nat×Nat)} (hr:ReTok G dead G' m l0):{p:PTy}→{a:AVal}→{x:p.El}→{l:List (Nat×Nat)}→p.dec a=some (x,l)→p.lst=true→p.underL m=true→(∀ q∈l,q∈l0)→∀ vs,Rl G dead a vs→Rl G' [] (p.enc x) vs
  | .cons p q,a,x,l,h,hls,hu,hl,vs,hc=>by
    simp only [PTy.underL,Bool.and_eq_true,Bool.or_eq_true] at hu
    cases a with
    | cons a b=>
      simp only [PTy.dec] at h
      split at h
      · rename_i y l1 z l2 h1 h2
        simp only [Option.some.injEq,Prod.mk.injEq] at h
        obtain ⟨rfl,rfl⟩:=h
        obtain ⟨v,us,rfl,⟨cs,k1,k2⟩,k3⟩:=hc
        have hhead:p.under m=true→∃ cs,Rc G' [] (p.enc y) cs∧(((p.enc y).agg=true∧v=.agg cs.toArray)∨((p.enc y).agg=false∧cs=[v])):=fun hu1=>
          ⟨cs,dec_spec hr h1 hu1 (fun q hq=>hl q (by simp [hq])) cs k1,by rw [dec_agg h1 hu1]; exact k2⟩
        have htail:=decL_spec hr h2 hls hu.2 (fun q hq=>hl q (by simp [hq])) us k3
        refine ⟨v,us,rfl,?_,htail⟩
        rcases hu.1 with hu1 | hu1
        · cases p with
          | any=>exact any_v v
          | _=>simp [PTy.isAny] at hu1
        · exact hhead hu1
      · cases h
    | d T w=>exact hc.elim
    | _=>simp [PTy.dec] at h
  | .nil,a,x,l,h,_,_,_,vs,hc=>by
    cases a with
    | nil=>exact hc
    | d T w=>exact hc.elim
    | _=>simp [PTy.dec] at h
  | .any,_,_,_,_,h,_,_,_,_ | .fix _,_,_,_,_,h,_,_,_,_ | .dat _,_,_,_,_,h,_,_,_,_ | .own _ _,_,_,_,_,h,_,_,_,_ | .tup _,_,_,_,_,h,_,_,_,_ | .map _ _,_,_,_,_,h,_,_,_,_ | .ip _,_,_,_,_,h,_,_,_,_ | .lp _ _ _,_,_,_,_,h,_,_,_,_ | .vec _ _ _,_,_,_,_,h,_,_,_,_ | .vrow _ _,_,_,_,_,h,_,_,_,_ | .optp _,_,_,_,_,h,_,_,_,_ | .siter,_,_,_,_,h,_,_,_,_ | .fnp _ _ _,_,_,_,_,h,_,_,_,_ | .tbox _ _,_,_,_,_,h,_,_,_,_=>by simp [PTy.lst] at h
end
theorem dec_v {G G':Gh} {dead:List Nat} {m:Nat} {l0:List (Nat×Nat)} (hr:ReTok G dead G' m l0) {p:PTy} {a:AVal} {x:p.El} {l:List (Nat×Nat)} (h:p.dec a=some (x,l)) (hu:p.top m=true) (hl:∀ q∈l,q∈l0) {v:Value} (hv:Rv G dead a v):Rv G' [] (p.enc x) v:=by
  have main:p.under m=true→Rv G' [] (p.enc x) v:=fun hu=>by
    obtain ⟨cs,hc,hh⟩:=hv
    refine ⟨cs,dec_spec hr h hu hl cs hc,?_⟩
    rw [dec_agg h hu]
    exact hh
  cases p with
  | any=>exact any_v v
  | _=>exact main hu
@[reducible] def Els:List PTy→Type
  | []=>Unit
  | .any::ps=>Els ps
  | .fix _::ps=>Els ps
  | .nil::ps=>Els ps
  | .dat T::ps=>T.El×Els ps
  | .own _ T::ps=>List T.El×Els ps
  | .cons h t::ps=>(h.El×t.El)×Els ps
  | .tup p::ps=>p.El×Els ps
  | .map K V::ps=>List (K.El×V.El)×Els ps
  | .ip T::ps=>T.El×Els ps
  | .lp _ _ q::ps=>(Nat×q.El)×Els ps
  | .vec _ _ _::ps=>Nat×Els ps
  | .vrow _ T::ps=>List T.El×Els ps
  | .optp _::ps=>Els ps
  | .siter::ps=>(ByteArray×Nat)×Els ps
  | .fnp _ p q::ps=>(p.El×q.El)×Els ps
  | .tbox _ p::ps=>p.El×Els ps
def encs:(ps:List PTy)→Els ps→List AVal
  | [],_=>[]
  | .any::ps,x=>.any::encs ps x
  | .fix a::ps,x=>a::encs ps x
  | .nil::ps,x=>.nil::encs ps x
  | .dat T::ps,x=>.d T x.1::encs ps x.2
  | .own k T::ps,x=>.own k T x.1::encs ps x.2
  | .cons h t::ps,x=>.cons (h.enc x.1.1) (t.enc x.1.2)::encs ps x.2
  | .tup p::ps,x=>.tuple (p.enc x.1)::encs ps x.2
  | .map K V::ps,x=>.mobj K V x.1::encs ps x.2
  | .ip T::ps,x=>.iptr T x.1::encs ps x.2
  | .lp g i q::ps,x=>.lobj g i x.1.1 (q.enc x.1.2)::encs ps x.2
  | .vec k b T::ps,x=>.vec k b T x.1::encs ps x.2
  | .vrow k T::ps,x=>.vrow k T x.1::encs ps x.2
  | .optp b::ps,x=>.optp b::encs ps x
  | .siter::ps,x=>.siter x.1.1 x.1.2::encs ps x.2
  | .fnp f p q::ps,x=>.func f (p.enc x.1.1) (q.enc x.1.2)::encs ps x.2
  | .tbox t p::ps,x=>.tbox t (p.enc x.1)::encs ps x.2
def decs:(ps:List PTy)→List AVal→Option (Els ps×List (Nat×Nat))
  | [],_=>some ((),[])
  | _::_,[]=>none
  | .any::ps,a::az=>match PTy.any.dec a,decs ps az with
    | some (_,l),some (y,m)=>some (y,l++m)
    | _,_=>none
  | .fix b::ps,a::az=>match (PTy.fix b).dec a,decs ps az with
    | some (_,l),some (y,m)=>some (y,l++m)
    | _,_=>none
  | .nil::ps,a::az=>match PTy.nil.dec a,decs ps az with
    | some (_,l),some (y,m)=>some (y,l++m)
    | _,_=>none
  | .dat T::ps,a::az=>match (PTy.dat T).dec a,decs ps az with
    | some (x,l),some (y,m)=>some ((x,y),l++m)
    | _,_=>none
  | .own k T::ps,a::az=>match (PTy.own k T).dec a,decs ps az with
    | some (x,l),some (y,m)=>some ((x,y),l++m)
    | _,_=>none
  | .cons h t::ps,a::az=>match (PTy.cons h t).dec a,decs ps az with
    | some (x,l),some (y,m)=>some ((x,y),l++m)
    | _,_=>none
  | .tup p::ps,a::az=>match (PTy.tup p).dec a,decs ps az with
    | some (x,l),some (y,m)=>some ((x,y),l++m)
    | _,_=>none
  | .map K V::ps,a::az=>match (PTy.map K V).dec a,decs ps az with
    | some (x,l),some (y,m)=>some ((x,y),l++m)
    | _,_=>none
  | .ip T::ps,a::az=>match (PTy.ip T).dec a,decs ps az with
    | some (x,l),some (y,m)=>some ((x,y),l++m)
    | _,_=>none
  | .lp g i q::ps,a::az=>match (PTy.lp g i q).dec a,decs ps az with
    | some (x,l),some (y,m)=>some ((x,y),l++m)
    | _,_=>none
  | .vec k b T::ps,a::az=>match (PTy.vec k b T).dec a,decs ps az with
    | some (x,l),some (y,m)=>some ((x,y),l++m)
    | _,_=>none
  | .vrow k T::ps,a::az=>match (PTy.vrow k T).dec a,decs ps az with
    | some (x,l),some (y,m)=>some ((x,y),l++m)
    | _,_=>none
  | .optp b::ps,a::az=>match (PTy.optp b).dec a,decs ps az with
    | some (_,l),some (y,m)=>some (y,l++m)
    | _,_=>none
  | .siter::ps,a::az=>match PTy.siter.dec a,decs ps az with
    | some (x,l),some (y,m)=>some ((x,y),l++m)
    | _,_=>none
  | .fnp f p q::ps,a::az=>match (PTy.fnp f p q).dec a,decs ps az with
    | some (x,l),some (y,m)=>some ((x,y),l++m)
    | _,_=>none
  | .tbox t p::ps,a::az=>match (PTy.tbox t p).dec a,decs ps az with
    | some (x,l),some (y,m)=>some ((x,y),l++m)
    | _,_=>none
theorem decs_cons {p:PTy} {ps:List PTy} {a:AVal} {az:List AVal} {x:Els (p::ps)} {l:List (Nat×Nat)} (h:decs (p::ps) (a::az)=some (x,l)) :
    ∃ (y:p.El) (l1:List (Nat×Nat)) (z:Els ps) (l2:List (Nat×Nat)),p.dec a=some (y,l1)∧decs ps az=some (z,l2)∧l=l1++l2∧encs (p::ps) x=p.enc y::encs ps z:=by
  cases p
  all_goals
    simp only [decs] at h
    split at h
    · rename_i y l1 z l2 h1 h2
      simp only [Option.some.injEq,Prod.mk.injEq] at h
      obtain ⟨rfl,rfl⟩:=h
      exact ⟨_,l1,z,l2,h1,h2,rfl,rfl⟩
    · cases h
theorem decs_len:{ps:List PTy}→{az:List AVal}→{x:Els ps}→{l:List (Nat×Nat)}→decs ps az=some (x,l)→ps.length≤az.length
  | [],_,_,_,_=>by simp
  | p::ps,a::az,x,l,h=>by
    obtain ⟨y,l1,z,l2,h1,h2,_⟩:=decs_cons h
    have:=decs_len h2
    simp only [List.length_cons]
    omega
  | p::ps,[],x,l,h=>by simp [decs] at h
theorem encs_len:{ps:List PTy}→{x:Els ps}→(encs ps x).length=ps.length
  | [],_=>rfl
  | p::ps,x=>by cases p<;>simp [encs,encs_len (ps:=ps)]
theorem decs_get:{ps:List PTy}→{az:List AVal}→{x:Els ps}→{l:List (Nat×Nat)}→decs ps az=some (x,l)→∀ i,i < ps.length→∃ (p:PTy) (a:AVal) (y:p.El) (m:List (Nat×Nat)),ps[i]?=some p∧az[i]?=some a∧p.dec a=some (y,m)∧(encs ps x)[i]?=some (p.enc y)∧(∀ q∈m,q∈l)
  | p::ps,a::az,x,l,h,i,hi=>by
    obtain ⟨y,l1,z,l2,h1,h2,rfl,he⟩:=decs_cons h
    cases i with
    | zero=>exact ⟨p,a,y,l1,rfl,rfl,h1,by rw [he]; rfl,fun q hq=>by simp [hq]⟩
    | succ i=>
      obtain ⟨p',a',y',m,g1,g2,g3,g4,g5⟩:=decs_get h2 i (by simpa using hi)
      exact ⟨p',a',y',m,by simpa using g1,by simpa using g2,g3,by rw [he]; simpa using g4,fun q hq=>by simp [g5 q hq]⟩
  | [],_,_,_,_,i,hi=>by simp at hi
  | p::ps,[],x,l,h,_,_=>by simp [decs] at h
def okToks (dead:List Nat):List (Nat×Nat)→Bool
  | []=>true
  | (k,t)::l=>!dead.contains t&&(l.all fun q=>(q.1==k&&q.2==t)||(q.1 != k&&q.2 != t))&&okToks dead l
theorem okToks_spec {dead:List Nat}:{l:List (Nat×Nat)}→okToks dead l=true→(∀ k t,(k,t)∈l→t ∉ dead)∧(∀ k t t',(k,t)∈l→(k,t')∈l→t=t')∧(∀ k k' t,(k,t)∈l→(k',t)∈l→k=k')
  | [],_=>⟨fun _ _ h=>by simp at h,fun _ _ _ h=>by simp at h,fun _ _ _ h=>by simp at h⟩
  | (k,t)::l,h=>by
    simp only [okToks,Bool.and_eq_true,Bool.not_eq_true'] at h
    obtain ⟨⟨h1,h2⟩,h3⟩:=h
    obtain ⟨g1,g2,g3⟩:=okToks_spec h3
    have ne:∀ q∈l,(q.1=k∧q.2=t)∨(q.1≠k∧q.2≠t):=fun q hq=>by
      have:=List.all_eq_true.1 h2 q hq
      simpa using this
    refine ⟨fun k' t' hm=>?_,fun k' t1 t2 hm1 hm2=>?_,fun k1 k2 t' hm1 hm2=>?_⟩
    · rcases List.mem_cons.1 hm with hm | hm
      · simp only [Prod.mk.injEq] at hm
        obtain ⟨rfl,rfl⟩:=hm
        intro hd
        have:=List.contains_iff_mem.2 hd
        rw [h1] at this; cases this
      · exact g1 _ _ hm
    · rcases List.mem_cons.1 hm1 with hm1 | hm1<;>rcases List.mem_cons.1 hm2 with hm2 | hm2
      · simp only [Prod.mk.injEq] at hm1 hm2; rw [hm1.2,hm2.2]
      · simp only [Prod.mk.injEq] at hm1
        rcases ne _ hm2 with e | e
        · exact hm1.2.trans e.2.symm
        · exact absurd hm1.1 e.1
      · simp only [Prod.mk.injEq] at hm2
        rcases ne _ hm1 with e | e
        · exact e.2.trans hm2.2.symm
        · exact absurd hm2.1 e.1
      · exact g2 _ _ _ hm1 hm2
    · rcases List.mem_cons.1 hm1 with hm1 | hm1<;>rcases List.mem_cons.1 hm2 with hm2 | hm2
      · simp only [Prod.mk.injEq] at hm1 hm2; rw [hm1.1,hm2.1]
      · simp only [Prod.mk.injEq] at hm1
        rcases ne _ hm2 with e | e
        · exact hm1.1.trans e.1.symm
        · exact absurd hm1.2 e.2
      · simp only [Prod.mk.injEq] at hm2
        rcases ne _ hm1 with e | e
        · exact e.1.trans hm2.1.symm
        · exact absurd hm2.2 e.2
      · exact g3 _ _ _ hm1 hm2
end Go.Proofs.YtkeipcalbbmncaaGreat.Abs
set_option linter.unusedVariables false
set_option linter.unusedSimpArgs false
namespace Go.Proofs.YtkeipcalbbmncaaGreat.Abs
structure SPat where
  env:List PTy
  box:List PTy
  nt:Nat
@[reducible] def SPat.El (S:SPat):Type:=Els S.env×Els S.box
def SPat.encE (S:SPat) (x:S.El):List AVal:=encs S.env x.1
def SPat.encB (S:SPat) (x:S.El):Bx:=⟨encs S.box x.2,[],S.nt⟩
def SPat.ok (S:SPat):Bool:=S.env.all (·.top S.box.length)&&S.box.all (·.under S.box.length)
def SPat.dec (S:SPat) (env:List AVal) (B:Bx):Option S.El:=
  match decs S.env env,decs S.box B.box with
  | some (x,l),some (y,m)=>bif okToks B.dead (l++m)&&env.length==S.env.length&&(l++m).all (fun q=>decide (q.1 < S.nt)) then some (x,y) else none
  | _,_=>none
def SPat.toks (S:SPat) (env:List AVal) (B:Bx):List Nat:=
  match decs S.env env,decs S.box B.box with
  | some (_,l),some (_,m)=>(l++m).map (·.2)
  | _,_=>[]
theorem find_tok {l:List (Nat×Nat)} {k t:Nat} (hu:∀ k t t',(k,t)∈l→(k,t')∈l→t=t') (h:(k,t)∈l):(l.find? fun q=>q.1==k)=some (k,t):=by
  cases hf:l.find? fun q=>q.1==k with
  | none=>
    have:=List.find?_eq_none.1 hf (k,t) h
    simp at this
  | some q=>
    have h1:=List.find?_some hf
    have h2:=List.mem_of_find?_eq_some hf
    obtain ⟨k',t'⟩:=q
    simp only [beq_iff_eq] at h1
    subst h1
    rw [hu _ _ _ h2 h]
theorem norm_sound' {S:SPat} {n:Nat} {env:List AVal} {B:Bx} {x:S.El} {G:Gh} {a:Act} {w:World} (hS:S.ok=true) (hn:n≤S.box.length) (h:S.dec env B=some x) (hok:Ok G B env a w) :
    ∃ G',Goes n false B.dead G a w G' (S.encB x) (S.encE x) a w∧G'.imm=G.imm∧G'.addr=G.addr.take S.box.length∧S.box.length≤G.addr.length∧(∀ k b c,G'.own k=some (b,c)→∃ t,t∈S.toks env B∧G.own t=some (b,c)):=by
  unfold SPat.dec at h
  split at h
  · rename_i x1 l y1 m h1 h2
    cases hb:okToks B.dead (l++m)&&env.length==S.env.length&&(l++m).all (fun q=>decide (q.1 < S.nt)) with
    | false=>rw [hb] at h; cases h
    | true=>
      simp only [hb,cond_true,Option.some.injEq] at h
      subst h
      simp only [Bool.and_eq_true,beq_iff_eq] at hb
      obtain ⟨⟨ht,hlen⟩,hnt⟩:=hb
      obtain ⟨t1,t2,t3⟩:=okToks_spec ht
      simp only [SPat.ok,Bool.and_eq_true] at hS
      have hbl:=decs_len h2
      have haddr:S.box.length≤G.addr.length:=by rw [hok.w.len]; exact hbl
      let G':Gh:={ imm:=G.imm,own:=fun k=>((l++m).find? fun q=>q.1==k).bind fun q=>G.own q.2,addr:=G.addr.take S.box.length }
      have hr:ReTok G B.dead G' S.box.length (l++m):=⟨rfl,rfl,fun k t hk=>⟨t1 k t hk,by
        show ((l++m).find? fun q=>q.1==k).bind (fun q=>G.own q.2)=_
        rw [find_tok t2 hk]; rfl⟩⟩
      have hown:∀ k b c,G'.own k=some (b,c)→∃ t,(k,t)∈l++m∧G.own t=some (b,c):=fun k b c hk=>by
        have hk':((l++m).find? fun q=>q.1==k).bind (fun q=>G.own q.2)=some (b,c):=hk
        cases hf:(l++m).find? fun q=>q.1==k with
        | none=>rw [hf] at hk'; cases hk'
        | some q=>
          rw [hf] at hk'
          have e1:=List.find?_some hf
          have e2:=List.mem_of_find?_eq_some hf
          simp only [beq_iff_eq] at e1
          exact ⟨q.2,by rw [← e1]; exact e2,hk'⟩
      have htoks:S.toks env B=(l++m).map (·.2):=by unfold SPat.toks; rw [h1,h2]
      refine ⟨G',?_,rfl,rfl,haddr,fun k b c hk=>by
        obtain ⟨t,hm,ho⟩:=hown k b c hk
        exact ⟨t,by rw [htoks]; exact List.mem_map.2 ⟨(k,t),hm,rfl⟩,ho⟩⟩
      have hext:Ext G w G' w:=by
        refine ⟨rfl,rfl,rfl,Nat.le_refl _,fun _ _ _ _=>rfl,ImmLe.refl _,fun _ _ _=>rfl,fun b hb=>.inl (List.mem_of_mem_take hb),fun k b c hk=>?_⟩
        obtain ⟨t,hm,ho⟩:=hown k b c hk
        exact .inl ⟨t,ho⟩
      refine ⟨⟨⟨?_,fun t=>?_⟩,⟨?_,?_,fun i b c hb hc=>?_,hok.w.imm,fun b hb=>hok.w.disj b (List.mem_of_mem_take hb),fun k b c hk=>?_,fun k k' b c c' hk hk'=>?_,hok.w.tab.ext hext,?_⟩,hok.marks.ext hext⟩,hext,⟨fun _ hd=>.inl hd,rfl⟩,fun i b hi hb=>?_,fun hf=>by cases hf⟩
      · rw [hok.env.len,hlen]; simp [SPat.encE,encs_len]
      · by_cases hlt:t < S.env.length
        · obtain ⟨p,a',y,q,g1,g2,g3,g4,g5⟩:=decs_get h1 t hlt
          have hv:=hok.env.val t
          rw [List.getD_eq_getElem?_getD,g2] at hv
          have hu:p.top S.box.length=true:=List.all_eq_true.1 hS.1 p (List.mem_of_getElem? g1)
          have:=dec_v hr g3 hu (fun z hz=>List.mem_append_left _ (g5 z hz)) hv
          show Rv G' [] ((encs S.env x1).getD t .any) _
          rw [List.getD_eq_getElem?_getD,g4]
          exact this
        · have:(S.encE (x1,y1)).getD t .any=.any:=by
            rw [List.getD_eq_getElem?_getD,List.getElem?_eq_none (by simp [SPat.encE,encs_len]; omega)]; rfl
          rw [this]
          exact any_v _
      · simp [G',SPat.encB,encs_len]; omega
      · exact hok.w.nodup.sublist (List.take_sublist _ _)
      · have hi:i < S.box.length:=by
          have:=(List.getElem?_eq_some_iff.1 hb).1
          simp [G'] at this; omega
        have hb':G.addr[i]?=some b:=by
          have:(G.addr.take S.box.length)[i]?=some b:=hb
          rwa [List.getElem?_take_of_lt hi] at this
        obtain ⟨p,a',y,q,g1,g2,g3,g4,g5⟩:=decs_get h2 i hi
        obtain ⟨o,cs,k1,k0,k2⟩:=hok.w.boxes i b a' hb' g2
        have hu:p.under S.box.length=true:=List.all_eq_true.1 hS.2 p (List.mem_of_getElem? g1)
        have hc':(encs S.box y1)[i]?=some c:=hc
        rw [g4] at hc'
        cases hc'
        exact ⟨o,cs,k1,by rw [dec_knd g3 hu]; exact k0,dec_spec hr g3 hu (fun z hz=>List.mem_append_right _ (g5 z hz)) _ k2⟩
      · obtain ⟨t,hm,ho⟩:=hown k b c hk
        obtain ⟨_,k2,k3⟩:=hok.w.own t b c ho
        refine ⟨by have:=List.all_eq_true.1 hnt (k,t) hm; simpa [SPat.encB] using this,k2.of rfl fun i d e1 e2=>?_,k3⟩
        have hi:i < S.box.length:=by
          have:=(List.getElem?_eq_some_iff.1 e1).1
          simp [G'] at this; omega
        have e1':G.addr[i]?=some b:=by
          have:(G.addr.take S.box.length)[i]?=some b:=e1
          rwa [List.getElem?_take_of_lt hi] at this
        obtain ⟨p,a',y,q,g1,g2,g3,g4,g5⟩:=decs_get h2 i hi
        have hu:p.under S.box.length=true:=List.all_eq_true.1 hS.2 p (List.mem_of_getElem? g1)
        have e2':(encs S.box y1)[i]?=some d:=e2
        rw [g4] at e2'
        cases e2'
        exact .inr ⟨i,a',e1',g2,fun h=>by
          obtain ⟨T,xs,rfl⟩:=isT_form h
          obtain ⟨k',e3,e4⟩:=vrow_enc g3 hu
          have:=t3 k' k t (List.mem_append_right _ (g5 _ e4)) hm
          subst this
          rw [e3]
          exact isT_self _ _ _⟩
      · obtain ⟨t,hm,ho⟩:=hown k b c hk
        obtain ⟨t',hm',ho'⟩:=hown k' b c' hk'
        have:=hok.w.inj t t' b c c' ho ho'
        subst this
        exact t3 k k' t hm hm'
      · intro i t T xs hx
        have hi:i < S.box.length:=by
          have:=(List.getElem?_eq_some_iff.1 hx).1
          simpa [SPat.encB,encs_len] using this
        obtain ⟨p,a',y,q,g1,g2,g3,g4,g5⟩:=decs_get h2 i hi
        have hx':(encs S.box y1)[i]?=some (.vrow t T xs):=hx
        rw [g4] at hx'
        obtain ⟨t0,rfl,hk⟩:=enc_vrow g3 (Option.some.inj hx')
        obtain ⟨v1,v2,v3⟩:=hok.w.vec i t0 T xs g2
        have hkm:=List.mem_append_right l (g5 _ hk)
        refine ⟨List.not_mem_nil,fun j T' ys hj=>?_,?_⟩
        · have hjl:j < S.box.length:=by
            have:=(List.getElem?_eq_some_iff.1 hj).1
            simpa [SPat.encB,encs_len] using this
          obtain ⟨p2,a2,y2,q2,f1,f2,f3,f4,f5⟩:=decs_get h2 j hjl
          have hj':(encs S.box y1)[j]?=some (.vrow t T' ys):=hj
          rw [f4] at hj'
          obtain ⟨t2',rfl,hk2⟩:=enc_vrow f3 (Option.some.inj hj')
          have:=t2 t t2' t0 (List.mem_append_right l (f5 _ hk2)) hkm
          subst this
          exact v2 j T' ys f2
        · obtain ⟨blk,n,cells,e,w1,w2⟩:=v3
          refine ⟨blk,n,cells,e,?_,w2⟩
          exact (hr.own t t0 hkm).2.trans w1
      · show (G.addr.take S.box.length)[i]?=some b
        rw [List.getElem?_take_of_lt (by omega)]
        exact hb
  · cases h
theorem norm_sound {S:SPat} {n:Nat} {env:List AVal} {B:Bx} {x:S.El} {G:Gh} {a:Act} {w:World} (hS:S.ok=true) (hn:n≤S.box.length) (h:S.dec env B=some x) (hok:Ok G B env a w) :
    ∃ G',Goes n false B.dead G a w G' (S.encB x) (S.encE x) a w:=by
  obtain ⟨G',h1,_⟩:=norm_sound' hS hn h hok
  exact ⟨G',h1⟩
def sameX:AExit→AExit→Bool
  | .normal,.normal=>true
  | .exit i,.exit j=>i==j
  | .ret,.ret=>true
  | .pan t,.pan u=>t==u
  | _,_=>false
theorem sameX_eq {a b:AExit} (h:sameX a b=true):a=b:=by
  cases a<;>cases b<;>simp [sameX] at h
  · rfl
  · rw [h]
  · rfl
  · rw [h]
def codeX:List AExit→AExit→Option Nat
  | _,.normal=>some 0
  | [],_=>none
  | x::xs,e=>bif sameX x e then some 1 else match codeX xs e with
    | some n=>some (n+1)
    | none=>none
def nthX (xs:List AExit):Nat→AExit
  | 0=>.normal
  | n+1=>xs.getD n .normal
theorem codeX_spec:{xs:List AExit}→{e:AExit}→{n:Nat}→codeX xs e=some n→(n=0∧e=.normal)∨(∃ m,n=m+1∧xs[m]?=some e)
  | _,.normal,n,h=>by
    simp only [codeX,Option.some.injEq] at h
    exact .inl ⟨h.symm,rfl⟩
  | [],.exit _,n,h | [],.ret,n,h | [],.pan _,n,h=>by simp [codeX] at h
  | x::xs,.exit i,n,h=>by
    simp only [codeX] at h
    cases hb:sameX x (.exit i) with
    | true=>
      simp only [hb,cond_true,Option.some.injEq] at h
      exact .inr ⟨0,h.symm,by rw [sameX_eq hb]; rfl⟩
    | false=>
      simp only [hb,cond_false] at h
      split at h
      · rename_i m hm
        simp only [Option.some.injEq] at h
        rcases codeX_spec hm with ⟨_,h2⟩ | ⟨q,h1,h2⟩
        · cases h2
        · exact .inr ⟨q+1,by omega,by simpa using h2⟩
      · cases h
  | x::xs,.ret,n,h=>by
    simp only [codeX] at h
    cases hb:sameX x .ret with
    | true=>
      simp only [hb,cond_true,Option.some.injEq] at h
      exact .inr ⟨0,h.symm,by rw [sameX_eq hb]; rfl⟩
    | false=>
      simp only [hb,cond_false] at h
      split at h
      · rename_i m hm
        simp only [Option.some.injEq] at h
        rcases codeX_spec hm with ⟨_,h2⟩ | ⟨q,h1,h2⟩
        · cases h2
        · exact .inr ⟨q+1,by omega,by simpa using h2⟩
      · cases h
  | x::xs,.pan t,n,h=>by
    simp only [codeX] at h
    cases hb:sameX x (.pan t) with
    | true=>
      simp only [hb,cond_true,Option.some.injEq] at h
      exact .inr ⟨0,h.symm,by rw [sameX_eq hb]; rfl⟩
    | false=>
      simp only [hb,cond_false] at h
      split at h
      · rename_i m hm
        simp only [Option.some.injEq] at h
        rcases codeX_spec hm with ⟨_,h2⟩ | ⟨q,h1,h2⟩
        · cases h2
        · exact .inr ⟨q+1,by omega,by simpa using h2⟩
      · cases h
def kst (S:SPat) (xs:List AExit) (e:AExit) (env:List AVal) (B:Bx):Option (Nat×S.El):=
  match codeX xs e with
  | some n=>match S.dec env B with
    | some s=>some (n,s)
    | none=>none
  | none=>none
def iter {α:Type} (step:α→Option (Nat×α)):Nat→α→Option (Nat×α)
  | 0,_=>none
  | f+1,x=>(step x).bind fun r=>match r.1 with
    | 0=>iter step f r.2
    | n+1=>some (n,r.2)
theorem iter_rounds {n:Nat} {rd:Bool} {P:Program} {C:CalT} {Ls:List LoopT} {c:Code} {S:SPat} {xs:List AExit} {step:S.El→Option (Nat×S.El)} (hm:P.follows .mixedOrders=true) (hC:CV P C) (hL:LV n P rd (loopsOf c) Ls) (hS:S.ok=true) (hn:n≤S.box.length)
    (hbody:∀ s,codeR P C c Ls (S.encE s) (S.encB s) (kst S xs)=step s):∀ (fuel:Nat) (s:S.El) (q:Nat) (s':S.El),iter step fuel s=some (q,s')→∀ (ro:Option Nat),ro.isSome=rd→∀ (G:Gh) (a:Act) (w:World) (Q:Exit→Act→World→Prop),
      Ok G (S.encB s) (S.encE s) a w→(∀ G1 a1 w1 x,(nthX xs (q+1)).is x→Goes n false (S.encB s).dead G a w G1 (S.encB s') (S.encE s') a1 w1→Q x a1 w1)→(∀ q,q < xs.length→xs[q]?≠some .normal)→Code.roundsIn (Fr ro) 0 P c Q fuel a w
  | 0,_,_,_,h,_,_,_,_,_,_,_,_,_=>by simp [iter] at h
  | fuel+1,s,q,s',h,ro,hro,G,a,w,Q,hok,hQ,hxs=>by
    simp only [iter] at h
    cases hst:step s with
    | none=>rw [hst] at h; cases h
    | some r=>
      rw [hst] at h
      simp only [Option.bind_some] at h
      have hb:=(hbody s).trans hst
      obtain ⟨e,env',B',hk,haw⟩:=codeR_sound hm hC c hL hb
      unfold kst at hk
      split at hk
      · rename_i m hc
        split at hk
        · rename_i s1 hd
          simp only [Option.some.injEq] at hk
          subst hk
          rw [roundsIn_succ]
          refine haw ro hro G a w _ hok fun G1 a1 w1 x hx g1=>?_
          obtain ⟨G2,g2⟩:=norm_sound (n:=n) hS hn hd g1.ok
          rcases codeX_spec hc with ⟨rfl,rfl⟩ | ⟨p,rfl,hp⟩
          · simp only at h
            cases hx
            exact iter_rounds hm hC hL hS hn hbody fuel s1 q s' h ro hro G2 a1 w1 Q g2.ok (fun G3 a3 w3 x hx g3=>hQ G3 a3 w3 x hx ((g1.trans g2).trans g3)) hxs
          · simp only [Option.some.injEq,Prod.mk.injEq] at h
            obtain ⟨rfl,rfl⟩:=h
            have he:e=nthX xs (p+1):=by simp [nthX,List.getD_eq_getElem?_getD,hp]
            have hne:e≠.normal:=fun h0=>hxs p (List.getElem?_eq_some_iff.1 hp).1 (by rw [hp,h0])
            have:=hQ G2 a1 w1 x (he ▸ hx) (g1.trans g2)
            cases e with
            | normal=>exact absurd rfl hne
            | exit i=>cases hx; exact this
            | ret=>cases hx; exact this
            | pan t=>obtain ⟨pv,rfl⟩:=hx; exact this
        · cases hk
      · cases hk
def realXs:List AExit→Bool
  | []=>true
  | .normal::_=>false
  | _::xs=>realXs xs
theorem realXs_spec:{xs:List AExit}→realXs xs=true→∀ q,q < xs.length→xs[q]?≠some .normal
  | [],_,q,hq=>by simp at hq
  | .exit i::xs,h,0,_=>by simp
  | .ret::xs,h,0,_=>by simp
  | .pan t::xs,h,0,_=>by simp
  | .exit i::xs,h,q+1,hq=>by simpa using realXs_spec (xs:=xs) h q (by simpa using hq)
  | .ret::xs,h,q+1,hq=>by simpa using realXs_spec (xs:=xs) h q (by simpa using hq)
  | .pan t::xs,h,q+1,hq=>by simpa using realXs_spec (xs:=xs) h q (by simpa using hq)
def natK {X:Type} (n:Nat) (a:X) (b:Nat→X):X:=match n with
  | 0=>a
  | m+1=>b m
def selX {X:Type} (k:AExit→Option X):List AExit→Nat→Option X
  | [],_=>none
  | [x],_=>k x
  | x::xs,n=>natK n (k x) fun m=>selX k xs m
theorem selX_spec {X:Type} {k:AExit→Option X} {r:X}:{xs:List AExit}→{n:Nat}→selX k xs n=some r→n < xs.length→k (nthX xs (n+1))=some r
  | [x],0,h,_=>h
  | x::y::xs,0,h,_=>h
  | x::y::xs,n+1,h,hn=>by
    have:selX k (y::xs) n=some r:=h
    have:=selX_spec this (by simpa using hn)
    exact this
theorem iter_lt {P:Program} {C:CalT} {Ls:List LoopT} {c:Code} {S:SPat} {xs:List AExit} {step:S.El→Option (Nat×S.El)} (hbody:∀ s,codeR P C c Ls (S.encE s) (S.encB s) (kst S xs)=step s) (hm:P.follows .mixedOrders=true) (hC:CV P C) {n:Nat} {rd:Bool} (hL:LV n P rd (loopsOf c) Ls) :
    ∀ (fuel:Nat) (s:S.El) (q:Nat) (s':S.El),iter step fuel s=some (q,s')→q < xs.length
  | 0,_,_,_,h=>by simp [iter] at h
  | fuel+1,s,q,s',h=>by
    simp only [iter] at h
    cases hst:step s with
    | none=>rw [hst] at h; cases h
    | some r=>
      rw [hst] at h
      simp only [Option.bind_some] at h
      obtain ⟨e,env',B',hk,_⟩:=codeR_sound hm hC c hL ((hbody s).trans hst)
      unfold kst at hk
      split at hk
      · rename_i m hc
        split at hk
        · simp only [Option.some.injEq] at hk
          subst hk
          rcases codeX_spec hc with ⟨rfl,rfl⟩ | ⟨p,rfl,hp⟩
          · exact iter_lt hbody hm hC hL fuel _ q s' h
          · simp only [Option.some.injEq,Prod.mk.injEq] at h
            obtain ⟨rfl,_⟩:=h
            exact (List.getElem?_eq_some_iff.1 hp).1
        · cases hk
      · cases hk
def loopT (S:SPat) (xs:List AExit) (run:S.El→Option (Nat×S.El)):LoopT:=
  ⟨fun X env B k=>match S.dec env B with
    | some s=>(run s).bind fun r=>selX (fun e=>k e (S.encE r.2) (S.encB r.2)) xs r.1
    | none=>none⟩
theorem loopT_valid {n:Nat} {rd:Bool} {P:Program} {C:CalT} {Ls:List LoopT} {c:Code} {S:SPat} {xs:List AExit} {step run:S.El→Option (Nat×S.El)} {fuel:S.El→Nat} (hm:P.follows .mixedOrders=true) (hC:CV P C) (hL:LV n P rd (loopsOf c) Ls) (hS:S.ok=true) (hn:n≤S.box.length) (hx:realXs xs=true)
    (hbody:∀ s,codeR P C c Ls (S.encE s) (S.encB s) (kst S xs)=step s) (hrun:∀ s r,run s=some r→iter step (fuel s) s=some r):LValid n P (.loop c) (loopT S xs run) rd:=by
  intro X env B k r h
  unfold loopT at h
  simp only at h
  split at h
  · rename_i s hd
    cases hr:run s with
    | none=>rw [hr] at h; cases h
    | some q=>
      rw [hr] at h
      simp only [Option.bind_some] at h
      have hi:=hrun s q hr
      have hlt:=iter_lt hbody hm hC hL (fuel s) s q.1 q.2 hi
      refine ⟨nthX xs (q.1+1),S.encE q.2,S.encB q.2,selX_spec h hlt,fun ro hro G a w Q hok hQ=>?_⟩
      obtain ⟨G1,g1⟩:=norm_sound (n:=n) hS hn hd hok
      exact wpIn_loop_rounds (fuel s) (iter_rounds hm hC hL hS hn hbody (fuel s) s q.1 q.2 hi ro hro G1 a w Q g1.ok (fun G2 a2 w2 x hx' g2=>hQ G2 a2 w2 x hx' (g1.trans g2)) (realXs_spec hx))
  · cases h
end Go.Proofs.YtkeipcalbbmncaaGreat.Abs
set_option linter.unusedVariables false
set_option linter.unusedSimpArgs false
namespace Go.Proofs.YtkeipcalbbmncaaGreat.Abs
def AVal.ren (fb:Nat→Option Nat) (ft:Nat→Nat):AVal→AVal
  | .own t T xs=>.own (ft t) T xs
  | .cons a b=>.cons (a.ren fb ft) (b.ren fb ft)
  | .bptr b p=>match fb b with
    | some c=>.bptr c p
    | none=>.any
  | .func fn a b=>.func fn (a.ren fb ft) (b.ren fb ft)
  | .mref b=>match fb b with
    | some c=>.mref c
    | none=>.any
  | .yref b=>match fb b with
    | some c=>.yref c
    | none=>.any
  | .lobj g i k env=>.lobj g i k (env.ren fb ft)
  | .iface t v=>.iface t (v.ren fb ft)
  | .tuple v=>.tuple (v.ren fb ft)
  | .vec t b T n=>match fb b with
    | some c=>.vec (ft t) c T n
    | none=>.any
  | .vptr t b T i p=>match fb b with
    | some c=>.vptr (ft t) c T i p
    | none=>.any
  | .vrow t T xs=>.vrow (ft t) T xs
  | .optp b=>match fb b with
    | some c=>.optp c
    | none=>.any
  | .bsl b p T n=>match fb b with
    | some c=>.bsl c p T n
    | none=>.any
  | .tbox t a=>.tbox t (a.ren fb ft)
  | a=>a
structure GRen (G:Gh) (dead:List Nat) (G':Gh) (dead':List Nat) (fb:Nat→Option Nat) (ft:Nat→Nat):Prop where
  imm:G'.imm=G.imm
  addr:∀ b c,fb b=some c→∀ blk,G.addr[b]?=some blk→G'.addr[c]?=some blk
  own:∀ t,t ∉ dead→G'.own (ft t)=G.own t
  dead:∀ t,t∈dead→ft t∈dead'
theorem ren_agg (fb:Nat→Option Nat) (ft:Nat→Nat) (a:AVal):(a.ren fb ft).agg=a.agg:=by
  cases a<;>try rfl
  all_goals
    simp only [AVal.ren]
    split<;>rfl
theorem ren_knd (fb:Nat→Option Nat) (ft:Nat→Nat) (a:AVal):(a.ren fb ft).knd=a.knd:=by
  cases a<;>try rfl
  all_goals
    simp only [AVal.ren]
    split<;>rfl
theorem ren_rp {G G':Gh} {dead dead':List Nat} {fb:Nat→Option Nat} {ft:Nat→Nat} (g:GRen G dead G' dead' fb ft):(a:AVal)→(∀ cs,(Rp G dead a).1 cs→(Rp G' dead' (a.ren fb ft)).1 cs)∧(∀ vs,(Rp G dead a).2 vs→(Rp G' dead' (a.ren fb ft)).2 vs)
  | .d T x=>⟨fun cs h=>by show RD G'.imm T x cs; rw [g.imm]; exact h,fun _ h=>h⟩
  | .own tok T xs=>⟨fun cs h=>by
      obtain ⟨hr,A,cap,rfl,h⟩:=h
      refine ⟨by rw [g.imm]; exact hr,A,cap,rfl,?_⟩
      by_cases hd:tok∈dead
      · exact .inl (g.dead tok hd)
      · rcases h with h | h | ⟨b,off,row,rfl,h1,h2,h3⟩
        · exact absurd h hd
        · exact .inr (.inl h)
        · exact .inr (.inr ⟨b,off,row,rfl,by rw [g.own tok hd]; exact h1,by rw [g.imm]; exact h2,h3⟩),fun _ h=>h⟩
  | .nil=>⟨fun _ h=>h,fun _ h=>h⟩
  | .cons a t=>by
    have m1:=ren_rp g a
    have m2:=ren_rp g t
    exact ⟨fun cs h=>by
      obtain ⟨c1,c2,rfl,h1,h2⟩:=h
      exact ⟨c1,c2,rfl,m1.1 _ h1,m2.1 _ h2⟩,fun vs h=>by
      obtain ⟨v,l,rfl,⟨cs,hc,hv⟩,hl⟩:=h
      exact ⟨v,l,rfl,⟨cs,m1.1 _ hc,by rw [ren_agg]; exact hv⟩,m2.2 _ hl⟩⟩
  | .pnil=>⟨fun _ h=>h,fun _ h=>h⟩
  | .bptr b p=>⟨fun cs h=>by
      obtain ⟨blk,hb,ho,rfl⟩:=h
      simp only [AVal.ren]
      cases hf:fb b with
      | none=>rfl
      | some c=>exact ⟨blk,g.addr b c hf blk hb,ho,rfl⟩,fun _ h=>h.elim⟩
  | .iptr T x=>⟨fun cs h=>by
      obtain ⟨b,off,row,rfl,hb,hl,hr⟩:=h
      exact ⟨b,off,row,rfl,by rw [g.imm]; exact hb,hl,by rw [g.imm]; exact hr⟩,fun _ h=>h⟩
  | .func fn f c=>by
    have m1:=ren_rp g f
    have m2:=ren_rp g c
    exact ⟨fun cs h=>by
      obtain ⟨fv,cv,rfl,h1,h2⟩:=h
      exact ⟨fv,cv,rfl,m1.2 _ h1,m2.2 _ h2⟩,fun _ h=>h⟩
  | .fnil=>⟨fun _ h=>h,fun _ h=>h⟩
  | .snil=>⟨fun _ h=>h,fun _ h=>h⟩
  | .iface t v=>by
    have m1:=ren_rp g v
    exact ⟨fun cs h=>by
      obtain ⟨v',rfl,c,hc,hv⟩:=h
      exact ⟨v',rfl,c,m1.1 _ hc,by rw [ren_agg]; exact hv⟩,fun _ h=>h⟩
  | .inil=>⟨fun _ h=>h,fun _ h=>h⟩
  | .tuple vs=>by
    have m1:=ren_rp g vs
    exact ⟨fun cs h=>by
      obtain ⟨l,rfl,hl⟩:=h
      exact ⟨l,rfl,m1.2 _ hl⟩,fun _ h=>h⟩
  | .any=>⟨fun _ h=>h,fun _ h=>h⟩
  | .mnil=>⟨fun _ h=>h,fun _ h=>h⟩
  | .mref b=>⟨fun cs h=>by
      obtain ⟨blk,hb,rfl⟩:=h
      simp only [AVal.ren]
      cases hf:fb b with
      | none=>rfl
      | some c=>exact ⟨blk,g.addr b c hf blk hb,rfl⟩,fun _ h=>h.elim⟩
  | .mobj K V xs=>⟨fun cs h=>by show RM G'.imm K V xs cs; rw [g.imm]; exact h,fun _ h=>h⟩
  | .yref b=>⟨fun cs h=>by
      obtain ⟨blk,hb,rfl⟩:=h
      simp only [AVal.ren]
      cases hf:fb b with
      | none=>rfl
      | some c=>exact ⟨blk,g.addr b c hf blk hb,rfl⟩,fun _ h=>h.elim⟩
  | .lobj _ _ _ env=>⟨(ren_rp g env).2,fun _ h=>h.elim⟩
  | .vec t b T n=>⟨fun cs h=>by
      obtain ⟨A,cap,rfl,h⟩:=h
      simp only [AVal.ren]
      cases hf:fb b with
      | none=>rfl
      | some c=>
        refine ⟨A,cap,rfl,?_⟩
        by_cases hd:t∈dead
        · exact .inl (g.dead t hd)
        · rcases h with h | ⟨h1,h2⟩
          · exact absurd h hd
          · exact .inr ⟨by rw [g.own t hd]; exact h1,h2⟩,fun _ h=>h.elim⟩
  | .vptr t b T i p=>⟨fun cs h=>by
      obtain ⟨blk,off,rfl,h⟩:=h
      simp only [AVal.ren]
      cases hf:fb b with
      | none=>rfl
      | some c=>
        refine ⟨blk,off,rfl,?_⟩
        by_cases hd:t∈dead
        · exact .inl (g.dead t hd)
        · rcases h with h | ⟨⟨n,h1⟩,h2⟩
          · exact absurd h hd
          · exact .inr ⟨⟨n,by rw [g.own t hd]; exact h1⟩,h2⟩,fun _ h=>h.elim⟩
  | .vrow t T xs=>⟨fun _ h=>h,fun _ h=>h⟩
  | .optp b=>⟨fun cs h=>by
      simp only [AVal.ren]
      cases hf:fb b with
      | none=>rcases h with rfl | ⟨_,_,rfl⟩<;>rfl
      | some c=>
        rcases h with rfl | ⟨blk,hb,rfl⟩
        · exact .inl rfl
        · exact .inr ⟨blk,g.addr b c hf blk hb,rfl⟩,fun _ h=>h.elim⟩
  | .bsl b p T n=>⟨fun cs h=>by
      obtain ⟨blk,hb,ho,rfl⟩:=h
      simp only [AVal.ren]
      cases hf:fb b with
      | none=>rfl
      | some c=>exact ⟨blk,g.addr b c hf blk hb,ho,rfl⟩,fun _ h=>h.elim⟩
  | .siter _ _=>⟨fun _ h=>h,fun _ h=>h⟩
  | .pan _=>⟨fun _ h=>h,fun _ h=>h⟩
  | .tbox t a=>⟨(ren_rp g a).1,fun _ h=>h⟩
theorem ren_v {G G':Gh} {dead dead':List Nat} {fb:Nat→Option Nat} {ft:Nat→Nat} (g:GRen G dead G' dead' fb ft) {a:AVal} {v:Value} (h:Rv G dead a v):Rv G' dead' (a.ren fb ft) v:=by
  obtain ⟨cs,hc,hv⟩:=h
  exact ⟨cs,(ren_rp g a).1 cs hc,by rw [ren_agg]; exact hv⟩
structure CSpec where
  A:List PTy
  I:List PTy
  nt:Nat
  O:List PTy
  ntO:Nat
  R:PTy
@[reducible] def CSpec.In (S:CSpec):Type:=Els S.A×Els S.I
@[reducible] def CSpec.Out (S:CSpec):Type:=S.R.El×Els S.O
def unif:AVal→AVal→List (Nat×Nat)
  | .bptr j _,.bptr b _=>[(j,b)]
  | .mref j,.mref b=>[(j,b)]
  | .yref j,.yref b=>[(j,b)]
  | .cons a t,.cons b u=>unif a b++unif t u
  | .func _ a t,.func _ b u=>unif a b++unif t u
  | _,_=>[]
def PTy.unif:PTy→AVal→List (Nat×Nat)
  | .fix a,v=>Abs.unif a v
  | .cons p q,.cons a b=>p.unif a++q.unif b
  | .tup p,.tuple a=>p.unif a
  | .lp _ _ p,.lobj _ _ _ env=>p.unif env
  | .vec _ j _,.vec _ b _ _=>[(j,b)]
  | .optp j,.bptr b _=>[(j,b)]
  | .optp j,.optp b=>[(j,b)]
  | .tbox _ p,.tbox _ a=>p.unif a
  | .fnp _ p q,.func _ a b=>p.unif a++q.unif b
  | _,_=>[]
def unifs:List PTy→List AVal→List (Nat×Nat)
  | p::ps,a::az=>p.unif a++unifs ps az
  | _,_=>[]
def lookN (j:Nat):List (Nat×Nat)→Option Nat
  | []=>none
  | q::l=>bif q.1==j then some q.2 else lookN j l
def selI (box:List AVal):List PTy→Nat→List (Nat×Nat)→List Nat
  | [],_,_=>[]
  | p::ps,j,l=>match lookN j l with
    | some b=>b::selI box ps (j+1) (l++p.unif (box.getD b .any))
    | none=>[]
def selA (S:CSpec) (args:List AVal) (B:Bx):List Nat:=selI B.box S.I 0 (unifs S.A args)
def idxIn (b:Nat):List Nat→Option Nat
  | []=>none
  | c::l=>bif b==c then some 0 else match idxIn b l with
    | some i=>some (i+1)
    | none=>none
theorem idxIn_spec {b:Nat}:{l:List Nat}→{i:Nat}→idxIn b l=some i→l[i]?=some b
  | [],i,h=>by simp [idxIn] at h
  | c::l,i,h=>by
    simp only [idxIn] at h
    cases hb:b==c with
    | true=>
      simp only [hb,cond_true,Option.some.injEq] at h
      subst h
      have:b=c:=by simpa using hb
      simp [this]
    | false=>
      simp only [hb,cond_false] at h
      split at h
      · rename_i j hj
        simp only [Option.some.injEq] at h
        subst h
        simpa using idxIn_spec hj
      · cases h
def nodupB:List Nat→Bool
  | []=>true
  | b::l=>!l.contains b&&nodupB l
theorem nodupB_spec:{l:List Nat}→nodupB l=true→l.Nodup
  | [],_=>List.nodup_nil
  | b::l,h=>by
    simp only [nodupB,Bool.and_eq_true,Bool.not_eq_true'] at h
    refine List.nodup_cons.2 ⟨fun hm=>?_,nodupB_spec h.2⟩
    have:=List.contains_iff_mem.2 hm
    rw [h.1] at this; cases this
def setSel:List AVal→List Nat→List AVal→List AVal
  | bs,s::ss,a::az=>setSel (bs.set s a) ss az
  | bs,_,_=>bs
theorem setSel_len:{bs:List AVal}→{ss:List Nat}→{az:List AVal}→(setSel bs ss az).length=bs.length
  | bs,[],az=>by cases az<;>rfl
  | bs,s::ss,[]=>rfl
  | bs,s::ss,a::az=>by simp [setSel,setSel_len (bs:=bs.set s a)]
theorem setSel_other {i:Nat}:{bs:List AVal}→{ss:List Nat}→{az:List AVal}→i ∉ ss→(setSel bs ss az)[i]?=bs[i]?
  | bs,[],az,_=>by cases az<;>rfl
  | bs,s::ss,[],_=>rfl
  | bs,s::ss,a::az,h=>by
    simp only [List.mem_cons,not_or] at h
    simp only [setSel]
    rw [setSel_other h.2,List.getElem?_set_ne (Ne.symm h.1)]
theorem setSel_at {i b:Nat}:{bs:List AVal}→{ss:List Nat}→{az:List AVal}→ss.Nodup→ss.length≤az.length→ss[i]?=some b→b < bs.length→(setSel bs ss az)[b]?=az[i]?
  | bs,[],az,_,_,h,_=>by simp at h
  | bs,s::ss,[],_,hl,_,_=>by simp at hl
  | bs,s::ss,a::az,hn,hl,h,hb=>by
    simp only [setSel]
    obtain ⟨h1,h2⟩:=List.nodup_cons.1 hn
    cases i with
    | zero=>
      simp only [List.getElem?_cons_zero,Option.some.injEq] at h
      subst h
      rw [setSel_other h1]
      simp [hb]
    | succ i=>
      simp only [List.getElem?_cons_succ] at h ⊢
      exact setSel_at h2 (by simpa using hl) h (by simpa using hb)
def backB (sel:List Nat) (n:Nat) (i:Nat):Option Nat:=match sel[i]? with
  | some b=>some b
  | none=>some (n+(i - sel.length))
def callB (S:CSpec) (args:List AVal) (B:Bx) (r:S.Out):AVal×Bx:=
  let sel:=selA S args B
  let fb:=fun b=>idxIn b sel
  let outs:=(encs S.O r.2).map fun a=>a.ren (backB sel B.box.length) (B.nt+·)
  (((S.R.enc r.1).ren (backB sel B.box.length) (B.nt+·)),
    ⟨setSel B.box sel outs++outs.drop sel.length,SPat.toks ⟨S.A,S.I,S.nt⟩ (args.map fun a=>a.ren fb id) ⟨sel.map fun b=>(B.box.getD b .any).ren fb id,B.dead,B.nt⟩++B.dead,B.nt+S.ntO⟩)
def vecFree (B:Bx) (sel toks:List Nat):Bool:=(toks++B.dead).all (fun t=>decide (t < B.nt))&&B.box.zipIdx.all fun (c,i)=>match c with
  | .vrow t _ _=>sel.contains i==toks.contains t
  | _=>true
theorem vecFree_lt {B:Bx} {sel toks:List Nat} (h:vecFree B sel toks=true) {t:Nat} (ht:t∈toks++B.dead):t < B.nt:=by
  simp only [vecFree,Bool.and_eq_true] at h
  simpa using List.all_eq_true.1 h.1 t ht
theorem vecFree_iff {B:Bx} {sel toks:List Nat} (h:vecFree B sel toks=true) {i t:Nat} {T:DTy} {xs:List T.El} (hi:B.box[i]?=some (.vrow t T xs)):i∈sel↔t∈toks:=by
  simp only [vecFree,Bool.and_eq_true] at h
  have:=List.all_eq_true.1 h.2 (.vrow t T xs,i) (by rw [List.mem_zipIdx_iff_getElem?]; exact hi)
  simp only [beq_iff_eq] at this
  rw [← List.contains_iff_mem,← List.contains_iff_mem,this]
theorem ren_isT {fb:Nat→Option Nat} {ft:Nat→Nat} {t:Nat} {a:AVal} (h:a.isT t=true):(a.ren fb ft).isT (ft t)=true:=by
  obtain ⟨T,xs,rfl⟩:=isT_form h
  exact isT_self _ _ _
theorem ren_vrow {fb:Nat→Option Nat} {ft:Nat→Nat} {t:Nat} {T:DTy} {xs:List T.El} {a:AVal} (h:a.ren fb ft=.vrow t T xs):∃ t',ft t'=t∧a=.vrow t' T xs:=by
  cases a with
  | vrow t' T' ys=>
    simp only [AVal.ren,AVal.vrow.injEq] at h
    obtain ⟨h1,rfl,h3⟩:=h
    exact ⟨t',h1,by rw [eq_of_heq h3]⟩
  | bptr b p=>simp only [AVal.ren] at h; split at h<;>cases h
  | mref b=>simp only [AVal.ren] at h; split at h<;>cases h
  | yref b=>simp only [AVal.ren] at h; split at h<;>cases h
  | vec t b T n=>simp only [AVal.ren] at h; split at h<;>cases h
  | vptr t b T i p=>simp only [AVal.ren] at h; split at h<;>cases h
  | optp b=>simp only [AVal.ren] at h; split at h<;>cases h
  | bsl b p T n=>simp only [AVal.ren] at h; split at h<;>cases h
  | _=>simp [AVal.ren] at h
def callK {X:Type} (S:CSpec) (f:S.In→Option S.Out) (args:List AVal) (B:Bx) (k:AVal→Bx→Option X):Option X:=
  let sel:=selA S args B
  let fb:=fun b=>idxIn b sel
  bif nodupB sel&&sel.length==S.I.length&&sel.all (fun b=>decide (b < B.box.length))&&args.length==S.A.length then
    match SPat.dec ⟨S.A,S.I,S.nt⟩ (args.map fun a=>a.ren fb id) ⟨sel.map fun b=>(B.box.getD b .any).ren fb id,B.dead,B.nt⟩ with
    | some x=>bif vecFree B sel (SPat.toks ⟨S.A,S.I,S.nt⟩ (args.map fun a=>a.ren fb id) ⟨sel.map fun b=>(B.box.getD b .any).ren fb id,B.dead,B.nt⟩) then (f x).bind fun r=>k (callB S args B r).1 (callB S args B r).2 else none
    | none=>none
  else none
def CSpec.ok (S:CSpec):Bool:=SPat.ok ⟨S.A,S.I,S.nt⟩&&decide (S.I.length≤S.O.length)
end Go.Proofs.YtkeipcalbbmncaaGreat.Abs
set_option linter.unusedVariables false
set_option linter.unusedSimpArgs false
namespace Go.Proofs.YtkeipcalbbmncaaGreat.Abs
theorem vals_of_env {G:Gh} {dead:List Nat}:{az:List AVal}→{vs:List Value}→az.length=vs.length→(∀ t,t < az.length→Rv G dead (az.getD t .any) (vs.getD t undef))→Vals G dead az vs
  | [],[],_,_=>.nil
  | a::az,v::vs,hl,h=>.cons (by simpa using h 0 (by simp)) (vals_of_env (by simpa using hl) fun t ht=>by simpa using h (t+1) (by simpa using ht))
theorem EndIs.ren {v:AVal} {cv:Value} {e:Ending} {fb:Nat→Option Nat} {ft:Nat→Nat} (h:EndIs v cv e):EndIs (v.ren fb ft) cv e:=by
  refine h.same fun t=>?_
  cases v<;>simp only [AVal.ren]<;>(try split)<;>simp
theorem call_sound {P:Program} {g:FuncId} {S:CSpec} {f:S.In→Option S.Out} (hS:S.ok=true) (hent:Ent' P g)
    (hcall:∀ x r,f x=some r→LCall S.I.length P g (encs S.A x.1) ⟨encs S.I x.2,[],S.nt⟩ (S.R.enc r.1) ⟨encs S.O r.2,[],S.ntO⟩)
    {X:Type} {args:List AVal} {B:Bx} {k:AVal→Bx→Option X} {res:X} (h:callK S f args B k=some res):∃ r,k (callB S args B r).1 (callB S args B r).2=some res∧ACall P g args B (callB S args B r).1 (callB S args B r).2:=by
  unfold callK at h
  simp only at h
  generalize hsel:selA S args B=sel at h
  cases hb:nodupB sel&&sel.length==S.I.length&&sel.all (fun b=>decide (b < B.box.length))&&args.length==S.A.length with
  | false=>rw [hb] at h; cases h
  | true=>
    rw [hb] at h
    simp only [cond_true] at h
    simp only [Bool.and_eq_true,beq_iff_eq] at hb
    obtain ⟨⟨⟨hnd,hslen⟩,hin⟩,halen⟩:=hb
    have hnd:=nodupB_spec hnd
    have hin:∀ b∈sel,b < B.box.length:=fun b hb=>by simpa using List.all_eq_true.1 hin b hb
    split at h
    · rename_i x hdec
      cases hvf:vecFree B sel (SPat.toks ⟨S.A,S.I,S.nt⟩ (args.map fun a=>a.ren (fun b=>idxIn b sel) id) ⟨sel.map fun b=>(B.box.getD b .any).ren (fun b=>idxIn b sel) id,B.dead,B.nt⟩) with
      | false=>rw [hvf] at h; cases h
      | true=>
      rw [hvf] at h
      simp only [cond_true] at h
      cases hfx:f x with
      | none=>rw [hfx] at h; cases h
      | some r=>
        rw [hfx] at h
        simp only [Option.bind_some] at h
        refine ⟨r,h,hent,fun G w vs hvs hw=>?_⟩
        simp only [CSpec.ok,Bool.and_eq_true,decide_eq_true_eq] at hS
        obtain ⟨hSok,hIO⟩:=hS
        let fb:=fun b=>idxIn b sel
        let Bl:Bx:=⟨sel.map fun b=>(B.box.getD b .any).ren fb id,B.dead,B.nt⟩
        let Gl:Gh:={ imm:=G.imm,own:=G.own,addr:=sel.map fun b=>G.addr.getD b 0 }
        have haddrlt:∀ b,b∈sel→b < G.addr.length:=fun b hb=>by rw [hw.len]; exact hin b hb
        have hgl:GRen G B.dead Gl B.dead fb id:=⟨rfl,fun b c hc blk hblk=>by
          have:=idxIn_spec hc
          show (sel.map fun b=>G.addr.getD b 0)[c]?=some blk
          rw [List.getElem?_map,this]
          simp [List.getD_eq_getElem?_getD,hblk],fun _ _=>rfl,fun _ h=>h⟩
        have hgladdr:∀ (i b:Nat),Gl.addr[i]?=some b→∃ (s:Nat),sel[i]?=some s∧G.addr[s]?=some b:=fun i b hib=>by
          have hib':(sel.map fun b=>G.addr.getD b 0)[i]?=some b:=hib
          rw [List.getElem?_map] at hib'
          cases hs:sel[i]? with
          | none=>rw [hs] at hib'; cases hib'
          | some s=>
            rw [hs] at hib'
            simp only [Option.map_some,Option.some.injEq] at hib'
            have hlt:=haddrlt s (List.mem_of_getElem? hs)
            refine ⟨s,rfl,?_⟩
            rw [← hib',List.getD_eq_getElem?_getD,List.getElem?_eq_getElem hlt]; rfl
        have hglmem:∀ b,b∈Gl.addr→b∈G.addr:=fun b hb=>by
          obtain ⟨i,hi,he⟩:=List.mem_iff_getElem.1 hb
          obtain ⟨s,_,h2⟩:=hgladdr i b (by rw [← he]; exact List.getElem?_eq_getElem hi)
          exact List.mem_of_getElem? h2
        have hglbox:∀ (i:Nat) (c:AVal),Bl.box[i]?=some c→∀ {s:Nat},sel[i]?=some s→∃ c',B.box[s]?=some c'∧c'.ren fb id=c:=fun i c hc {s} h1=>by
          have hc':(sel.map fun b=>(B.box.getD b .any).ren fb id)[i]?=some c:=hc
          rw [List.getElem?_map,h1] at hc'
          simp only [Option.map_some,Option.some.injEq] at hc'
          have hlt:=hin s (List.mem_of_getElem? h1)
          exact ⟨B.box.getD s .any,by rw [List.getD_eq_getElem?_getD,List.getElem?_eq_getElem hlt]; rfl,hc'⟩
        have hwl:WOk Gl Bl w:=by
          refine ⟨by simp [Gl,Bl],?_,fun i b c hib hc=>?_,hw.imm,fun b hb=>hw.disj b (hglmem b hb),fun t b n ht=>?_,hw.inj,fun q hq=>⟨(hw.tab q hq).1,fun hm=>(hw.tab q hq).2.1 (hglmem _ hm),(hw.tab q hq).2.2⟩,?_⟩
          · refine List.pairwise_iff_getElem.2 fun i j hi hj hij=>?_
            have e1:=List.getElem?_eq_getElem hi
            have e2:=List.getElem?_eq_getElem hj
            obtain ⟨s1,a1,a2⟩:=hgladdr i _ e1
            obtain ⟨s2,b1,b2⟩:=hgladdr j _ e2
            intro he
            rw [← he] at b2
            obtain ⟨l1,q1⟩:=List.getElem?_eq_some_iff.1 a2
            obtain ⟨l2,q2⟩:=List.getElem?_eq_some_iff.1 b2
            have hss:s1=s2:=(List.getElem_inj hw.nodup).mp (q1.trans q2.symm)
            subst hss
            obtain ⟨l3,q3⟩:=List.getElem?_eq_some_iff.1 a1
            obtain ⟨l4,q4⟩:=List.getElem?_eq_some_iff.1 b1
            have:=(List.getElem_inj hnd).mp (q3.trans q4.symm)
            omega
          · obtain ⟨s,h1,h2⟩:=hgladdr i b hib
            have hc':(sel.map fun b=>(B.box.getD b .any).ren fb id)[i]?=some c:=hc
            rw [List.getElem?_map,h1] at hc'
            simp only [Option.map_some,Option.some.injEq] at hc'
            have hlt:=hin s (List.mem_of_getElem? h1)
            have hbs:B.box[s]?=some (B.box.getD s .any):=by rw [List.getD_eq_getElem?_getD,List.getElem?_eq_getElem hlt]; rfl
            obtain ⟨o,cs,k1,k0,k2⟩:=hw.boxes s b _ h2 hbs
            exact ⟨o,cs,k1,by rw [← hc',ren_knd]; exact k0,by rw [← hc']; exact (ren_rp hgl _).1 _ k2⟩
          · obtain ⟨k1,k2,k3⟩:=hw.own t b n ht
            refine ⟨k1,k2.of rfl fun i c e1 e2=>?_,k3⟩
            obtain ⟨s,h1,h2⟩:=hgladdr i b e1
            obtain ⟨c',h3,h4⟩:=hglbox i c e2 h1
            exact .inr ⟨s,c',h2,h3,fun h=>by rw [← h4]; exact ren_isT (ft:=id) h⟩
          · intro i t T xs hx
            have hil:i < sel.length:=by
              have:=(List.getElem?_eq_some_iff.1 hx).1
              simpa [Bl] using this
            have hs:=List.getElem?_eq_getElem hil
            obtain ⟨c',h3,h4⟩:=hglbox i _ hx hs
            obtain ⟨t',rfl,rfl⟩:=ren_vrow h4
            obtain ⟨v1,v2,v3⟩:=hw.vec _ _ _ _ h3
            refine ⟨v1,fun j T' ys hj=>?_,v3⟩
            have hjl:j < sel.length:=by
              have:=(List.getElem?_eq_some_iff.1 hj).1
              simpa [Bl] using this
            obtain ⟨c2,h5,h6⟩:=hglbox j _ hj (List.getElem?_eq_getElem hjl)
            obtain ⟨t2,e2,rfl⟩:=ren_vrow h6
            have e2:t2=t':=e2
            subst e2
            exact (List.getElem_inj hnd).mp (v2 _ _ _ h5)
        have hvlen:=vals_len hvs
        have hokl:Ok Gl Bl (args.map fun a=>a.ren fb id) { tmps:=vs.toArray,defers:=[] } w:=by
          refine ⟨⟨by simp [hvlen],fun t=>?_⟩,hwl,trivial⟩
          by_cases ht:t < args.length
          · obtain ⟨v,hv1,hv2⟩:=vals_get hvs (List.getElem?_eq_getElem ht)
            have:(args.map fun a=>a.ren fb id).getD t .any=args[t].ren fb id:=by simp [List.getD_eq_getElem?_getD,ht]
            rw [this]
            have h2:(vs.toArray).getD t undef=v:=by rw [Array.getD_eq_getD_getElem?]; simp [hv1]
            show Rv Gl B.dead _ ((vs.toArray).getD t undef)
            rw [h2]
            exact ren_v hgl hv2
          · have:(args.map fun a=>a.ren fb id).getD t .any=.any:=by rw [List.getD_eq_getElem?_getD,List.getElem?_eq_none (by simp; omega)]; rfl
            rw [this]
            exact any_v _
        obtain ⟨Gn,gn,nimm,naddr,nlen,nown⟩:=norm_sound' (S:=⟨S.A,S.I,S.nt⟩) (n:=S.I.length) hSok (Nat.le_refl _) hdec hokl
        have hgnaddr:Gn.addr=Gl.addr:=by
          rw [naddr]
          refine List.take_of_length_le ?_
          show (sel.map _).length≤S.I.length
          simp [hslen]
        have hvn:Vals Gn [] (encs S.A x.1) vs:=by
          refine vals_of_env (by rw [encs_len,← halen,hvlen]) fun t ht=>?_
          have:=gn.ok.env.val t
          have h2:(vs.toArray).getD t undef=vs.getD t undef:=by rw [Array.getD_eq_getD_getElem?,List.getD_eq_getElem?_getD]; simp
          rw [← h2]
          exact this
        refine ((hcall x r hfx).2 Gn w vs hvn gn.ok.w).mono ?_
        rintro e w' ⟨cv,Gc,hend,hcv,hwc,hext,hheld⟩
        have hclen:Gc.addr.length=S.O.length:=by rw [hwc.len]; simp [encs_len]
        have hcaddr:∀ (i b:Nat),Gl.addr[i]?=some b→Gc.addr[i]?=some b:=fun i b hib=>hheld i b (by
          have:=(List.getElem?_eq_some_iff.1 hib).1
          simp [Gl] at this; omega) (by rw [hgnaddr]; exact hib)
        have hgllen:Gl.addr.length=sel.length:=by simp [Gl]
        have hnew:∀ b,b∈Gc.addr.drop sel.length→w.heap.size≤b:=fun b hb=>by
          obtain ⟨i,hi,he⟩:=List.mem_iff_getElem.1 hb
          rw [List.getElem_drop] at he
          rcases hext.addr b (List.mem_of_mem_drop hb) with hm | hm
          · rw [hgnaddr] at hm
            obtain ⟨j,hj,hje⟩:=List.mem_iff_getElem.1 hm
            have hcj:=hcaddr j b (by rw [← hje]; exact List.getElem?_eq_getElem hj)
            obtain ⟨lj,qj⟩:=List.getElem?_eq_some_iff.1 hcj
            have:=(List.getElem_inj hwc.nodup).mp (qj.trans he.symm)
            rw [hgllen] at hj
            omega
          · exact hm
        generalize htk:SPat.toks ⟨S.A,S.I,S.nt⟩ (args.map fun a=>a.ren fb id) ⟨sel.map fun b=>(B.box.getD b .any).ren fb id,B.dead,B.nt⟩=toks at nown
        have nown':∀ k b c,Gn.own k=some (b,c)→∃ t,t∈toks∧G.own t=some (b,c):=nown
        let Go:Gh:={ imm:=Gc.imm,addr:=G.addr++Gc.addr.drop sel.length,own:=fun t=>if t < B.nt then (if t∈toks then none else G.own t) else Gc.own (t - B.nt) }
        have ownlt:∀ t b c,G.own t=some (b,c)→t < B.nt:=fun t b c h=>(hw.own t b c h).1
        have ownsz:∀ t b c,G.own t=some (b,c)→b < w.heap.size:=fun t b c h=>by
          obtain ⟨_,_,cells,e,hh,_⟩:=hw.own t b c h
          exact heap_lt hh
        have nnot:∀ t b c,t ∉ toks→G.own t=some (b,c)→∀ k c',Gn.own k≠some (b,c'):=fun t b c ht ho k c' hk=>by
          obtain ⟨t',h1,h2⟩:=nown' k b c' hk
          have:=hw.inj t t' b c c' ho h2
          subst this
          exact ht h1
        have hvf':vecFree B sel toks=true:=by rw [← htk]; exact hvf
        have boxAt:∀ (s b:Nat),G.addr[s]?=some b→∃ c,B.box[s]?=some c:=fun s b hs=>by
          have hl:=(List.getElem?_eq_some_iff.1 hs).1
          exact ⟨_,List.getElem?_eq_getElem (by rw [← hw.len]; exact hl)⟩
        have addrinj:∀ (s s' b:Nat),G.addr[s]?=some b→G.addr[s']?=some b→s=s':=fun s s' b h1 h2=>by
          obtain ⟨l1,q1⟩:=List.getElem?_eq_some_iff.1 h1
          obtain ⟨l2,q2⟩:=List.getElem?_eq_some_iff.1 h2
          exact (List.getElem_inj hw.nodup).mp (q1.trans q2.symm)
        have nameT:∀ (t s b n:Nat),G.own t=some (b,n)→G.addr[s]?=some b→∃ T xs,B.box[s]?=some (.vrow t T xs):=fun t s b n ho hs=>by
          obtain ⟨c,hc⟩:=boxAt s b hs
          rcases (hw.own t b n ho).2.1 with ⟨row,hr⟩ | ⟨_,hr⟩
          · rw [hw.disj b (List.mem_of_getElem? hs)] at hr; cases hr
          · obtain ⟨T,xs,rfl⟩:=isT_form (hr s c hs hc)
            exact ⟨T,xs,hc⟩
        have addrsel:∀ (s b:Nat),G.addr[s]?=some b→∀ k c,Gn.own k=some (b,c)→s∈sel:=fun s b hs k c hk=>by
          obtain ⟨t',h1,h2⟩:=nown' k b c hk
          obtain ⟨T,xs,hx⟩:=nameT t' s b c h2 hs
          exact (vecFree_iff hvf' hx).2 h1
        have glnot:∀ (t b n:Nat),t ∉ toks→G.own t=some (b,n)→b ∉ Gl.addr:=fun t b n ht ho hm=>by
          obtain ⟨j,hj,hje⟩:=List.mem_iff_getElem.1 hm
          obtain ⟨s,h1,h2⟩:=hgladdr j b (by rw [← hje]; exact List.getElem?_eq_getElem hj)
          obtain ⟨T,xs,hx⟩:=nameT t s b n ho h2
          exact ht ((vecFree_iff hvf' hx).1 (List.mem_of_getElem? h1))
        have selgl:∀ (s b:Nat),s∈sel→G.addr[s]?=some b→∃ j,sel[j]?=some s∧Gl.addr[j]?=some b:=fun s b hs hb=>by
          obtain ⟨j,hj,hje⟩:=List.mem_iff_getElem.1 hs
          have hsj:sel[j]?=some s:=by rw [← hje]; exact List.getElem?_eq_getElem hj
          refine ⟨j,hsj,?_⟩
          show (sel.map fun b=>G.addr.getD b 0)[j]?=_
          rw [List.getElem?_map,hsj]
          simp [List.getD_eq_getElem?_getD,hb]
        have hexti:∀ b,b < w.heap.size→(∀ k c,Gn.own k≠some (b,c))→Gc.imm b=G.imm b:=fun b hb ho=>by
          rw [hext.same b hb ho,nimm]
        have hdead:(callB S args B r).2.dead=toks++B.dead:=by
          simp only [callB,hsel]
          rw [← htk]
        have hnt:(callB S args B r).2.nt=B.nt+S.ntO:=rfl
        have hbox:(callB S args B r).2.box=setSel B.box sel ((encs S.O r.2).map fun a=>a.ren (backB sel B.box.length) (B.nt+·))++((encs S.O r.2).map fun a=>a.ren (backB sel B.box.length) (B.nt+·)).drop sel.length:=by
          simp only [callB,hsel]
        have hval:(callB S args B r).1=(S.R.enc r.1).ren (backB sel B.box.length) (B.nt+·):=by simp only [callB,hsel]
        have hback:GRen Gc [] Go (toks++B.dead) (backB sel B.box.length) (B.nt+·):=by
          refine ⟨rfl,fun i c hc blk hblk=>?_,fun t _=>?_,fun t h=>by cases h⟩
          · unfold backB at hc
            split at hc
            · rename_i s hs
              simp only [Option.some.injEq] at hc
              subst hc
              have hlt:=haddrlt s (List.mem_of_getElem? hs)
              have hg:Gl.addr[i]?=some G.addr[s]:=by
                show (sel.map fun b=>G.addr.getD b 0)[i]?=_
                rw [List.getElem?_map,hs]
                simp [List.getD_eq_getElem?_getD,hlt]
              have:=hcaddr i _ hg
              rw [hblk] at this
              show (G.addr++_)[s]?=_
              rw [List.getElem?_append_left hlt,List.getElem?_eq_getElem hlt]
              exact this.symm
            · rename_i hs
              simp only [Option.some.injEq] at hc
              subst hc
              have hge:sel.length≤i:=by
                rcases Nat.lt_or_ge i sel.length with h | h
                · rw [List.getElem?_eq_getElem h] at hs; cases hs
                · exact h
              show (G.addr++Gc.addr.drop sel.length)[B.box.length+(i - sel.length)]?=some blk
              rw [List.getElem?_append_right (by rw [hw.len]; omega),hw.len,List.getElem?_drop]
              have:sel.length+(B.box.length+(i - sel.length) - B.box.length)=i:=by omega
              rw [this]
              exact hblk
          · show (if B.nt+t < B.nt then _ else Gc.own (B.nt+t - B.nt))=Gc.own t
            rw [if_neg (by omega)]
            congr 1
            omega
        have hgle:GLe G B.dead Go (toks++B.dead):=by
          refine ⟨by have:=hext.imm; rw [nimm] at this; exact this,List.prefix_append _ _,fun t h=>List.mem_append_right _ h,fun t b c ht ho=>?_⟩
          have htk':t ∉ toks:=fun h=>ht (List.mem_append_left _ h)
          refine ⟨?_,fun row hi=>?_⟩
          · show (if t < B.nt then (if t∈toks then none else G.own t) else Gc.own (t - B.nt))=_
            rw [if_pos (ownlt t b c ho),if_neg htk']
            exact ho
          · show Gc.imm b=some row
            rw [hexti b (ownsz t b c ho) (nnot t b c htk' ho)]
            exact hi
        have hOlen:((encs S.O r.2).map fun a=>a.ren (backB sel B.box.length) (B.nt+·)).length=S.O.length:=by simp [encs_len]
        have hfr:∀ b,b < w.heap.size→b ∉ Gl.addr→(∀ k c,Gn.own k≠some (b,c))→w'.heap[b]?=w.heap[b]?:=fun b h1 h2 h3=>hext.frame b h1 (by rw [hgnaddr]; exact h2) h3
        refine ⟨cv,Go,hend.ren,?_,?_,?_,?_⟩
        · rw [hval,hdead]
          exact ren_v hback hcv
        · refine ⟨?_,?_,fun i b c hib hc=>?_,hwc.imm,fun b hb=>?_,fun t b c ht=>?_,fun t t' b c c' ht ht'=>?_,fun q hq=>?_,?_⟩
          · rw [hbox]
            simp only [Go,List.length_append,List.length_drop,setSel_len,hOlen,hclen,hw.len]
          · refine List.nodup_append.2 ⟨hw.nodup,hwc.nodup.sublist (List.drop_sublist _ _),fun a ha b hb=>?_⟩
            have:=hw.addr_lt ha
            have:=hnew b hb
            omega
          · rw [hbox] at hc
            rw [hdead]
            have hib':(G.addr++Gc.addr.drop sel.length)[i]?=some b:=hib
            by_cases hi:i < B.box.length
            · rw [List.getElem?_append_left (by rw [hw.len]; exact hi)] at hib'
              rw [List.getElem?_append_left (by rw [setSel_len]; exact hi)] at hc
              by_cases his:i∈sel
              · obtain ⟨j,hj,hje⟩:=List.mem_iff_getElem.1 his
                have hsj:sel[j]?=some i:=by rw [← hje]; exact List.getElem?_eq_getElem hj
                rw [setSel_at hnd (by rw [hOlen]; omega) hsj hi] at hc
                rw [List.getElem?_map] at hc
                cases hoj:(encs S.O r.2)[j]? with
                | none=>rw [hoj] at hc; cases hc
                | some o=>
                  rw [hoj] at hc
                  simp only [Option.map_some,Option.some.injEq] at hc
                  have hg:Gl.addr[j]?=some b:=by
                    show (sel.map fun b=>G.addr.getD b 0)[j]?=_
                    rw [List.getElem?_map,hsj]
                    simp [List.getD_eq_getElem?_getD,hib']
                  obtain ⟨o',cs,k1,k0,k2⟩:=hwc.boxes j b o (hcaddr j b hg) hoj
                  exact ⟨o',cs,k1,by rw [← hc,ren_knd]; exact k0,by rw [← hc]; exact (ren_rp hback _).1 _ k2⟩
              · rw [setSel_other his] at hc
                have hbo:=hw.boxes i b c hib' hc
                obtain ⟨o',cs,k1,_,_⟩:=id hbo
                have hbm:=List.mem_of_getElem? hib'
                refine hbo.mono hgle ?_
                rw [hfr b (heap_lt k1) (fun hm=>?_) (fun k c' hk=>his (addrsel i b hib' k c' hk))]
                · obtain ⟨j,hj,hje⟩:=List.mem_iff_getElem.1 hm
                  obtain ⟨s,h1,h2⟩:=hgladdr j b (by rw [← hje]; exact List.getElem?_eq_getElem hj)
                  obtain ⟨l1,q1⟩:=List.getElem?_eq_some_iff.1 h2
                  obtain ⟨l2,q2⟩:=List.getElem?_eq_some_iff.1 hib'
                  have:=(List.getElem_inj hw.nodup).mp (q1.trans q2.symm)
                  subst this
                  exact his (List.mem_of_getElem? h1)
            · rw [List.getElem?_append_right (by rw [hw.len]; omega),List.getElem?_drop,hw.len] at hib'
              rw [List.getElem?_append_right (by rw [setSel_len]; omega),List.getElem?_drop,setSel_len,List.getElem?_map] at hc
              cases hoj:(encs S.O r.2)[sel.length+(i - B.box.length)]? with
              | none=>rw [hoj] at hc; cases hc
              | some o=>
                rw [hoj] at hc
                simp only [Option.map_some,Option.some.injEq] at hc
                obtain ⟨o',cs,k1,k0,k2⟩:=hwc.boxes _ b o hib' hoj
                exact ⟨o',cs,k1,by rw [← hc,ren_knd]; exact k0,by rw [← hc]; exact (ren_rp hback _).1 _ k2⟩
          · rcases List.mem_append.1 hb with hb | hb
            · show Gc.imm b=none
              by_cases hex:∃ k c,Gn.own k=some (b,c)
              · obtain ⟨k,c,hk⟩:=hex
                obtain ⟨s,hs,hse⟩:=List.mem_iff_getElem.1 hb
                have hs':G.addr[s]?=some b:=by rw [← hse]; exact List.getElem?_eq_getElem hs
                obtain ⟨j,_,hj⟩:=selgl s b (addrsel s b hs' k c hk) hs'
                exact hwc.disj b (List.mem_of_getElem? (hcaddr j b hj))
              · rw [hexti b (hw.addr_lt hb) (fun k c hk=>hex ⟨k,c,hk⟩)]
                exact hw.disj b hb
            · exact hwc.disj b (List.mem_of_mem_drop hb)
          · have ht':(if t < B.nt then (if t∈toks then none else G.own t) else Gc.own (t - B.nt))=some (b,c):=ht
            rw [hnt]
            by_cases hlt:t < B.nt
            · rw [if_pos hlt] at ht'
              split at ht'
              · cases ht'
              · rename_i htk'
                obtain ⟨_,k2,cells,e,k3,k4⟩:=hw.own t b c ht'
                have hnb:=nnot t b c htk' ht'
                refine ⟨by omega,k2.of (hexti b (heap_lt k3) hnb) fun i d e1 e2=>?_,cells,e,by rw [hfr b (heap_lt k3) (glnot t b c htk' ht') hnb]; exact k3,k4.1,(hexti b (heap_lt k3) hnb) ▸ k4.2⟩
                have e1':(G.addr++Gc.addr.drop sel.length)[i]?=some b:=e1
                by_cases hi:i < B.box.length
                · rw [List.getElem?_append_left (by rw [hw.len]; exact hi)] at e1'
                  obtain ⟨T,xs,hx⟩:=nameT t i b c ht' e1'
                  have his:i ∉ sel:=fun h=>htk' ((vecFree_iff hvf' hx).1 h)
                  rw [hbox,List.getElem?_append_left (by rw [setSel_len]; exact hi),setSel_other his] at e2
                  exact .inr ⟨i,d,e1',e2,fun h=>h⟩
                · rw [List.getElem?_append_right (by rw [hw.len]; omega)] at e1'
                  have:=hnew b (List.mem_of_getElem? e1')
                  have:=heap_lt k3
                  omega
            · rw [if_neg hlt] at ht'
              obtain ⟨k1,k2,k3⟩:=hwc.own _ b c ht'
              have k1':t - B.nt < S.ntO:=k1
              refine ⟨by omega,k2.of rfl fun i d e1 e2=>?_,k3⟩
              have et:B.nt+(t - B.nt)=t:=by omega
              have e1':(G.addr++Gc.addr.drop sel.length)[i]?=some b:=e1
              by_cases hi:i < B.box.length
              · rw [List.getElem?_append_left (by rw [hw.len]; exact hi)] at e1'
                have his:i∈sel:=by
                  rcases hext.own _ b c ht' with ⟨q,hq⟩ | hq
                  · exact addrsel i b e1' q c hq
                  · have:=hw.addr_lt (List.mem_of_getElem? e1')
                    omega
                obtain ⟨j,hsj,hj⟩:=selgl i b his e1'
                have hjl:j < S.O.length:=by
                  have:=(List.getElem?_eq_some_iff.1 hsj).1
                  omega
                rw [hbox,List.getElem?_append_left (by rw [setSel_len]; exact hi),setSel_at hnd (by rw [hOlen]; omega) hsj hi,List.getElem?_map] at e2
                cases hoj:(encs S.O r.2)[j]? with
                | none=>rw [hoj] at e2; cases e2
                | some o=>
                  rw [hoj] at e2
                  simp only [Option.map_some,Option.some.injEq] at e2
                  refine .inr ⟨j,o,hcaddr j b hj,hoj,fun h=>?_⟩
                  have:=ren_isT (fb:=backB sel B.box.length) (ft:=(B.nt+·)) h
                  rw [e2] at this
                  simpa only [et] using this
              · rw [List.getElem?_append_right (by rw [hw.len]; omega),List.getElem?_drop,hw.len] at e1'
                rw [hbox,List.getElem?_append_right (by rw [setSel_len]; omega),List.getElem?_drop,setSel_len,List.getElem?_map] at e2
                cases hoj:(encs S.O r.2)[sel.length+(i - B.box.length)]? with
                | none=>rw [hoj] at e2; cases e2
                | some o=>
                  rw [hoj] at e2
                  simp only [Option.map_some,Option.some.injEq] at e2
                  refine .inr ⟨_,o,e1',hoj,fun h=>?_⟩
                  have:=ren_isT (fb:=backB sel B.box.length) (ft:=(B.nt+·)) h
                  rw [e2] at this
                  simpa only [et] using this
          · have inv:∀ t c,Go.own t=some (b,c)→(t < B.nt∧t ∉ toks∧G.own t=some (b,c))∨(¬ t < B.nt∧Gc.own (t - B.nt)=some (b,c)):=fun t c ht=>by
              have ht':(if t < B.nt then (if t∈toks then none else G.own t) else Gc.own (t - B.nt))=some (b,c):=ht
              by_cases hlt:t < B.nt
              · rw [if_pos hlt] at ht'
                split at ht'
                · cases ht'
                · rename_i htk'; exact .inl ⟨hlt,htk',ht'⟩
              · rw [if_neg hlt] at ht'
                exact .inr ⟨hlt,ht'⟩
            have mix:∀ t t' c c',t ∉ toks→G.own t=some (b,c)→Gc.own t'=some (b,c')→False:=fun t t' c c' h1 h2 h3=>by
              rcases hext.own t' b c' h3 with ⟨q,hq⟩ | hq
              · exact nnot t b c h1 h2 q c' hq
              · have:=ownsz t b c h2; omega
            rcases inv t c ht with ⟨a1,a2,a3⟩ | ⟨a1,a2⟩<;>rcases inv t' c' ht' with ⟨b1,b2,b3⟩ | ⟨b1,b2⟩
            · exact hw.inj t t' b c c' a3 b3
            · exact (mix t _ c c' a2 a3 b2).elim
            · exact (mix t' _ c' c b2 b3 a2).elim
            · have:=hwc.inj _ _ b c c' a2 b2
              omega
          · refine ⟨(hwc.tab q hq).1,fun hm=>?_,fun t n ht=>?_⟩
            · rcases List.mem_append.1 hm with hm | hm
              · exact (hw.tab q hq).2.1 hm
              · exact (hwc.tab q hq).2.1 (List.mem_of_mem_drop hm)
            · have ht':(if t < B.nt then (if t∈toks then none else G.own t) else Gc.own (t - B.nt))=some (q.1,n):=ht
              by_cases hlt:t < B.nt
              · rw [if_pos hlt] at ht'
                split at ht'
                · cases ht'
                · exact (hw.tab q hq).2.2 t n ht'
              · rw [if_neg hlt] at ht'
                exact (hwc.tab q hq).2.2 _ n ht'
          ·
            have src:∀ (i t:Nat) (T:DTy) (xs:List T.El),(callB S args B r).2.box[i]?=some (.vrow t T xs)→(i < B.box.length∧i ∉ sel∧B.box[i]?=some (.vrow t T xs))∨(∃ j k,t=B.nt+k∧(encs S.O r.2)[j]?=some (.vrow k T xs)∧(sel[j]?=some i∨(sel.length≤j∧B.box.length≤i∧i=B.box.length+(j - sel.length)))):=fun i t T xs hx=>by
              rw [hbox] at hx
              by_cases hi:i < B.box.length
              · rw [List.getElem?_append_left (by rw [setSel_len]; exact hi)] at hx
                by_cases his:i∈sel
                · obtain ⟨j,hj,hje⟩:=List.mem_iff_getElem.1 his
                  have hsj:sel[j]?=some i:=by rw [← hje]; exact List.getElem?_eq_getElem hj
                  rw [setSel_at hnd (by rw [hOlen]; omega) hsj hi,List.getElem?_map] at hx
                  cases hoj:(encs S.O r.2)[j]? with
                  | none=>rw [hoj] at hx; cases hx
                  | some o=>
                    rw [hoj] at hx
                    simp only [Option.map_some,Option.some.injEq] at hx
                    obtain ⟨k,rfl,rfl⟩:=ren_vrow hx
                    exact .inr ⟨j,k,rfl,hoj,.inl hsj⟩
                · rw [setSel_other his] at hx
                  exact .inl ⟨hi,his,hx⟩
              · rw [List.getElem?_append_right (by rw [setSel_len]; omega),List.getElem?_drop,setSel_len,List.getElem?_map] at hx
                cases hoj:(encs S.O r.2)[sel.length+(i - B.box.length)]? with
                | none=>rw [hoj] at hx; cases hx
                | some o=>
                  rw [hoj] at hx
                  simp only [Option.map_some,Option.some.injEq] at hx
                  obtain ⟨k,rfl,rfl⟩:=ren_vrow hx
                  exact .inr ⟨_,k,rfl,hoj,.inr ⟨by omega,by omega,by omega⟩⟩
            intro i t T xs hx
            rw [hdead]
            rcases src i t T xs hx with ⟨h1,h2,h3⟩ | ⟨j,k,rfl,h2,h3⟩
            · obtain ⟨v1,v2,blk,n,cells,e,v3,v4,v5,v6,v7,v8⟩:=hw.vec i t T xs h3
              have htk':t ∉ toks:=fun h=>h2 ((vecFree_iff hvf' h3).2 h)
              have hlt:=(hw.own t blk n v3).1
              have hnb:=nnot t blk n htk' v3
              refine ⟨fun hm=>(List.mem_append.1 hm).elim htk' v1,fun j T' ys hj=>?_,blk,n,cells,e,?_,?_,v5,v6,?_,?_⟩
              · rcases src j t T' ys hj with ⟨_,_,g3⟩ | ⟨_,k,g1,_,_⟩
                · exact v2 j T' ys g3
                · omega
              · show (if t < B.nt then (if t∈toks then none else G.own t) else Gc.own (t - B.nt))=_
                rw [if_pos hlt,if_neg htk']
                exact v3
              · rw [hfr blk (heap_lt v4) (glnot t blk n htk' v3) hnb]
                exact v4
              · show Gc.imm blk=none
                rw [hexti blk (heap_lt v4) hnb]
                exact v7
              · exact RD.mono hgle.imm v8
            · obtain ⟨v1,v2,blk,n,cells,e,v3,v4,v5,v6,v7,v8⟩:=hwc.vec j k T xs h2
              refine ⟨fun hm=>by have:=vecFree_lt hvf' hm; omega,fun j' T' ys hj=>?_,blk,n,cells,e,?_,v4,v5,v6,v7,v8⟩
              · rcases src j' _ T' ys hj with ⟨_,_,g3⟩ | ⟨j2,k2,g1,g2,g3⟩
                · obtain ⟨_,_,b2,n2,_,_,q3,_⟩:=hw.vec j' _ T' ys g3
                  have:=(hw.own _ b2 n2 q3).1
                  omega
                · have:k2=k:=by omega
                  subst this
                  have hjj:=v2 j2 T' ys g2
                  subst hjj
                  rcases h3 with h3 | ⟨a1,a2,a3⟩<;>rcases g3 with g3 | ⟨b1,b2,b3⟩
                  · rw [h3] at g3
                    exact (Option.some.inj g3).symm
                  · have:=(List.getElem?_eq_some_iff.1 h3).1
                    omega
                  · have:=(List.getElem?_eq_some_iff.1 g3).1
                    omega
                  · omega
              · show (if B.nt+k < B.nt then _ else Gc.own (B.nt+k - B.nt))=_
                rw [if_neg (by omega),Nat.add_sub_cancel_left]
                exact v3
        · rw [hdead]; exact hgle
        · refine ⟨hext.os,hext.tape,hext.output,hext.size,fun b hb ha ho=>hfr b hb (fun hm=>ha (hglmem b hm)) fun k c hk=>?_,by have:=hext.imm; rw [nimm] at this; exact this,fun b hb ho=>hexti b hb fun k c hk=>?_,fun b hb=>?_,fun t b c ht=>?_⟩
          · obtain ⟨t',_,h2⟩:=nown' k b c hk
            exact ho t' c h2
          · obtain ⟨t',_,h2⟩:=nown' k b c hk
            exact ho t' c h2
          · rcases List.mem_append.1 hb with hb | hb
            · exact .inl hb
            · exact .inr (hnew b hb)
          · have ht':(if t < B.nt then (if t∈toks then none else G.own t) else Gc.own (t - B.nt))=some (b,c):=ht
            by_cases hlt:t < B.nt
            · rw [if_pos hlt] at ht'
              split at ht'
              · cases ht'
              · exact .inl ⟨t,ht'⟩
            · rw [if_neg hlt] at ht'
              rcases hext.own _ b c ht' with ⟨q,hq⟩ | hq
              · obtain ⟨t',_,h2⟩:=nown' q b c hq
                exact .inl ⟨t',h2⟩
              · exact .inr hq
    · cases h
end Go.Proofs.YtkeipcalbbmncaaGreat.Abs
set_option linter.unusedVariables false
set_option linter.unusedSimpArgs false
namespace Go.Proofs.YtkeipcalbbmncaaGreat.Abs
def oneE:(p:PTy)→Els [p]→p.El
  | .any,_=>()
  | .fix _,_=>()
  | .nil,_=>()
  | .dat _,x=>x.1
  | .own _ _,x=>x.1
  | .cons _ _,x=>x.1
  | .tup _,x=>x.1
  | .map _ _,x=>x.1
  | .ip _,x=>x.1
  | .lp _ _ _,x=>x.1
  | .vec _ _ _,x=>x.1
  | .vrow _ _,x=>x.1
  | .optp _,_=>()
  | .siter,x=>x.1
  | .fnp _ _ _,x=>x.1
  | .tbox _ _,x=>x.1
theorem oneE_enc (p:PTy) (x:Els [p]):encs [p] x=[p.enc (oneE p x)]:=by
  cases p<;>rfl
def PTy.notAny:PTy→Bool
  | .any=>false
  | _=>true
theorem dec_end {R:PTy} {v:AVal} {y:R.El} {l:List (Nat×Nat)} (hR:R.notAny=true) (h:R.dec v=some (y,l)) {cv:Value} {e:Ending} (he:EndIs v cv e):EndIs (R.enc y) cv e:=by
  refine he.same fun t=>?_
  cases R with
  | any=>simp [PTy.notAny] at hR
  | fix a=>
    simp only [PTy.dec] at h
    cases hs:sameA a v with
    | false=>rw [hs] at h; cases h
    | true=>
      simp only [PTy.enc]
      constructor
      · rintro rfl
        cases a<;>simp [sameA] at hs
        rw [hs]
      · rintro rfl
        cases v<;>simp [sameA] at hs
        rw [hs]
  | _=>
    simp only [PTy.enc]
    constructor
    · rintro rfl
      simp [PTy.dec,asData] at h
    · intro hh; cases hh
theorem decs_end {R:PTy} {O:List PTy} {nt:Nat} {v:AVal} {B:Bx} {z:SPat.El ⟨[R],O,nt⟩} (hR:R.notAny=true) (h:SPat.dec ⟨[R],O,nt⟩ [v] B=some z) {cv:Value} {e:Ending} (he:EndIs v cv e):EndIs (R.enc (oneE R z.1)) cv e:=by
  unfold SPat.dec at h
  split at h
  · rename_i x l y m h1 h2
    obtain ⟨y1,l1,z1,l2,g1,g2,_,g4⟩:=decs_cons h1
    rw [cond_eq_ite] at h
    split at h
    · simp only [Option.some.injEq] at h
      subst h
      rw [oneE_enc] at g4
      simp only [encs,List.cons.injEq,and_true] at g4
      simp only
      rw [g4]
      exact dec_end hR g1 he
    · cases h
  · cases h
def finK (S:CSpec) (v:AVal) (B:Bx):Option S.Out:=
  match SPat.dec ⟨[S.R],S.O,S.ntO⟩ [v] B with
  | some x=>some (oneE S.R x.1,x.2)
  | none=>none
def CSpec.ok2 (S:CSpec):Bool:=SPat.ok ⟨[S.R],S.O,S.ntO⟩&&S.R.notAny
theorem CSpec.ok2_1 {S:CSpec} (h:S.ok2=true):SPat.ok ⟨[S.R],S.O,S.ntO⟩=true:=by
  unfold CSpec.ok2 at h
  rw [Bool.and_eq_true] at h
  exact h.1
theorem CSpec.ok2_2 {S:CSpec} (h:S.ok2=true):S.R.notAny=true:=by
  unfold CSpec.ok2 at h
  rw [Bool.and_eq_true] at h
  exact h.2
theorem fn_lcall {P:Program} {C:CalT} {Ls:List LoopT} {g:FuncId} {fn:Func} {c:Code} {S:CSpec} {f:S.In→Option S.Out} (hm:P.follows .mixedOrders=true) (hf:P.funcs[g]?=some fn) (hb:fn.body=some c) (hent:Ent P g) (hC:CV P C)
    (hL:LV S.I.length P false (loopsOf c) Ls) (hS:S.ok=true) (hS2:S.ok2=true) (hev:∀ x,fnR P C Ls fn c (encs S.A x.1) ⟨encs S.I x.2,[],S.nt⟩ (finK S)=f x) :
    ∀ x r,f x=some r→LCall S.I.length P g (encs S.A x.1) ⟨encs S.I x.2,[],S.nt⟩ (S.R.enc r.1) ⟨encs S.O r.2,[],S.ntO⟩:=by
  intro x r hr
  obtain ⟨v,B',hk,hl⟩:=fnR_sound hm hf hb hent hC hL ((hev x).trans hr)
  unfold finK at hk
  split at hk
  · rename_i z hz
    simp only [Option.some.injEq] at hk
    subst hk
    simp only [CSpec.ok,Bool.and_eq_true,decide_eq_true_eq] at hS
    refine ⟨hl.1,fun G w vs hvs hw=>(hl.2 G w vs hvs hw).mono ?_⟩
    rintro e w' ⟨cv,G1,hend,h1,h2,h3,h4⟩
    have hok:Ok G1 B' [v] { tmps:=#[cv],defers:=[] } w':=⟨⟨rfl,fun t=>by
      cases t with
      | zero=>exact h1
      | succ t=>exact any_v _⟩,h2,trivial⟩
    obtain ⟨G2,g2⟩:=norm_sound (n:=S.I.length) (CSpec.ok2_1 hS2) hS.2 hz hok
    refine ⟨cv,G2,decs_end (CSpec.ok2_2 hS2) hz hend,by have:=g2.ok.env.val 0; unfold SPat.encE at this; rw [oneE_enc] at this; exact this,g2.ok.w,h3.trans g2.ext,fun i b hi hb=>g2.held i b hi (h4 i b hi hb)⟩
  · cases hk
def PTy.pure:PTy→Bool
  | .dat _=>true
  | .fix a=>Abs.under 0 a&&sameA a a
  | .cons h t=>h.pure&&t.pure
  | .nil=>true
  | .tup p=>p.pure
  | .ip _=>true
  | _=>false
theorem pure_notAny:{p:PTy}→p.pure=true→p.notAny=true
  | .any,h=>by simp [PTy.pure] at h
  | .fix _,_ | .dat _,_ | .own _ _,_ | .cons _ _,_ | .nil,_ | .tup _,_ | .map _ _,_ | .ip _,_ | .lp _ _ _,_ | .vec _ _ _,_ | .vrow _ _,_ | .optp _,_ | .siter,_ | .fnp _ _ _,_ | .tbox _ _,_=>rfl
theorem pure_under:{p:PTy}→p.pure=true→p.under 0=true
  | .dat _,_=>rfl
  | .fix a,h=>h
  | .cons a b,h=>by
    simp only [PTy.pure,Bool.and_eq_true] at h
    simp only [PTy.under,Bool.and_eq_true]
    exact ⟨pure_under h.1,pure_under h.2⟩
  | .nil,_=>rfl
  | .tup p,h=>pure_under (p:=p) h
  | .ip _,_=>rfl
  | .any,h | .own _ _,h | .map _ _,h | .lp _ _ _,h | .vec _ _ _,h | .vrow _ _,h | .optp _,h | .siter,h | .tbox _ _,h | .fnp _ _ _,h=>by simp [PTy.pure] at h
theorem pure_toks:{p:PTy}→p.pure=true→{a:AVal}→{x:p.El}→{l:List (Nat×Nat)}→p.dec a=some (x,l)→l=[]
  | .dat T,_,a,x,l,h=>by
    simp only [PTy.dec] at h
    split at h
    · simp only [Option.some.injEq,Prod.mk.injEq] at h; exact h.2.symm
    · cases h
  | .fix b,_,a,x,l,h=>by
    simp only [PTy.dec] at h
    cases hb:sameA b a with
    | false=>rw [hb] at h; cases h
    | true=>simp only [hb,cond_true,Option.some.injEq,Prod.mk.injEq] at h; exact h.2.symm
  | .cons p q,hp,a,x,l,h=>by
    simp only [PTy.pure,Bool.and_eq_true] at hp
    cases a with
    | cons a b=>
      simp only [PTy.dec] at h
      split at h
      · rename_i y l1 z l2 h1 h2
        simp only [Option.some.injEq,Prod.mk.injEq] at h
        rw [← h.2,pure_toks hp.1 h1,pure_toks hp.2 h2]; rfl
      · cases h
    | d T w=>
      cases T with
      | cons T U=>
        simp only [PTy.dec] at h
        split at h
        · rename_i y l1 z l2 h1 h2
          simp only [Option.some.injEq,Prod.mk.injEq] at h
          rw [← h.2,pure_toks hp.1 h1,pure_toks hp.2 h2]; rfl
        · cases h
      | _=>simp [PTy.dec] at h
    | _=>simp [PTy.dec] at h
  | .nil,_,a,x,l,h=>by
    cases a with
    | nil=>simp only [PTy.dec,Option.some.injEq,Prod.mk.injEq] at h; exact h.2.symm
    | d T w=>cases T<;>simp [PTy.dec] at h; exact h
    | _=>simp [PTy.dec] at h
  | .tup p,hp,a,x,l,h=>by
    cases a with
    | tuple a=>
      simp only [PTy.dec] at h
      cases hb:p.lst with
      | false=>rw [hb] at h; cases h
      | true=>
        simp only [hb,cond_true] at h
        exact pure_toks (p:=p) hp h
    | _=>simp [PTy.dec] at h
  | .ip T,_,a,x,l,h=>(dec_ip h).2
  | .fnp _ _ _,hp,_,_,_,_ | .tbox _ _,hp,_,_,_,_ | .optp _,hp,_,_,_,_ | .siter,hp,_,_,_,_ | .any,hp,_,_,_,_ | .own _ _,hp,_,_,_,_ | .map _ _,hp,_,_,_,_ | .lp _ _ _,hp,_,_,_,_ | .vec _ _ _,hp,_,_,_,_ | .vrow _ _,hp,_,_,_,_=>by simp [PTy.pure] at hp
def pureS (A:List PTy) (R:PTy):CSpec:=⟨A,[],0,[],0,R⟩
def pureK {X:Type} (A:List PTy) (R:PTy) (f:Els A→Option R.El) (args:List AVal) (B:Bx) (k:AVal→Bx→Option X):Option X:=
  bif args.length==A.length then
    match decs A args with
    | some x=>(f x.1).bind fun r=>k (R.enc r) B
    | none=>none
  else none
theorem enc_pure {G G':Gh} {d d':List Nat} (hi:G'.imm=G.imm):{p:PTy}→p.pure=true→(x:p.El)→(∀ cs,Rc G d (p.enc x) cs→Rc G' d' (p.enc x) cs)∧(∀ vs,Rl G d (p.enc x) vs→Rl G' d' (p.enc x) vs)
  | .dat T,_,x=>⟨fun cs h=>by show RD G'.imm T x cs; rw [hi]; exact h,fun _ h=>h⟩
  | .fix a,h,x=>by
    simp only [PTy.pure,Bool.and_eq_true] at h
    have:=ren0 a h.1 h.2
    exact this
  | .cons p q,h,x=>by
    simp only [PTy.pure,Bool.and_eq_true] at h
    have m1:=enc_pure (d:=d) (d':=d') hi h.1 x.1
    have m2:=enc_pure (d:=d) (d':=d') hi h.2 x.2
    exact ⟨fun cs h=>by
      obtain ⟨c1,c2,rfl,h1,h2⟩:=h
      exact ⟨c1,c2,rfl,m1.1 _ h1,m2.1 _ h2⟩,fun vs h=>by
      obtain ⟨v,l,rfl,⟨cs,hc,hv⟩,hl⟩:=h
      exact ⟨v,l,rfl,⟨cs,m1.1 _ hc,hv⟩,m2.2 _ hl⟩⟩
  | .nil,_,x=>⟨fun _ h=>h,fun _ h=>h⟩
  | .tup p,h,x=>by
    have m1:=enc_pure (p:=p) (d:=d) (d':=d') hi h x
    exact ⟨fun cs h=>by
      obtain ⟨l,rfl,hl⟩:=h
      exact ⟨l,rfl,m1.2 _ hl⟩,fun _ h=>h⟩
  | .ip T,_,x=>⟨fun cs h=>by
      obtain ⟨b,off,row,e,h1,h2,h3⟩:=h
      exact ⟨b,off,row,e,by rw [hi]; exact h1,h2,by rw [hi]; exact h3⟩,fun _ h=>h.elim⟩
  | .fnp _ _ _,h,_ | .tbox _ _,h,_ | .optp _,h,_ | .siter,h,_ | .any,h,_ | .own _ _,h,_ | .map _ _,h,_ | .lp _ _ _,h,_ | .vec _ _ _,h,_ | .vrow _ _,h,_=>by simp [PTy.pure] at h
where
  ren0:(a:AVal)→Abs.under 0 a=true→sameA a a=true→(∀ cs,(Rp G d a).1 cs→(Rp G' d' a).1 cs)∧(∀ vs,(Rp G d a).2 vs→(Rp G' d' a).2 vs)
  | .nil,_,_=>⟨fun _ h=>h,fun _ h=>h⟩
  | .cons a b,hu,hs=>by
    simp only [Abs.under,Bool.and_eq_true] at hu
    simp only [sameA,Bool.and_eq_true] at hs
    have m1:=ren0 a hu.1 hs.1
    have m2:=ren0 b hu.2 hs.2
    exact ⟨fun cs h=>by
      obtain ⟨c1,c2,rfl,h1,h2⟩:=h
      exact ⟨c1,c2,rfl,m1.1 _ h1,m2.1 _ h2⟩,fun vs h=>by
      obtain ⟨v,l,rfl,⟨cs,hc,hv⟩,hl⟩:=h
      exact ⟨v,l,rfl,⟨cs,m1.1 _ hc,hv⟩,m2.2 _ hl⟩⟩
  | .pnil,_,_=>⟨fun _ h=>h,fun _ h=>h⟩
  | .fnil,_,_=>⟨fun _ h=>h,fun _ h=>h⟩
  | .snil,_,_=>⟨fun _ h=>h,fun _ h=>h⟩
  | .pan _,_,_=>⟨fun _ h=>h,fun _ h=>h⟩
  | .mnil,_,_=>⟨fun _ h=>h,fun _ h=>h⟩
  | .mref b,hu,_=>by simp [Abs.under] at hu
  | .yref b,hu,_=>by simp [Abs.under] at hu
  | .inil,_,_=>⟨fun _ h=>h,fun _ h=>h⟩
  | .bptr b p,hu,_=>by simp [Abs.under] at hu
  | .func fn f c,hu,hs=>by
    simp only [Abs.under,Bool.and_eq_true] at hu
    simp only [sameA,Bool.and_eq_true] at hs
    have m1:=ren0 f hu.1 hs.1.2
    have m2:=ren0 c hu.2 hs.2
    exact ⟨fun cs h=>by
      obtain ⟨fv,cv,rfl,h1,h2⟩:=h
      exact ⟨fv,cv,rfl,m1.2 _ h1,m2.2 _ h2⟩,fun _ h=>h⟩
  | .d ..,_,hs | .own ..,_,hs | .iptr ..,_,hs | .iface ..,_,hs | .tuple ..,_,hs | .any,_,hs | .mobj ..,_,hs | .lobj ..,_,hs=>by simp [sameA] at hs
theorem decs_vals {G G':Gh} {dead:List Nat} {l0:List (Nat×Nat)} (hr:ReTok G dead G' 0 l0):{A:List PTy}→{args:List AVal}→{x:Els A}→{l:List (Nat×Nat)}→A.all PTy.pure=true→args.length=A.length→decs A args=some (x,l)→∀ vs,Vals G dead args vs→Vals G' [] (encs A x) vs
  | [],[],_,_,_,_,_,_,.nil=>.nil
  | p::ps,a::az,x,l,hp,hl,h,_,.cons (vs:=vs) hv t=>by
    simp only [List.all_cons,Bool.and_eq_true] at hp
    obtain ⟨y,l1,z,l2,h1,h2,_,he⟩:=decs_cons h
    have e:=pure_toks hp.1 h1
    subst e
    rw [he]
    exact .cons (dec_v hr h1 (under_top (pure_under hp.1)) (fun q hq=>by cases hq) hv) (decs_vals hr hp.2 (by simpa using hl) h2 vs t)
theorem pure_sound {P:Program} {g:FuncId} {A:List PTy} {R:PTy} {f:Els A→Option R.El} (hA:A.all PTy.pure=true) (hR:R.pure=true) (hent:Ent P g)
    (hcall:∀ x r,f x=some r→LCall 0 P g (encs A x) ⟨[],[],0⟩ (R.enc r) ⟨[],[],0⟩)
    {X:Type} {args:List AVal} {B:Bx} {k:AVal→Bx→Option X} {res:X} (h:pureK A R f args B k=some res):∃ r,k (R.enc r) B=some res∧ACall P g args B (R.enc r) B:=by
  unfold pureK at h
  cases hb:args.length==A.length with
  | false=>rw [hb] at h; cases h
  | true=>
    rw [hb] at h
    simp only [cond_true] at h
    have hlen:args.length=A.length:=by simpa using hb
    split at h
    · rename_i x hd
      obtain ⟨x,l⟩:=x
      cases hfx:f x with
      | none=>simp only [hfx] at h; cases h
      | some r=>
        simp only [hfx,Option.bind_some] at h
        refine ⟨r,h,.inr hent,fun G w vs hvs hw=>?_⟩
        let Gn:Gh:={ imm:=G.imm,own:=fun _=>none,addr:=[] }
        have hr:ReTok G B.dead Gn 0 []:=⟨rfl,by simp [Gn],fun k t h=>by cases h⟩
        have hvn:=decs_vals hr hA hlen hd vs hvs
        have hwn:WOk Gn ⟨[],[],0⟩ w:=⟨rfl,List.nodup_nil,fun i b c h=>by simp [Gn] at h,hw.imm,(fun b h=>by cases h),(fun t b n h=>by cases h),(fun t t' b n n' h=>by cases h),fun q hq=>⟨(hw.tab q hq).1,(fun h=>by cases h),(fun t n h=>by cases h)⟩,fun i t T xs h=>by simp at h⟩
        refine ((hcall x r hfx).2 Gn w vs hvn hwn).mono ?_
        rintro e w' ⟨cv,Gc,hend,hcv,hwc,hext,_⟩
        have noown:∀ b t n,Gn.own t≠some (b,n):=fun b t n h=>by cases h
        have hsame:∀ b,b < w.heap.size→Gc.imm b=G.imm b:=fun b hb=>hext.same b hb (noown b)
        have hfr:∀ b,b < w.heap.size→w'.heap[b]?=w.heap[b]?:=fun b hb=>hext.frame b hb (by simp [Gn]) (noown b)
        let Go:Gh:={ G with imm:=Gc.imm }
        have hgle:GLe G B.dead Go B.dead:=⟨hext.imm,List.prefix_refl _,fun _ h=>h,fun t b n _ ho=>⟨ho,fun row hi=>by
          obtain ⟨_,_,cells,e,hh,_⟩:=hw.own t b n ho
          show Gc.imm b=some row
          rw [hsame b (heap_lt hh)]; exact hi⟩⟩
        refine ⟨cv,Go,hend,?_,?_,hgle,?_⟩
        · obtain ⟨cs,h1,h2⟩:=hcv
          exact ⟨cs,(enc_pure (G:=Gc) (G':=Go) rfl hR r).1 cs h1,h2⟩
        · refine ⟨hw.len,hw.nodup,fun i b c hib hc=>?_,hwc.imm,fun b hb=>?_,fun t b n ht=>?_,hw.inj,fun q hq=>⟨(hwc.tab q hq).1,(hw.tab q hq).2⟩,?_⟩
          · have hbo:=hw.boxes i b c hib hc
            obtain ⟨o',cs,k1,_,_⟩:=id hbo
            exact hbo.mono hgle (hfr b (heap_lt k1))
          · show Gc.imm b=none
            rw [hsame b (hw.addr_lt hb)]; exact hw.disj b hb
          · obtain ⟨k1,k2,cells,e,k3,k4⟩:=hw.own t b n ht
            exact ⟨k1,k2.of (hsame b (heap_lt k3)) fun i c e1 e2=>.inr ⟨i,c,e1,e2,fun h=>h⟩,cells,e,by rw [hfr b (heap_lt k3)]; exact k3,k4.1,by show ByR (Gc.imm b) e; rw [hsame b (heap_lt k3)]; exact k4.2⟩
          · refine hw.vec.mono (fun _ _ _ _ hx=>hx) (fun _ h=>.inl h) (fun t b n _ h1 h2=>?_) hext.imm
            obtain ⟨_,_,cells,e,hh,_⟩:=hw.own t b n h1
            exact ⟨h1,by show Gc.imm b=none; rw [hsame b (heap_lt hh)]; exact h2,hfr b (heap_lt hh)⟩
        · exact ⟨hext.os,hext.tape,hext.output,hext.size,fun b hb _ _=>hfr b hb,hext.imm,fun b hb _=>hsame b hb,fun b hb=>.inl hb,fun t b n ht=>.inl ⟨t,ht⟩⟩
    · cases h
end Go.Proofs.YtkeipcalbbmncaaGreat.Abs
set_option linter.unusedVariables false
set_option linter.unusedSimpArgs false
namespace Go.Proofs.YtkeipcalbbmncaaGreat.Abs
def DTy.flat:DTy→Bool
  | .int _=>true
  | .bool=>true
  | .str=>true
  | .list _=>false
  | .nil=>true
  | .cons h t=>h.flat&&t.flat
  | .arr _ e=>e.flat
  | .mapr=>true
  | .opq=>true
theorem RD.flat {imm imm':Nat→Option (List Value)}:{T:DTy}→T.flat=true→{x:T.El}→{cs:List Value}→RD imm T x cs→RD imm' T x cs
  | .int k,_,n,cs,h=>h
  | .bool,_,b,cs,h=>h
  | .str,_,s,cs,h=>h
  | .nil,_,_,cs,h=>h
  | .cons a t,hf,x,cs,h=>by
    simp only [DTy.flat,Bool.and_eq_true] at hf
    obtain ⟨c1,c2,rfl,h1,h2⟩:=h
    exact ⟨c1,c2,rfl,RD.flat hf.1 h1,RD.flat hf.2 h2⟩
  | .arr n e,hf,xs,cs,h=>⟨h.1,h.2.1,fun i x hx=>RD.flat (T:=e) hf (h.2.2 i x hx)⟩
  | .mapr,_,_,cs,h=>h
  | .opq,_,_,cs,h=>h
  | .list e,hf,xs,cs,h=>by simp [DTy.flat] at hf
def PTy.flat:PTy→Bool
  | .dat T=>T.flat
  | .cons h t=>h.flat&&t.flat
  | .nil=>true
  | .tup p=>p.flat
  | _=>false
theorem enc_flat {G G':Gh} {d d':List Nat}:{p:PTy}→p.flat=true→(x:p.El)→(∀ cs,Rc G d (p.enc x) cs→Rc G' d' (p.enc x) cs)∧(∀ vs,Rl G d (p.enc x) vs→Rl G' d' (p.enc x) vs)
  | .dat T,h,x=>⟨fun cs hc=>RD.flat (T:=T) h hc,fun _ h=>h⟩
  | .cons p q,h,x=>by
    simp only [PTy.flat,Bool.and_eq_true] at h
    have m1:=enc_flat (G:=G) (G':=G') (d:=d) (d':=d') h.1 x.1
    have m2:=enc_flat (G:=G) (G':=G') (d:=d) (d':=d') h.2 x.2
    exact ⟨fun cs h=>by
      obtain ⟨c1,c2,rfl,h1,h2⟩:=h
      exact ⟨c1,c2,rfl,m1.1 _ h1,m2.1 _ h2⟩,fun vs h=>by
      obtain ⟨v,l,rfl,⟨cs,hc,hv⟩,hl⟩:=h
      exact ⟨v,l,rfl,⟨cs,m1.1 _ hc,hv⟩,m2.2 _ hl⟩⟩
  | .nil,_,x=>⟨fun _ h=>h,fun _ h=>h⟩
  | .tup p,h,x=>by
    have m1:=enc_flat (p:=p) (G:=G) (G':=G') (d:=d) (d':=d') h x
    exact ⟨fun cs h=>by
      obtain ⟨l,rfl,hl⟩:=h
      exact ⟨l,rfl,m1.2 _ hl⟩,fun _ h=>h⟩
  | .tbox _ _,h,_ | .optp _,h,_ | .siter,h,_ | .fnp _ _ _,h,_ | .any,h,_ | .fix _,h,_ | .own _ _,h,_ | .map _ _,h,_ | .ip _,h,_ | .lp _ _ _,h,_ | .vec _ _ _,h,_ | .vrow _ _,h,_=>by simp [PTy.flat] at h
def thawA (B:Bx):AVal→AVal
  | .vec t b T n=>match B.box[b]? with
    | some (.vrow t' T' xs)=>if h:T'=T then (bif t'==t then .d (.list T) (h ▸ xs) else .vec t b T n) else .vec t b T n
    | _=>.vec t b T n
  | .cons h t=>.cons (thawA B h) (thawA B t)
  | a=>a
theorem thawA_agg {B:Bx} (a:AVal):(thawA B a).agg=a.agg:=by
  cases a with
  | vec t b T n=>
    simp only [thawA]
    split
    · rename_i t' T' xs _
      split
      · rename_i h
        subst h
        cases t'==t<;>rfl
      · rfl
    · rfl
  | _=>rfl
def thawP (B:Bx):AVal→Prop
  | .vec _ b _ n=>∀ t' T' xs,B.box[b]?=some (.vrow t' T' xs)→n=xs.length
  | .cons h t=>thawP B h∧thawP B t
  | _=>True
def thwK {X:Type} (B:Bx):AVal→Option X→Option X
  | .vec _ b _ n,k=>match B.box[b]? with
    | some (.vrow _ _ xs)=>bif decide (n=xs.length) then k else none
    | _=>k
  | .cons h t,k=>thwK B h (thwK B t k)
  | _,k=>k
theorem thwK_spec {X:Type} {B:Bx}:{a:AVal}→{k:Option X}→{r:X}→(thwK B a k=some r↔thawP B a∧k=some r)
  | .vec t b T n,k,r=>by
    simp only [thwK,thawP]
    split
    · rename_i t' T' xs hx
      constructor
      · intro h
        cases hd:decide (n=xs.length) with
        | false=>rw [hd] at h; cases h
        | true=>
          rw [hd] at h
          refine ⟨fun t2 T2 xs2 h2=>?_,h⟩
          rw [hx] at h2
          injection h2 with h2
          injection h2 with e1 e2 e3
          subst e2
          have e3':=eq_of_heq e3
          subst e3'
          exact of_decide_eq_true hd
      · rintro ⟨h1,h2⟩
        rw [show decide (n=xs.length)=true from decide_eq_true (h1 _ _ _ hx)]
        exact h2
    · rename_i hn
      exact ⟨fun h=>⟨fun t' T' xs hx=>absurd hx (hn t' T' xs),h⟩,fun h=>h.2⟩
  | .cons x y,k,r=>by
    simp only [thwK,thawP]
    rw [thwK_spec,thwK_spec,and_assoc]
  | .d ..,k,r | .own ..,k,r | .nil,k,r | .pnil,k,r | .bptr ..,k,r | .iptr ..,k,r | .func ..,k,r | .fnil,k,r | .snil,k,r | .iface ..,k,r | .inil,k,r | .tuple ..,k,r | .any,k,r | .mnil,k,r | .mref _,k,r | .mobj ..,k,r | .yref _,k,r | .lobj ..,k,r | .vptr ..,k,r | .vrow ..,k,r | .optp ..,k,r | .bsl ..,k,r | .siter ..,k,r | .pan ..,k,r | .tbox ..,k,r=>by simp only [thwK,thawP,true_and]
def thwL {X:Type} (B:Bx):List PTy→List AVal→Option X→Option X
  | .dat _::ps,a::az,k=>thwK B a (thwL B ps az k)
  | _::ps,_::az,k=>thwL B ps az k
  | _,_,k=>k
def thwP (B:Bx):List PTy→List AVal→Prop
  | .dat _::ps,a::az=>thawP B a∧thwP B ps az
  | _::ps,_::az=>thwP B ps az
  | _,_=>True
theorem thwL_spec {X:Type} {B:Bx} {k:Option X} {r:X}:{ps:List PTy}→{az:List AVal}→(thwL B ps az k=some r↔thwP B ps az∧k=some r)
  | [],az=>by simp only [thwL,thwP,true_and]
  | p::ps,[]=>by cases p<;>simp only [thwL,thwP,true_and]
  | p::ps,a::az=>by
    cases p with
    | dat T=>
      simp only [thwL,thwP]
      rw [thwK_spec,thwL_spec,and_assoc]
    | _=>
      simp only [thwL,thwP]
      exact thwL_spec
def viewOne (B:Bx):PTy→AVal→AVal
  | .dat _,a=>thawA B a
  | .ip T,.bptr b p=>match B.box[b]? with
    | some c=>match getP c p with
      | some c'=>match asData c' T with
        | some x=>.iptr T x
        | none=>.bptr b p
      | none=>.bptr b p
    | none=>.bptr b p
  | _,a=>a
def viewA (B:Bx):List PTy→List AVal→List AVal
  | p::ps,a::az=>viewOne B p a::viewA B ps az
  | _,az=>az
theorem viewA_len {B:Bx}:{ps:List PTy}→{az:List AVal}→(viewA B ps az).length=az.length
  | [],az=>by cases az<;>rfl
  | p::ps,[]=>rfl
  | p::ps,a::az=>by simp [viewA,viewA_len (ps:=ps) (az:=az)]
def frzG (G:Gh) (w:World):Gh:={ G with imm:=fun b=>match G.imm b with
  | some r=>some r
  | none=>match w.heap[b]? with
    | some (.cells c _ _)=>some c.toList
    | _=>none }
theorem frzG_old {G:Gh} {w:World} {b:Nat} {row:List Value} (h:G.imm b=some row):(frzG G w).imm b=some row:=by
  show (match G.imm b with | some r=>some r | none=>_)=_
  rw [h]
theorem frzG_new {G:Gh} {w:World} {b:Nat} {c:Array Value} {e:TypeId} {fr:Nat×Nat} (h:G.imm b=none) (hh:w.heap[b]?=some (.cells c e fr)):(frzG G w).imm b=some c.toList:=by
  show (match G.imm b with | some r=>some r | none=>_)=_
  rw [h]
  simp only [hh]
theorem frzG_imm {G:Gh} {B:Bx} {w:World} (hw:WOk G B w) {b:Nat} {row:List Value} (h:(frzG G w).imm b=some row):∃ cells e fr,w.heap[b]?=some (.cells cells e fr)∧row <+: cells.toList:=by
  cases hi:G.imm b with
  | some r=>
    rw [frzG_old hi] at h
    cases h
    exact hw.imm b _ hi
  | none=>
    have h':(match G.imm b with | some r=>some r | none=>match w.heap[b]? with | some (.cells c _ _)=>some c.toList | _=>none)=some row:=h
    rw [hi] at h'
    simp only at h'
    split at h'
    · rename_i c e fr hc
      simp only [Option.some.injEq] at h'
      exact ⟨c,e,fr,hc,by rw [h']; exact List.prefix_refl _⟩
    · cases h'
theorem frzG_le {G:Gh} {B:Bx} {w:World} (hw:WOk G B w):GLe G B.dead (frzG G w) B.dead:=
  ⟨fun b row h=>⟨row,frzG_old h,List.prefix_refl _⟩,List.prefix_refl _,fun _ h=>h,fun t b n _ h=>⟨h,fun row h'=>frzG_old h'⟩⟩
theorem thawA_rc {G:Gh} {B:Bx} {w:World} (hw:WOk G B w):(a:AVal)→thawP B a→{cs:List Value}→Rc G B.dead a cs→Rc (frzG G w) B.dead (thawA B a) cs
  | .vec t b T n,hp,cs,h=>by
    have base:=Rc.mono (frzG_le hw) h
    simp only [thawA]
    split
    · rename_i t' T' xs hbox
      split
      · rename_i hT
        subst hT
        have hn:=hp _ _ _ hbox
        cases hb:t'==t with
        | false=>exact base
        | true=>
          have hb':t'=t:=by simpa using hb
          subst hb'
          subst hn
          simp only [cond_true]
          obtain ⟨v1,v2,blk,n',cells,e,w1,w2,w3,w4,w5,w6⟩:=hw.vec b t' T' xs hbox
          obtain ⟨blk',cap,rfl,hor⟩:=h
          rcases hor with hor | ⟨ho,hle⟩
          · exact absurd hor v1
          rw [w1] at ho
          simp only [Option.some.injEq,Prod.mk.injEq] at ho
          obtain ⟨rfl,rfl⟩:=ho
          obtain ⟨r1,r2,r3⟩:=w6
          refine ⟨_,cap,rfl,hle,fun hne=>⟨blk,0,cells.toList,rfl,frzG_new w5 w2,by simp; omega,fun i x hx=>?_⟩⟩
          have hi:i < xs.length:=(List.getElem?_eq_some_iff.1 hx).1
          have:=r3 i x hx
          have hroom:i*T'.sz+T'.sz≤xs.length*T'.sz:=by
            have:=Nat.mul_le_mul_right T'.sz (Nat.succ_le_of_lt hi)
            rw [Nat.succ_mul] at this
            exact this
          rw [List.drop_take,List.take_take,Nat.min_eq_left (by omega)] at this
          rw [Nat.zero_add]
          exact RD.mono (frzG_le hw).imm this
      · exact base
    · exact base
  | .cons a t,hp,cs,h=>by
    obtain ⟨c1,c2,rfl,h1,h2⟩:=h
    exact ⟨c1,c2,rfl,thawA_rc hw a hp.1 h1,thawA_rc hw t hp.2 h2⟩
  | .d ..,hp,cs,h | .own ..,hp,cs,h | .nil,hp,cs,h | .pnil,hp,cs,h | .bptr ..,hp,cs,h | .iptr ..,hp,cs,h | .func ..,hp,cs,h | .fnil,hp,cs,h | .snil,hp,cs,h | .iface ..,hp,cs,h | .inil,hp,cs,h | .tuple ..,hp,cs,h | .any,hp,cs,h | .mnil,hp,cs,h | .mref _,hp,cs,h | .mobj ..,hp,cs,h | .yref _,hp,cs,h | .lobj ..,hp,cs,h | .vptr ..,hp,cs,h | .vrow ..,hp,cs,h | .optp ..,hp,cs,h | .bsl ..,hp,cs,h | .siter ..,hp,cs,h | .pan ..,hp,cs,h | .tbox ..,hp,cs,h=>Rc.mono (frzG_le hw) h
theorem asData_notM {a:AVal} {T:DTy} {x:T.El} (h:asData a T=some x):a.isM=false:=by
  cases a<;>first | rfl | simp [asData] at h
theorem viewOne_v {G:Gh} {B:Bx} {w:World} (hw:WOk G B w) {p:PTy} {a:AVal} {v:Value} (hp:∀ T,p=.dat T→thawP B a) (h:Rv G B.dead a v):Rv (frzG G w) B.dead (viewOne B p a) v:=by
  have hg:=frzG_le hw
  have base:=h.mono hg
  unfold viewOne
  split
  · obtain ⟨cs,h1,h2⟩:=h
    exact ⟨cs,thawA_rc hw _ (hp _ rfl) h1,by rw [thawA_agg]; exact h2⟩
  · rename_i T b q
    split
    · rename_i c hc
      split
      · rename_i c' hc'
        split
        · rename_i x hx
          obtain ⟨blk,hb,hq,rfl⟩:=ptr_form h
          obtain ⟨cells,e,hh,hrc⟩:=(hw.boxes b blk c hb hc).cells (getP_notM hc' (asData_notM hx))
          obtain ⟨hle,hr⟩:=getP_spec hc' hq _ hrc
          have hl:=Rc.len hr
          have hd:=asData_spec hx _ hr
          have hdl:=RD.len hd
          have hmem:blk∈G.addr:=List.mem_of_getElem? hb
          have himm:(frzG G w).imm blk=some cells.toList:=frzG_new (hw.disj blk hmem) hh
          refine leaf_v rfl ⟨blk,offP q,cells.toList,rfl,himm,by omega,?_⟩
          have:T.sz=c'.size:=by omega
          rw [this]
          exact RD.mono hg.imm hd
        · exact base
      · exact base
    · exact base
  · exact base
theorem viewA_vals {G:Gh} {B:Bx} {w:World} (hw:WOk G B w):{ps:List PTy}→{az:List AVal}→{vs:List Value}→thwP B ps az→Vals G B.dead az vs→Vals (frzG G w) B.dead (viewA B ps az) vs
  | _,_,_,_,.nil=>by
    rename_i ps _
    cases ps<;>exact .nil
  | ps,_,_,hp,.cons h t=>by
    cases ps with
    | nil=>exact .cons (h.mono (frzG_le hw)) (by have:=viewA_vals hw (ps:=[]) (by simp only [thwP]) t; rename_i az _; cases az<;>exact this)
    | cons p ps=>cases p with
      | dat T=>exact .cons (viewOne_v hw (fun _ _=>hp.1) h) (viewA_vals hw hp.2 t)
      | _=>exact .cons (viewOne_v hw (fun T hT=>by cases hT) h) (viewA_vals hw (by simpa only [thwP] using hp) t)
def viewK {X:Type} (A:List PTy) (R:PTy) (f:Els A→Option R.El) (args:List AVal) (B:Bx) (k:AVal→Bx→Option X):Option X:=
  bif args.length==A.length then
    thwL B A args (match decs A (viewA B A args) with
    | some x=>(f x.1).bind fun r=>k (R.enc r) B
    | none=>none)
  else none
theorem view_sound {P:Program} {g:FuncId} {A:List PTy} {R:PTy} {f:Els A→Option R.El} (hA:A.all PTy.pure=true) (hR:R.flat=true) (hent:Ent P g)
    (hcall:∀ x r,f x=some r→LCall 0 P g (encs A x) ⟨[],[],0⟩ (R.enc r) ⟨[],[],0⟩)
    {X:Type} {args:List AVal} {B:Bx} {k:AVal→Bx→Option X} {res:X} (h:viewK A R f args B k=some res):∃ r,k (R.enc r) B=some res∧ACall P g args B (R.enc r) B:=by
  unfold viewK at h
  cases hb:args.length==A.length with
  | false=>rw [hb] at h; cases h
  | true=>
    rw [hb] at h
    simp only [cond_true] at h
    have hlen:args.length=A.length:=by simpa using hb
    obtain ⟨hok,h⟩:=thwL_spec.1 h
    split at h
    · rename_i x hd
      obtain ⟨x,l⟩:=x
      cases hfx:f x with
      | none=>simp only [hfx] at h; cases h
      | some r=>
        simp only [hfx,Option.bind_some] at h
        refine ⟨r,h,.inr hent,fun G w vs hvs hw=>?_⟩
        have hvs':=viewA_vals hw (ps:=A) hok hvs
        let Gn:Gh:={ imm:=(frzG G w).imm,own:=fun _=>none,addr:=[] }
        have hr:ReTok (frzG G w) B.dead Gn 0 []:=⟨rfl,by simp [Gn],fun k t h=>by cases h⟩
        have hvn:=decs_vals hr hA (by rw [viewA_len]; exact hlen) hd vs hvs'
        have hwn:WOk Gn ⟨[],[],0⟩ w:=⟨rfl,List.nodup_nil,fun i b c h=>by simp [Gn] at h,fun b row hb=>frzG_imm hw hb,(fun b h=>by cases h),(fun t b n h=>by cases h),(fun t t' b n n' h=>by cases h),fun q hq=>⟨(hw.tab q hq).1,(fun h=>by cases h),(fun t n h=>by cases h)⟩,fun i t T xs h=>by simp at h⟩
        refine ((hcall x r hfx).2 Gn w vs hvn hwn).mono ?_
        rintro e w' ⟨cv,Gc,hend,hcv,hwc,hext,_⟩
        have noown:∀ b t n,Gn.own t≠some (b,n):=fun b t n h=>by cases h
        have hfr:∀ b,b < w.heap.size→w'.heap[b]?=w.heap[b]?:=fun b hb=>hext.frame b hb (by simp [Gn]) (noown b)
        let Go:Gh:={ G with imm:=fun b=>if b < w.heap.size then G.imm b else Gc.imm b }
        have hGs:∀ b,b < w.heap.size→Go.imm b=G.imm b:=fun b hb=>by show (if b < w.heap.size then _ else _)=_; rw [if_pos hb]
        have hGn:∀ b,w.heap.size≤b→Go.imm b=Gc.imm b:=fun b hb=>by show (if b < w.heap.size then _ else _)=_; rw [if_neg (by omega)]
        have ilt:∀ b row,G.imm b=some row→b < w.heap.size:=fun b row hb=>by
          obtain ⟨c,e,fr,h1,_⟩:=hw.imm b row hb
          exact heap_lt h1
        have hle:ImmLe G.imm Go.imm:=fun b row hb=>⟨row,by rw [hGs b (ilt b row hb)]; exact hb,List.prefix_refl _⟩
        have hgle:GLe G B.dead Go B.dead:=⟨hle,List.prefix_refl _,fun _ h=>h,fun t b n _ ho=>⟨ho,fun row hi=>by rw [hGs b (ilt b row hi)]; exact hi⟩⟩
        refine ⟨cv,Go,hend,?_,?_,hgle,?_⟩
        · obtain ⟨cs,h1,h2⟩:=hcv
          exact ⟨cs,(enc_flat (G:=Gc) (G':=Go) hR r).1 cs h1,h2⟩
        · refine ⟨hw.len,hw.nodup,fun i b c hib hc=>?_,fun b row hb=>?_,fun b hb=>by rw [hGs b (hw.addr_lt hb)]; exact hw.disj b hb,fun t b n ht=>?_,hw.inj,fun q hq=>⟨(hwc.tab q hq).1,(hw.tab q hq).2⟩,?_⟩
          · have hbo:=hw.boxes i b c hib hc
            obtain ⟨o',cs,k1,_,_⟩:=id hbo
            exact hbo.mono hgle (hfr b (heap_lt k1))
          · rcases Nat.lt_or_ge b w.heap.size with hlt | hge
            · rw [hGs b hlt] at hb
              obtain ⟨c,e,fr,h1,h2⟩:=hw.imm b row hb
              exact ⟨c,e,fr,by rw [hfr b hlt]; exact h1,h2⟩
            · rw [hGn b hge] at hb
              exact hwc.imm b row hb
          · obtain ⟨k1,k2,cells,e,k3,k4⟩:=hw.own t b n ht
            exact ⟨k1,k2.of (hGs b (heap_lt k3)) fun i c e1 e2=>.inr ⟨i,c,e1,e2,fun h=>h⟩,cells,e,by rw [hfr b (heap_lt k3)]; exact k3,k4.1,by rw [hGs b (heap_lt k3)]; exact k4.2⟩
          · refine hw.vec.mono (fun _ _ _ _ hx=>hx) (fun _ h=>.inl h) (fun t b n _ h1 h2=>?_) hle
            obtain ⟨_,_,cells,e,k3,_⟩:=hw.own t b n h1
            exact ⟨h1,by rw [hGs b (heap_lt k3)]; exact h2,hfr b (heap_lt k3)⟩
        · refine ⟨hext.os,hext.tape,hext.output,hext.size,fun b hb _ _=>hfr b hb,hle,fun b hb _=>hGs b hb,fun b hb=>.inl hb,fun t b n ht=>.inl ⟨t,ht⟩⟩
    · cases h
end Go.Proofs.YtkeipcalbbmncaaGreat.Abs
