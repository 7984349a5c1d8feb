import Derived.Test.YtkeipcalbbmncaaGreatA4
import Derived.Test.YtkeipcalbbmncaaGreatA5
import Derived.KernelRfl
import Derived.Shelf.Abstract
import Derived.Shelf.LaysM
import Derived.Shelf.Strings.OnBuilder
import Derived.Shelf.Strconv.Itoa3
import Derived.TacticsInMore
import Derived.RegionIn
import Derived.LoopNIn
import Derived.RecoverIn
noncomputable section
namespace Go.Proofs.YtkeipcalbbmncaaGreat.Abs
theorem mixed:Tryz.prog.follows .mixedOrders=true:=by kernel_rfl
theorem lvNil (c:Code):LV 0 Tryz.prog false (loopsOf c) []:=by unfold LV; cases loopsOf c<;>trivial
end Go.Proofs.YtkeipcalbbmncaaGreat.Abs
set_option linter.unusedVariables false
set_option linter.unusedSimpArgs false
namespace Go.Proofs
open Go.Shelf
def Tryz.lays156_ren:Go.Shelf.Ren:=⟨fun | 156=>463 | 165=>465 | 166=>466 | 169=>467 | 240=>469 | 241=>470 | 276=>475 | 277=>476 | n=>n,fun | 31=>401 | 9=>9 | 3=>3 | 4=>4 | 0=>0 | 20=>20 | 72=>579 | 76=>582 | 70=>576 | 37=>577 | 75=>581 | 127=>562 | 164=>589 | 5=>5 | 80=>553 | n=>n,fun | n=>n⟩
theorem Tryz.lays156:Go.Proofs.Lays.n156 Tryz.prog Tryz.lays156_ren:={
  mixed:=by kernel_rfl
  f156:=Tryz.func463.trans (congrArg some (by kernel_rfl))
  f165:=Tryz.func465.trans (congrArg some (by kernel_rfl))
  f166:=Tryz.func466.trans (congrArg some (by kernel_rfl))
  f169:=Tryz.func467.trans (congrArg some (by kernel_rfl))
  f240:=Tryz.func469.trans (congrArg some (by kernel_rfl))
  f241:=Tryz.func470.trans (congrArg some (by kernel_rfl))
  f276:=Tryz.func475.trans (congrArg some (by kernel_rfl))
  f277:=Tryz.func476.trans (congrArg some (by kernel_rfl))
  t0:=Tryz.underlying0
  a0:=Tryz.isAgg0
  z0:=Tryz.sizeOf0
  v0:=Tryz.zeroValue0
  t3:=Tryz.underlying3
  a3:=Tryz.isAgg3
  z3:=Tryz.sizeOf3
  v3:=Tryz.zeroValue3
  t4:=Tryz.underlying4
  a4:=Tryz.isAgg4
  z4:=Tryz.sizeOf4
  v4:=Tryz.zeroValue4
  t9:=Tryz.underlying9
  a9:=Tryz.isAgg9
  z9:=Tryz.sizeOf9
  v9:=Tryz.zeroValue9
  t20:=Tryz.underlying20
  a20:=Tryz.isAgg20
  z20:=Tryz.sizeOf20
  v20:=Tryz.zeroValue20
  t31:=Tryz.underlying401
  a31:=Tryz.isAgg401
  z31:=Tryz.sizeOf401
  v31:=Tryz.zeroValue401
  t37:=Tryz.underlying577
  a37:=Tryz.isAgg577
  z37:=Tryz.sizeOf577
  v37:=Tryz.zeroValue577
  t70:=Tryz.underlying576
  a70:=Tryz.isAgg576
  z70:=Tryz.sizeOf576
  v70:=Tryz.zeroValue576
  t72:=Tryz.underlying579
  a72:=Tryz.isAgg579
  z72:=Tryz.sizeOf579
  v72:=Tryz.zeroValue579
  t75:=Tryz.underlying581
  a75:=Tryz.isAgg581
  z75:=Tryz.sizeOf581
  v75:=Tryz.zeroValue581
  t76:=Tryz.underlying582
  a76:=Tryz.isAgg582
  z76:=Tryz.sizeOf582
  v76:=Tryz.zeroValue582
  t127:=Tryz.underlying562
  a127:=Tryz.isAgg562
  z127:=Tryz.sizeOf562
  v127:=Tryz.zeroValue562
  t164:=Tryz.underlying589
  a164:=Tryz.isAgg589
  z164:=Tryz.sizeOf589
  v164:=Tryz.zeroValue589 }
def Tryz.lays171_ren:Go.Shelf.Ren:=⟨fun | 171=>456 | 243=>464 | 246=>468 | 283=>471 | 284=>472 | 285=>473 | 286=>474 | 129=>427 | 317=>477 | 318=>478 | 319=>479 | 320=>480 | 337=>481 | 338=>482 | n=>n,fun | 3=>3 | 9=>9 | 2=>2 | 4=>4 | 171=>585 | 0=>0 | 53=>496 | 37=>577 | 5=>5 | 173=>587 | 212=>593 | 51=>493 | 20=>20 | 213=>594 | 46=>430 | 232=>595 | 233=>596 | n=>n,fun | 17=>0 | 18=>2 | 19=>3 | n=>n⟩
theorem Tryz.lays171:Go.Proofs.Lays.n171 Tryz.prog Tryz.lays171_ren:={
  mixed:=by kernel_rfl
  f129:=Tryz.func427.trans (congrArg some (by kernel_rfl))
  f171:=Tryz.func456.trans (congrArg some (by kernel_rfl))
  f243:=Tryz.func464.trans (congrArg some (by kernel_rfl))
  f246:=Tryz.func468.trans (congrArg some (by kernel_rfl))
  f283:=Tryz.func471.trans (congrArg some (by kernel_rfl))
  f284:=Tryz.func472.trans (congrArg some (by kernel_rfl))
  f285:=Tryz.func473.trans (congrArg some (by kernel_rfl))
  f286:=Tryz.func474.trans (congrArg some (by kernel_rfl))
  f317:=Tryz.func477.trans (congrArg some (by kernel_rfl))
  f318:=Tryz.func478.trans (congrArg some (by kernel_rfl))
  f319:=Tryz.func479.trans (congrArg some (by kernel_rfl))
  f320:=Tryz.func480.trans (congrArg some (by kernel_rfl))
  f337:=Tryz.func481.trans (congrArg some (by kernel_rfl))
  f338:=Tryz.func482.trans (congrArg some (by kernel_rfl))
  t0:=Tryz.underlying0
  a0:=Tryz.isAgg0
  z0:=Tryz.sizeOf0
  v0:=Tryz.zeroValue0
  t2:=Tryz.underlying2
  a2:=Tryz.isAgg2
  z2:=Tryz.sizeOf2
  v2:=Tryz.zeroValue2
  t3:=Tryz.underlying3
  a3:=Tryz.isAgg3
  z3:=Tryz.sizeOf3
  v3:=Tryz.zeroValue3
  t4:=Tryz.underlying4
  a4:=Tryz.isAgg4
  z4:=Tryz.sizeOf4
  v4:=Tryz.zeroValue4
  t5:=Tryz.underlying5
  a5:=Tryz.isAgg5
  z5:=Tryz.sizeOf5
  v5:=Tryz.zeroValue5
  t9:=Tryz.underlying9
  a9:=Tryz.isAgg9
  z9:=Tryz.sizeOf9
  v9:=Tryz.zeroValue9
  t20:=Tryz.underlying20
  a20:=Tryz.isAgg20
  z20:=Tryz.sizeOf20
  v20:=Tryz.zeroValue20
  t37:=Tryz.underlying577
  a37:=Tryz.isAgg577
  z37:=Tryz.sizeOf577
  v37:=Tryz.zeroValue577
  t46:=Tryz.underlying430
  a46:=Tryz.isAgg430
  z46:=Tryz.sizeOf430
  v46:=Tryz.zeroValue430
  t51:=Tryz.underlying493
  a51:=Tryz.isAgg493
  z51:=Tryz.sizeOf493
  v51:=Tryz.zeroValue493
  t53:=Tryz.underlying496
  a53:=Tryz.isAgg496
  z53:=Tryz.sizeOf496
  v53:=Tryz.zeroValue496
  t171:=Tryz.underlying585
  a171:=Tryz.isAgg585
  z171:=Tryz.sizeOf585
  v171:=Tryz.zeroValue585
  t173:=Tryz.underlying587
  a173:=Tryz.isAgg587
  z173:=Tryz.sizeOf587
  v173:=Tryz.zeroValue587
  t212:=Tryz.underlying593
  a212:=Tryz.isAgg593
  z212:=Tryz.sizeOf593
  v212:=Tryz.zeroValue593
  t213:=Tryz.underlying594
  a213:=Tryz.isAgg594
  z213:=Tryz.sizeOf594
  t232:=Tryz.underlying595
  a232:=Tryz.isAgg595
  z232:=Tryz.sizeOf595
  v232:=Tryz.zeroValue595
  t233:=Tryz.underlying596
  a233:=Tryz.isAgg596
  z233:=Tryz.sizeOf596
  v233:=Tryz.zeroValue596
  g17:=by kernel_rfl
  g18:=by kernel_rfl
  g19:=by kernel_rfl }
theorem Tryz.Builder_Extra_156:Builder.Extra Tryz.prog Tryz.lays156_ren:={
  sizeBuilder:=by kernel_rfl
  liesBuilder:=by kernel_rfl
  t5:=Tryz.underlying5
  a5:=Tryz.isAgg5
  z5:=Tryz.sizeOf5
  v5:=Tryz.zeroValue5
  infoByte:=by kernel_rfl
  cellsByte:=by kernel_rfl
  sizeByte:=by kernel_rfl
  neB5:=by decide }
end Go.Proofs
set_option maxRecDepth 100000
namespace Go.Proofs.YtkeipcalbbmncaaGreat.Abs
open Go.Shelf Go.RowKit Go.Sort
def itoaM (n:Int):Option ByteArray:=bif decide (0≤n)&&decide (n < 100) then some ⟨(Lib.decDigits (Int.toNat n)).toArray⟩ else none
def itoaM_E:CEnt:=pureE 456 [.dat (.int .i64)] (.dat .str) fun x=>itoaM x.1
theorem itoaM_valid:itoaM_E.Valid Tryz.prog:=by
  have hent:Ent Tryz.prog 456:=⟨by decide,enters_of Tryz.func456 (by kernel_rfl) rfl⟩
  refine pureE_valid (by kernel_rfl) (by kernel_rfl) hent (fun x r h=>⟨.inr hent,fun G w vs hvs hw=>Run.call hent.1 ?_⟩)
  unfold itoaM at h
  cases hb:decide (0≤x.1)&&decide (x.1 < 100) with
  | false=>rw [hb] at h; cases h
  | true=>
    rw [hb] at h
    simp only [cond_true,Option.some.injEq] at h
    simp only [Bool.and_eq_true,decide_eq_true_eq] at hb
    cases hvs with
    | cons hv t=>
      cases t
      have hvv:=int_form hv
      subst hvv
      obtain ⟨n,u⟩:=x
      obtain ⟨i,hi⟩:=Int.eq_ofNat_of_zero_le (a:=(n:Int)) hb.1
      have hi2:(i:Int) < 100:=hi ▸ (hb.2:(n:Int) < 100)
      have hi':n=(i:Int):=hi
      subst hi'
      have hc:Calls Tryz.prog 456 #[.int .i64 (i:Int)] w _:=Any.strconv_Itoa_small Tryz.lays171 i (Int.ofNat_lt.1 hi2) w
      refine hc.mono ?_
      rintro e w' ⟨rfl,rfl⟩
      subst h
      exact ⟨_,G,rfl,leaf_v rfl rfl,hw,Ext.refl G _,fun i b _ hb=>hb⟩
theorem grew_below {w w':World} (h:Below w.heap.size w w'):Grew w w':=⟨h.os,h.tape,h.output,h.size,fun b hb=>h.block b hb⟩
def joinM (xs:List ByteArray) (sep:ByteArray):Option ByteArray:=
  bif decide (xs.length≤LIM)&&decide ((Lib.join (xs.map (·.data.toList)) sep.data.toList).length≤LIM) then some ⟨(Lib.join (xs.map (·.data.toList)) sep.data.toList).toArray⟩ else none
def joinM_E:CEnt:=pureE 463 [.dat (.list .str),.dat .str] (.dat .str) fun x=>joinM x.1 x.2.1
theorem joinM_valid:joinM_E.Valid Tryz.prog:=by
  have hent:Ent Tryz.prog 463:=⟨by decide,enters_of Tryz.func463 (by kernel_rfl) rfl⟩
  refine pureE_valid (by kernel_rfl) (by kernel_rfl) hent (fun x r h=>⟨.inr hent,fun G w vs hvs hw=>Run.call hent.1 ?_⟩)
  obtain ⟨xs,sep,u⟩:=x
  unfold joinM at h
  cases hb:decide ((xs:List ByteArray).length≤LIM)&&decide ((Lib.join (List.map (fun x:ByteArray=>x.data.toList) xs) (ByteArray.data sep).toList).length≤LIM) with
  | false=>rw [hb] at h; cases h
  | true=>
    rw [hb] at h
    simp only [cond_true,Option.some.injEq] at h
    simp only [Bool.and_eq_true,decide_eq_true_eq] at hb
    have b1:(xs:List ByteArray).length≤2^36:=hb.1
    have b2:(Lib.join (List.map (fun x:ByteArray=>x.data.toList) xs) (ByteArray.data sep).toList).length≤2^36:=hb.2
    cases hvs with
    | cons hv t=>
      cases t with
      | cons hs t=>
        cases t
        have hs':=str_form hs
        subst hs'
        obtain ⟨A,cap,rfl,hr⟩:=list_form hv
        obtain ⟨A',cap',e1,hcap,hq⟩:=hr
        simp only [List.cons.injEq,Value.slice.injEq,and_true,true_and] at e1
        obtain ⟨rfl,rfl⟩:=e1
        have fin:∀ e w',e=.returned (.string ⟨(Lib.join (List.map (fun x:ByteArray=>x.data.toList) xs) (ByteArray.data sep).toList).toArray⟩)→Grew w w'→∃ cv G',e=Ending.returned cv∧Rv G' [] (.d .str r) cv∧WOk G' ⟨[],[],0⟩ w'∧Ext G w G' w'∧∀ i b,i < 0→G.addr[i]?=some b→G'.addr[i]?=some b:=fun e w' he hg=>by
          subst h
          exact ⟨_,G,he,leaf_v rfl rfl,hw.grew hg,hg.ext G,fun i b _ hb=>hb⟩
        by_cases hne:xs=[]
        · subst hne
          refine (Any.strings_Join_none (P:=Tryz.prog) Tryz.lays156 Tryz.Builder_Extra_156 A cap sep w).mono ?_
          rintro e w' ⟨rfl,rfl⟩
          exact fin _ _ rfl (Grew.refl _)
        · obtain ⟨b,off,row,rfl,k1,k2,k3⟩:=hq hne
          obtain ⟨cells,et,fr,k4,k5⟩:=hw.imm b row k1
          refine (Any.strings_Join (P:=Tryz.prog) Tryz.lays156 Tryz.Builder_Extra_156 b off cap xs sep w (fun j x hj=>?_) (heap_lt k4) (by omega) hcap (by omega)).mono ?_
          · have h1:=k3 j x hj
            have h2:(row.drop (off+j*1)).take 1=[.string x]:=h1
            have hjl:j < List.length xs:=(List.getElem?_eq_some_iff.1 hj).1
            have k2':off+List.length xs*1≤row.length:=k2
            have hlt:off+j < row.length:=by omega
            have h3:row[off+j]?=some (.string x):=by
              have:((row.drop (off+j*1)).take 1)[0]?=some (.string x):=by rw [h2]; rfl
              rw [List.getElem?_take_of_lt (by decide),List.getElem?_drop] at this
              simpa using this
            rw [cell_of_heap k4,← Array.getElem?_toList]
            exact prefix_getElem? k5 h3
          · rintro e w' ⟨rfl,hb⟩
            exact fin _ _ rfl (grew_below hb)
end Go.Proofs.YtkeipcalbbmncaaGreat.Abs
set_option linter.unusedVariables false
set_option linter.unusedSimpArgs false
set_option maxRecDepth 100000
namespace Go.Proofs.YtkeipcalbbmncaaGreat.Abs
open Go.Shelf Go.RowKit
theorem clo337_idle (a0 a1:Value) (w:World):CallsDIn Fence.wide 0 Tryz.prog 337 #[a0,a1] .returning w fun e u' w'=>(∃ v,e=.returned v)∧u'=.returning∧w'=w:=by
  have mixed:Tryz.prog.follows .mixedOrders=true:=by kernel_rfl
  have t20:=Tryz.underlying20; have a20:=Tryz.isAgg20; have z20:=Tryz.sizeOf20; have u20:=run_underlying Tryz.underlying20
  refine callsDIn_of_wpSIn Tryz.func337 rfl trivial fun c₀ cs hu=>?_
  apply wpSIn_seq
  apply wpSIn_region
  simp [wpOpsSIn,go_sem,recoverD,hu,Tryz.ntmps337,Exit.thenS]
  refine wpSIn_of_wpIn rfl ?_
  gi_wp2
  cases c₀
  simp_all [bodyPostS,results,Tryz.results337]
def clo337R:Code:=seqR (conL (seqR (conR (seqR (blkC (seqR (bodyOf Tryz.f337)))))))
set_option maxHeartbeats 1000000 in
theorem clo337_pan (s:Value) (hs:opqV s=true) (a0 a1:Value) (w:World) (R:World→Prop)
    (hR:∀ (tm:Array Value) (w1:World),tm.size=13→tm[0]?=some a0→tm[1]?=some a1→tm[3]?=some (.pointer (some ⟨w.heap.size,0,none⟩))→w1=w.alloc (.cells #[s] 449)→clo337R.wpIn Fence.wide 0 Tryz.prog (fun e a' w'=>e=.normal∧a'.defers=[]∧R w') { tmps:=tm,defers:=[] } w1) :
    CallsDIn Fence.wide 0 Tryz.prog 337 #[a0,a1] (.panicking [{ v:=.iface 449 (.agg #[s]),recovered:=false }]) w fun e u' w'=>(∃ v,e=.returned v)∧u'=.panicking [{ v:=.iface 449 (.agg #[s]),recovered:=true }]∧R w':=by
  have mixed:Tryz.prog.follows .mixedOrders=true:=by kernel_rfl
  have t20:=Tryz.underlying20; have a20:=Tryz.isAgg20; have z20:=Tryz.sizeOf20; have u20:=run_underlying Tryz.underlying20
  have t449:=Tryz.underlying449; have a449:=Tryz.isAgg449; have z449:=Tryz.sizeOf449; have u449:=run_underlying Tryz.underlying449; have v449:=Tryz.zeroValue449
  refine callsDIn_of_wpSIn Tryz.func337 rfl trivial fun c₀ cs hu=>?_
  apply wpSIn_seq
  apply wpSIn_region
  simp [wpOpsSIn,go_sem,recoverD,hu,Tryz.ntmps337,Exit.thenS]
  refine wpSIn_of_wpIn rfl ?_
  conv in (Code.region 7 _ _)=>change clo337R
  generalize clo337R=r7 at hR ⊢
  have st:∀ w a m,(store a s m).run Tryz.prog w=stored Tryz.prog w a s m:=fun w a m=>run_store _ w a s m (opqV_one hs)
  have ta:∀ v w,(Instr.typeAssert (.iface 449 v) 20 449 true).run Tryz.prog w=.ok (.tuple #[v,.bool true]) w:=by
    intro v w
    unfold Instr.typeAssert
    simp [Sem.run_bind,u449]
  gi_wp2
  refine wpIn_mono (hR _ _ ?_ ?_ ?_ ?_ rfl) ?_
  · simp
  · simp
  · simp
  · simp
  rintro e a' w' ⟨rfl,hd,hR'⟩
  refine ⟨hd,_,rfl,.tuple #[],?_,⟨_,rfl⟩,rfl,hR'⟩
  simp [results,Tryz.results337]
def clo337Ops:Array Oper:=match clo337R with
  | .region _ ops _=>ops
  | _=>#[]
theorem clo337R_is:clo337R=.region 7 clo337Ops false:=by kernel_rfl
theorem clo337_ok:CloX Tryz.prog 337 (.region 7 clo337Ops false) 449 2 13 3:=by
  have three:∀ vs:Array Value,vs.size=2→∃ a0 a1,vs=#[a0,a1]:=fun vs h=>by
    obtain ⟨l⟩:=vs
    match l,h with
    | [a0,a1],_=>exact ⟨a0,a1,rfl⟩
  refine ⟨⟨by decide,enters_of Tryz.func337 (by kernel_rfl) rfl⟩,fun vs w hs=>?_,fun s vs w R hs hR=>?_⟩
  · obtain ⟨a0,a1,rfl⟩:=three vs hs
    exact clo337_idle a0 a1 w
  · obtain ⟨a0,a1,rfl⟩:=three vs hs
    refine clo337_pan (lfV s) (lfV_opq s) a0 a1 w R fun tm w1 h1 h2a0 h2a1 hj h5=>?_
    rw [clo337R_is]
    refine hR tm w1 _ h1 (fun i hi=>?_) hj h5
    match i,hi with
    | 0,_=>exact h2a0
    | 1,_=>exact h2a1
def clo337D:CloD:=⟨337,7,clo337Ops,449,2,13,3⟩
theorem clo389_idle (a0:Value) (w:World):CallsDIn Fence.wide 0 Tryz.prog 389 #[a0] .returning w fun e u' w'=>(∃ v,e=.returned v)∧u'=.returning∧w'=w:=by
  have mixed:Tryz.prog.follows .mixedOrders=true:=by kernel_rfl
  have t20:=Tryz.underlying20; have a20:=Tryz.isAgg20; have z20:=Tryz.sizeOf20; have u20:=run_underlying Tryz.underlying20
  refine callsDIn_of_wpSIn Tryz.func389 rfl trivial fun c₀ cs hu=>?_
  apply wpSIn_seq
  apply wpSIn_region
  simp [wpOpsSIn,go_sem,recoverD,hu,Tryz.ntmps389,Exit.thenS]
  refine wpSIn_of_wpIn rfl ?_
  gi_wp2
  cases c₀
  simp_all [bodyPostS,results,Tryz.results389]
def clo389R:Code:=seqR (conL (seqR (conR (seqR (blkC (seqR (bodyOf Tryz.f389)))))))
set_option maxHeartbeats 1000000 in
theorem clo389_pan (s:Value) (hs:opqV s=true) (a0:Value) (w:World) (R:World→Prop)
    (hR:∀ (tm:Array Value) (w1:World),tm.size=10→tm[0]?=some a0→tm[2]?=some (.pointer (some ⟨w.heap.size,0,none⟩))→w1=w.alloc (.cells #[s] 507)→clo389R.wpIn Fence.wide 0 Tryz.prog (fun e a' w'=>e=.normal∧a'.defers=[]∧R w') { tmps:=tm,defers:=[] } w1) :
    CallsDIn Fence.wide 0 Tryz.prog 389 #[a0] (.panicking [{ v:=.iface 507 (.agg #[s]),recovered:=false }]) w fun e u' w'=>(∃ v,e=.returned v)∧u'=.panicking [{ v:=.iface 507 (.agg #[s]),recovered:=true }]∧R w':=by
  have mixed:Tryz.prog.follows .mixedOrders=true:=by kernel_rfl
  have t20:=Tryz.underlying20; have a20:=Tryz.isAgg20; have z20:=Tryz.sizeOf20; have u20:=run_underlying Tryz.underlying20
  have t507:=Tryz.underlying507; have a507:=Tryz.isAgg507; have z507:=Tryz.sizeOf507; have u507:=run_underlying Tryz.underlying507; have v507:=Tryz.zeroValue507
  refine callsDIn_of_wpSIn Tryz.func389 rfl trivial fun c₀ cs hu=>?_
  apply wpSIn_seq
  apply wpSIn_region
  simp [wpOpsSIn,go_sem,recoverD,hu,Tryz.ntmps389,Exit.thenS]
  refine wpSIn_of_wpIn rfl ?_
  conv in (Code.region 7 _ _)=>change clo389R
  generalize clo389R=r7 at hR ⊢
  have st:∀ w a m,(store a s m).run Tryz.prog w=stored Tryz.prog w a s m:=fun w a m=>run_store _ w a s m (opqV_one hs)
  have ta:∀ v w,(Instr.typeAssert (.iface 507 v) 20 507 true).run Tryz.prog w=.ok (.tuple #[v,.bool true]) w:=by
    intro v w
    unfold Instr.typeAssert
    simp [Sem.run_bind,u507]
  gi_wp2
  refine wpIn_mono (hR _ _ ?_ ?_ ?_ rfl) ?_
  · simp
  · simp
  · simp
  rintro e a' w' ⟨rfl,hd,hR'⟩
  refine ⟨hd,_,rfl,.tuple #[],?_,⟨_,rfl⟩,rfl,hR'⟩
  simp [results,Tryz.results389]
def clo389Ops:Array Oper:=match clo389R with
  | .region _ ops _=>ops
  | _=>#[]
theorem clo389R_is:clo389R=.region 7 clo389Ops false:=by kernel_rfl
theorem clo389_ok:CloX Tryz.prog 389 (.region 7 clo389Ops false) 507 1 10 2:=by
  have three:∀ vs:Array Value,vs.size=1→∃ a0,vs=#[a0]:=fun vs h=>by
    obtain ⟨l⟩:=vs
    match l,h with
    | [a0],_=>exact ⟨a0,rfl⟩
  refine ⟨⟨by decide,enters_of Tryz.func389 (by kernel_rfl) rfl⟩,fun vs w hs=>?_,fun s vs w R hs hR=>?_⟩
  · obtain ⟨a0,rfl⟩:=three vs hs
    exact clo389_idle a0 w
  · obtain ⟨a0,rfl⟩:=three vs hs
    refine clo389_pan (lfV s) (lfV_opq s) a0 w R fun tm w1 h1 h2a0 hj h5=>?_
    rw [clo389R_is]
    refine hR tm w1 _ h1 (fun i hi=>?_) hj h5
    match i,hi with
    | 0,_=>exact h2a0
def clo389D:CloD:=⟨389,7,clo389Ops,507,1,10,2⟩
end Go.Proofs.YtkeipcalbbmncaaGreat.Abs
end
