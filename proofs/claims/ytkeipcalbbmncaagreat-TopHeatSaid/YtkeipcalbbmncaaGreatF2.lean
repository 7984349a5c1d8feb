import Derived.Test.YtkeipcalbbmncaaGreatF1
noncomputable section
set_option linter.unusedVariables false
set_option maxRecDepth 100000
namespace Go.Proofs.YtkeipcalbbmncaaGreat.Abs
open Go.Shelf
def G68_C:CalT:=tabC [G183_E]
theorem G68_CV:CV Tryz.prog G68_C:=tabC_valid (l:=_) ⟨G183_valid,trivial⟩
def G68_l0_c:Code:=loopAt (bodyOf Tryz.f68) 0
def G68_l0_S:SPat:=⟨[.dat (.int .i64),.dat (.int .i64),.any,.any,.any,.any,.any,.any,.any,.fix (.func (.func 183) .nil (.cons (.bptr 5 []) (.cons (.bptr 3 []) .nil)))]++List.replicate 22 PTy.any,[.dat T25,.dat (.list T73),.dat (.int .i64),.fix (.func (.func 222) .nil (.cons (.bptr 0 []) (.cons (.bptr 1 []) (.cons (.bptr 2 []) .nil)))),.map (.int .i64) .bool,.fix (.mref 4)],0⟩
abbrev TY14:Type:=((Int×(Int×Unit))×(E25×((List E73)×(Int×((List (Int×Bool))×Unit)))))
abbrev TY15:Type:=(Nat×((Int×(Int×Unit))×(E25×((List E73)×(Int×((List (Int×Bool))×Unit))))))
def G68_l0_step (s:TY14):Option TY15:=(bif (decide (s.1.1≥s.1.2.1)) then some (1,((s.1.1,(s.1.2.1,())),(s.2.1,(s.2.2.1,(s.2.2.2.1,(s.2.2.2.2.1,())))))) else (Option.bind (G183 (IntKind.wrap .i64 (s.1.1+(IntKind.wrap .i64 (Int.tdiv (IntKind.wrap .i64 (s.1.2.1 - s.1.1)) 2)))) s.2.2.2.2.1 s.2.1 s.2.2.1 s.2.2.2.1) fun r1=>(bif r1.1 then some (0,((s.1.1,((IntKind.wrap .i64 (s.1.1+(IntKind.wrap .i64 (Int.tdiv (IntKind.wrap .i64 (s.1.2.1 - s.1.1)) 2)))),())),(r1.2.2.1,(r1.2.2.2.1,(r1.2.2.2.2.1,(r1.2.1,())))))) else some (0,(((IntKind.wrap .i64 ((IntKind.wrap .i64 (s.1.1+(IntKind.wrap .i64 (Int.tdiv (IntKind.wrap .i64 (s.1.2.1 - s.1.1)) 2))))+1)),(s.1.2.1,())),(r1.2.2.1,(r1.2.2.2.1,(r1.2.2.2.2.1,(r1.2.1,())))))))))
def G68_l0_fuel (s:TY14):Nat:=100000
def G68_l0_run (s:TY14):Option TY15:=iter G68_l0_step (G68_l0_fuel s) s
def G68_l0_L:LoopT:=loopT G68_l0_S [.exit 0] G68_l0_run
def G68 (a0:Int) (a1:Int) (b2:E25) (b3:(List E73)) (b4:Int):Option ((Int×(Bool×Unit))×(E25×((List E73)×(Int×Unit)))):=(Option.bind (G68_l0_run ((a0,(a1,())),(b2,(b3,(b4,(([]:List (Int×Bool)),())))))) fun q2=>(Option.bind (G183 q2.2.1.1 q2.2.2.2.2.2.1 q2.2.2.1 q2.2.2.2.1 q2.2.2.2.2.1) fun r3=>some ((q2.2.1.1,(r3.1,())),(r3.2.2.1,(r3.2.2.2.1,(r3.2.2.2.2.1,()))))))
abbrev G68_CS:CSpec:=⟨[.dat (.int .i64),.dat (.int .i64),.fix (.func (.func 222) .nil (.cons (.bptr 0 []) (.cons (.bptr 1 []) (.cons (.bptr 2 []) .nil))))],[.dat T25,.dat (.list T73),.dat (.int .i64)],0,[.dat T25,.dat (.list T73),.dat (.int .i64)],0,.tup (.cons (.dat (.int .i64)) (.cons (.dat .bool) (.nil)))⟩
def G68_E:CEnt:=boxE 68 G68_CS fun x=>G68 x.1.1 x.1.2.1 x.2.1 x.2.2.1 x.2.2.2.1
theorem G68_l0_V:LValid 3 Tryz.prog (.loop G68_l0_c) G68_l0_L false:=by
  have hb:∀ s,codeR Tryz.prog G68_C G68_l0_c [] (G68_l0_S.encE s) (G68_l0_S.encB s) (kst G68_l0_S [.exit 0])=G68_l0_step s:=by
    intro s; kernel_rfl
  have hL:LV 3 Tryz.prog false (loopsOf G68_l0_c) []:=by unfold LV; cases loopsOf G68_l0_c<;>trivial
  exact loopT_valid (fuel:=G68_l0_fuel) mixed G68_CV hL (by kernel_rfl) (by decide) rfl hb (fun s r h=>h)
theorem G68_LV:LV 3 Tryz.prog false (loopsOf (bodyOf Tryz.f68)) [G68_l0_L]:=by
  have hl:loopsOf (bodyOf Tryz.f68)=[.loop G68_l0_c]:=by kernel_rfl
  rw [hl]; exact ⟨G68_l0_V,trivial⟩
theorem G68_ent:Ent Tryz.prog 68:=⟨by decide,enters_of Tryz.func68 (by kernel_rfl) rfl⟩
theorem G68_hev:∀ x:G68_CS.In,fnR Tryz.prog G68_C [G68_l0_L] Tryz.f68 (bodyOf Tryz.f68) (encs G68_CS.A x.1) ⟨encs G68_CS.I x.2,[],G68_CS.nt⟩ (finK G68_CS)=G68 x.1.1 x.1.2.1 x.2.1 x.2.2.1 x.2.2.2.1:=by
  intro x; kernel_rfl
theorem G68_valid:G68_E.Valid Tryz.prog:=
  boxE_valid (S:=G68_CS) (by kernel_rfl) (.inr G68_ent) (fn_lcall (S:=G68_CS) mixed Tryz.func68 rfl G68_ent G68_CV G68_LV (by kernel_rfl) (by kernel_rfl) G68_hev)
def G114_C:CalT:=tabC [G64_E,G63_E,G68_E]
theorem G114_CV:CV Tryz.prog G114_C:=tabC_valid (l:=_) ⟨G64_valid,G63_valid,G68_valid,trivial⟩
def G114 (a0:E25) (a1:(List E73)) (a2:Int):Option (Int×(Int×Unit)):=(Option.bind (G64 a2) fun r1=>(Option.bind (G63 a0 a1 r1) fun r2=>(bif (r2 != 0) then some (0,(r2,())) else (Option.bind (G68 0 1000000 a0 a1 a2) fun r3=>(bif (!r3.1.2.1) then some (0,(5,())) else some (r3.1.1,(0,())))))))
def G114_E:CEnt:=pureE 114 [.dat T25,.dat (.list T73),.dat (.int .i64)] (.tup (.cons (.dat (.int .i64)) (.cons (.dat (.int .i64)) (.nil)))) fun x=>G114 x.1 x.2.1 x.2.2.1
theorem G114_LV:LV 0 Tryz.prog false (loopsOf (bodyOf Tryz.f114)) []:=by unfold LV; cases loopsOf (bodyOf Tryz.f114)<;>trivial
theorem G114_ent:Ent Tryz.prog 114:=⟨by decide,enters_of Tryz.func114 (by kernel_rfl) rfl⟩
theorem G114_hev:∀ x,fnR Tryz.prog G114_C [] Tryz.f114 (bodyOf Tryz.f114) (encs [.dat T25,.dat (.list T73),.dat (.int .i64)] x) ⟨[],[],0⟩ (frzF (.tup (.cons (.dat (.int .i64)) (.cons (.dat (.int .i64)) (.nil)))))=G114 x.1 x.2.1 x.2.2.1:=by
  intro x; kernel_rfl
theorem G114_valid:G114_E.Valid Tryz.prog:=
  pureE_valid (by kernel_rfl) (by kernel_rfl) G114_ent (frz_lcall mixed Tryz.func114 rfl G114_ent G114_CV G114_LV (by kernel_rfl) (by kernel_rfl) G114_hev)
def G223_C:CalT:=tabC []
theorem G223_CV:CV Tryz.prog G223_C:=tabC_valid (l:=_) trivial
def G223 (a0:Int) (a1:Int):Option E23:=some (a0,(a1,()))
def G223_E:CEnt:=pureE 223 [.dat (.int .i64),.dat (.int .i64)] (.dat T23) fun x=>G223 x.1 x.2.1
theorem G223_LV:LV 0 Tryz.prog false (loopsOf (bodyOf Tryz.f223)) []:=by unfold LV; cases loopsOf (bodyOf Tryz.f223)<;>trivial
theorem G223_ent:Ent Tryz.prog 223:=⟨by decide,enters_of Tryz.func223 (by kernel_rfl) rfl⟩
theorem G223_hev:∀ x,fnR Tryz.prog G223_C [] Tryz.f223 (bodyOf Tryz.f223) (encs [.dat (.int .i64),.dat (.int .i64)] x) ⟨[],[],0⟩ (frzF (.dat T23))=G223 x.1 x.2.1:=by
  intro x; kernel_rfl
theorem G223_valid:G223_E.Valid Tryz.prog:=
  pureE_valid (by kernel_rfl) (by kernel_rfl) G223_ent (frz_lcall mixed Tryz.func223 rfl G223_ent G223_CV G223_LV (by kernel_rfl) (by kernel_rfl) G223_hev)
def G115_C:CalT:=tabC [G223_E]
theorem G115_CV:CV Tryz.prog G115_C:=tabC_valid (l:=_) ⟨G223_valid,trivial⟩
def G115:Option E25:=(Option.bind (G223 100 120) fun r1=>(Option.bind (G223 200 300) fun r2=>(Option.bind (G223 0 2000) fun r3=>some ([(500,(r1,())),(1000,(r2,()))],(r3,())))))
def G115_E:CEnt:=pureE 115 [] (.dat T25) fun x=>G115
theorem G115_LV:LV 0 Tryz.prog false (loopsOf (bodyOf Tryz.f115)) []:=by unfold LV; cases loopsOf (bodyOf Tryz.f115)<;>trivial
theorem G115_ent:Ent Tryz.prog 115:=⟨by decide,enters_of Tryz.func115 (by kernel_rfl) rfl⟩
theorem G115_hev:∀ x,fnR Tryz.prog G115_C [] Tryz.f115 (bodyOf Tryz.f115) (encs [] x) ⟨[],[],0⟩ (frzF (.dat T25))=G115:=by
  intro x; kernel_rfl
theorem G115_valid:G115_E.Valid Tryz.prog:=
  pureE_valid (by kernel_rfl) (by kernel_rfl) G115_ent (frz_lcall mixed Tryz.func115 rfl G115_ent G115_CV G115_LV (by kernel_rfl) (by kernel_rfl) G115_hev)
def G116_C:CalT:=tabC [G223_E]
theorem G116_CV:CV Tryz.prog G116_C:=tabC_valid (l:=_) ⟨G223_valid,trivial⟩
def G116_l0_c:Code:=loopAt (bodyOf Tryz.f116) 0
def G116_l0_S:SPat:=⟨[.dat (.int .i64),.any,.any,.own 0 T73,.dat (.int .i64),.any,.any,.any,.any,.any,.any,.any,.any,.any,.any,.any,.any,.any],[],1⟩
def G116_l0_step (s:((Int×((List E73)×(Int×Unit)))×Unit)):Option (Nat×((Int×((List E73)×(Int×Unit)))×Unit)):=(bif (decide (s.1.2.2.1 < s.1.1)) then (Option.bind (G223 60000 70000) fun r1=>(Option.bind (G223 50000 90000) fun r2=>(Option.bind (G223 100 300) fun r3=>(bif (decide (List.length s.1.2.1+List.length [(r1,(r2,(r3,())))]≤LIM)) then some (0,((s.1.1,((s.1.2.1++[(r1,(r2,(r3,())))]),((IntKind.wrap .i64 (s.1.2.2.1+1)),()))),())) else none)))) else some (1,((s.1.1,(s.1.2.1,(s.1.2.2.1,()))),())))
def G116_l0_fuel (s:((Int×((List E73)×(Int×Unit)))×Unit)):Nat:=Int.toNat (s.1.1 - s.1.2.2.1)+1
def G116_l0_run (s:((Int×((List E73)×(Int×Unit)))×Unit)):Option (Nat×((Int×((List E73)×(Int×Unit)))×Unit)):=iter G116_l0_step (G116_l0_fuel s) s
def G116_l0_L:LoopT:=loopT G116_l0_S [.exit 0] G116_l0_run
def G116 (a0:Int):Option (List E73):=(Option.bind (G116_l0_run ((a0,([],(0,()))),())) fun q4=>some q4.2.1.2.1)
def G116_E:CEnt:=pureE 116 [.dat (.int .i64)] (.dat (.list T73)) fun x=>G116 x.1
theorem G116_l0_V:LValid 0 Tryz.prog (.loop G116_l0_c) G116_l0_L false:=by
  exact loopT_valid (fuel:=G116_l0_fuel) mixed G116_CV (lvNil _) (by kernel_rfl) (by decide) rfl (by intro s; kernel_rfl) (fun s r h=>h)
theorem G116_LV:LV 0 Tryz.prog false (loopsOf (bodyOf Tryz.f116)) [G116_l0_L]:=by
  have hl:loopsOf (bodyOf Tryz.f116)=[.loop G116_l0_c]:=by kernel_rfl
  rw [hl]; exact ⟨G116_l0_V,trivial⟩
theorem G116_ent:Ent Tryz.prog 116:=⟨by decide,enters_of Tryz.func116 (by kernel_rfl) rfl⟩
theorem G116_hev:∀ x,fnR Tryz.prog G116_C [G116_l0_L] Tryz.f116 (bodyOf Tryz.f116) (encs [.dat (.int .i64)] x) ⟨[],[],0⟩ (frzF (.dat (.list T73)))=G116 x.1:=by
  intro x; kernel_rfl
theorem G116_valid:G116_E.Valid Tryz.prog:=
  pureE_valid (by kernel_rfl) (by kernel_rfl) G116_ent (frz_lcall mixed Tryz.func116 rfl G116_ent G116_CV G116_LV (by kernel_rfl) (by kernel_rfl) G116_hev)
def G146_C:CalT:=tabC []
theorem G146_CV:CV Tryz.prog G146_C:=tabC_valid (l:=_) trivial
def G146 (a0:Int) (a1:Int) (a2:Int):Option Bool:=(bif (decide (a0≥a1)) then some (decide (a0≤a2)) else some false)
def G146_E:CEnt:=pureE 146 [.dat (.int .i64),.dat (.int .i64),.dat (.int .i64)] (.dat .bool) fun x=>G146 x.1 x.2.1 x.2.2.1
theorem G146_LV:LV 0 Tryz.prog false (loopsOf (bodyOf Tryz.f146)) []:=by unfold LV; cases loopsOf (bodyOf Tryz.f146)<;>trivial
theorem G146_ent:Ent Tryz.prog 146:=⟨by decide,enters_of Tryz.func146 (by kernel_rfl) rfl⟩
theorem G146_hev:∀ x,fnR Tryz.prog G146_C [] Tryz.f146 (bodyOf Tryz.f146) (encs [.dat (.int .i64),.dat (.int .i64),.dat (.int .i64)] x) ⟨[],[],0⟩ (frzF (.dat .bool))=G146 x.1 x.2.1 x.2.2.1:=by
  intro x; kernel_rfl
theorem G146_valid:G146_E.Valid Tryz.prog:=
  pureE_valid (by kernel_rfl) (by kernel_rfl) G146_ent (frz_lcall mixed Tryz.func146 rfl G146_ent G146_CV G146_LV (by kernel_rfl) (by kernel_rfl) G146_hev)
def G244_C:CalT:=tabC []
theorem G244_CV:CV Tryz.prog G244_C:=tabC_valid (l:=_) trivial
def G244 (a0:E23) (a1:Int):Option Bool:=(bif (decide (a0.1≥0)) then (bif (decide (a0.1≤a0.2.1)) then some (decide (a0.2.1≤a1)) else some false) else some false)
def G244_E:CEnt:=pureE 244 [.dat T23,.dat (.int .i64)] (.dat .bool) fun x=>G244 x.1 x.2.1
theorem G244_LV:LV 0 Tryz.prog false (loopsOf (bodyOf Tryz.f244)) []:=by unfold LV; cases loopsOf (bodyOf Tryz.f244)<;>trivial
theorem G244_ent:Ent Tryz.prog 244:=⟨by decide,enters_of Tryz.func244 (by kernel_rfl) rfl⟩
theorem G244_hev:∀ x,fnR Tryz.prog G244_C [] Tryz.f244 (bodyOf Tryz.f244) (encs [.dat T23,.dat (.int .i64)] x) ⟨[],[],0⟩ (frzF (.dat .bool))=G244 x.1 x.2.1:=by
  intro x; kernel_rfl
theorem G244_valid:G244_E.Valid Tryz.prog:=
  pureE_valid (by kernel_rfl) (by kernel_rfl) G244_ent (frz_lcall mixed Tryz.func244 rfl G244_ent G244_CV G244_LV (by kernel_rfl) (by kernel_rfl) G244_hev)
def G245_C:CalT:=tabC [G146_E]
theorem G245_CV:CV Tryz.prog G245_C:=tabC_valid (l:=_) ⟨G146_valid,trivial⟩
def G245_l0_c:Code:=loopAt (bodyOf Tryz.f245) 0
def G245_l0_S:SPat:=⟨[.dat (.list (.int .i64)),.dat (.int .i64),.any,.any,.dat .bool,.any,.any,.dat (.list (.int .i64)),.dat (.int .i64),.dat (.int .i64)]++List.replicate 23 PTy.any,[],0⟩
abbrev TY16:Type:=(((List Int)×(Int×(Bool×((List Int)×(Int×(Int×Unit))))))×Unit)
abbrev TY17:Type:=(Nat×(((List Int)×(Int×(Bool×((List Int)×(Int×(Int×Unit))))))×Unit))
def G245_l0_step (s:TY16):Option TY17:=(bif (decide (s.1.2.2.2.2.2.1 < s.1.2.2.2.2.1)) then (bif (decide (0≤s.1.2.2.2.2.2.1)&&decide (s.1.2.2.2.2.2.1 < (List.length s.1.2.2.2.1:Int))) then (Option.bind (G146 (List.getD s.1.2.2.2.1 (Int.toNat s.1.2.2.2.2.2.1) 0) 0 (IntKind.wrap .i64 (s.1.2.1 - 1))) fun r1=>(bif (!r1) then some (1,((s.1.1,(s.1.2.1,(false,(s.1.2.2.2.1,(s.1.2.2.2.2.1,(s.1.2.2.2.2.2.1,())))))),())) else (bif (decide (s.1.2.2.2.2.2.1 > 0)) then (bif (decide (0≤(IntKind.wrap .i64 (s.1.2.2.2.2.2.1 - 1)))&&decide ((IntKind.wrap .i64 (s.1.2.2.2.2.2.1 - 1)) < (List.length s.1.1:Int))) then (bif (decide ((List.getD s.1.2.2.2.1 (Int.toNat s.1.2.2.2.2.2.1) 0)≤(List.getD s.1.1 (Int.toNat (IntKind.wrap .i64 (s.1.2.2.2.2.2.1 - 1))) 0))) then some (1,((s.1.1,(s.1.2.1,(false,(s.1.2.2.2.1,(s.1.2.2.2.2.1,(s.1.2.2.2.2.2.1,())))))),())) else some (0,((s.1.1,(s.1.2.1,(s.1.2.2.1,(s.1.2.2.2.1,(s.1.2.2.2.2.1,((IntKind.wrap .i64 (s.1.2.2.2.2.2.1+1)),())))))),()))) else none) else some (0,((s.1.1,(s.1.2.1,(s.1.2.2.1,(s.1.2.2.2.1,(s.1.2.2.2.2.1,((IntKind.wrap .i64 (s.1.2.2.2.2.2.1+1)),())))))),()))))) else none) else some (2,((s.1.1,(s.1.2.1,(s.1.2.2.1,(s.1.2.2.2.1,(s.1.2.2.2.2.1,(s.1.2.2.2.2.2.1,())))))),())))
def G245_l0_fuel (s:TY16):Nat:=Int.toNat (s.1.2.2.2.2.1 - s.1.2.2.2.2.2.1)+1
def G245_l0_run (s:TY16):Option TY17:=iter G245_l0_step (G245_l0_fuel s) s
def G245_l0_L:LoopT:=loopT G245_l0_S [.ret,.exit 0] G245_l0_run
def G245 (a0:(List Int)) (a1:Int):Option Bool:=(Option.bind (G245_l0_run ((a0,(a1,(false,(a0,((List.length a0:Int),(0,())))))),())) fun q2=>(natK q2.1 (some q2.2.1.2.2.1) (fun _=>some true)))
def G245_E:CEnt:=pureE 245 [.dat (.list (.int .i64)),.dat (.int .i64)] (.dat .bool) fun x=>G245 x.1 x.2.1
theorem G245_l0_V:LValid 0 Tryz.prog (.loop G245_l0_c) G245_l0_L false:=by
  exact loopT_valid (fuel:=G245_l0_fuel) mixed G245_CV (lvNil _) (by kernel_rfl) (by decide) rfl (by intro s; kernel_rfl) (fun s r h=>h)
theorem G245_LV:LV 0 Tryz.prog false (loopsOf (bodyOf Tryz.f245)) [G245_l0_L]:=by
  have hl:loopsOf (bodyOf Tryz.f245)=[.loop G245_l0_c]:=by kernel_rfl
  rw [hl]; exact ⟨G245_l0_V,trivial⟩
theorem G245_ent:Ent Tryz.prog 245:=⟨by decide,enters_of Tryz.func245 (by kernel_rfl) rfl⟩
theorem G245_hev:∀ x,fnR Tryz.prog G245_C [G245_l0_L] Tryz.f245 (bodyOf Tryz.f245) (encs [.dat (.list (.int .i64)),.dat (.int .i64)] x) ⟨[],[],0⟩ (frzF (.dat .bool))=G245 x.1 x.2.1:=by
  intro x; kernel_rfl
theorem G245_valid:G245_E.Valid Tryz.prog:=
  pureE_valid (by kernel_rfl) (by kernel_rfl) G245_ent (frz_lcall mixed Tryz.func245 rfl G245_ent G245_CV G245_LV (by kernel_rfl) (by kernel_rfl) G245_hev)
def G246_C:CalT:=tabC [G244_E]
theorem G246_CV:CV Tryz.prog G246_C:=tabC_valid (l:=_) ⟨G244_valid,trivial⟩
def G246 (a0:E23):Option Bool:=(Option.bind (G244 a0 20000) fun r1=>some (!r1))
def G246_E:CEnt:=pureE 246 [.dat T23] (.dat .bool) fun x=>G246 x.1
theorem G246_LV:LV 0 Tryz.prog false (loopsOf (bodyOf Tryz.f246)) []:=by unfold LV; cases loopsOf (bodyOf Tryz.f246)<;>trivial
theorem G246_ent:Ent Tryz.prog 246:=⟨by decide,enters_of Tryz.func246 (by kernel_rfl) rfl⟩
theorem G246_hev:∀ x,fnR Tryz.prog G246_C [] Tryz.f246 (bodyOf Tryz.f246) (encs [.dat T23] x) ⟨[],[],0⟩ (frzF (.dat .bool))=G246 x.1:=by
  intro x; kernel_rfl
theorem G246_valid:G246_E.Valid Tryz.prog:=
  pureE_valid (by kernel_rfl) (by kernel_rfl) G246_ent (frz_lcall mixed Tryz.func246 rfl G246_ent G246_CV G246_LV (by kernel_rfl) (by kernel_rfl) G246_hev)
def G315_v1_C:CalT:=tabC [G246_E]
theorem G315_v1_CV:CV Tryz.prog G315_v1_C:=tabC_valid (l:=_) ⟨G246_valid,trivial⟩
def G315_v1_l0_c:Code:=loopAt (bodyOf Tryz.f315) 0
def G315_v1_l0_S:SPat:=⟨[.dat (.list T23),.fix (.func (.func 246) .nil .nil),.any,.any,.dat (.int .i64),.any,.any,.dat (.int .i64),.dat (.int .i64),.any,.any,.any,.any,.any,.any,.any,.any,.any,.any],[],0⟩
def G315_v1_l0_step (s:(((List E23)×(Int×(Int×(Int×Unit))))×Unit)):Option (Nat×(((List E23)×(Int×(Int×(Int×Unit))))×Unit)):=(bif (decide (s.1.2.2.2.1 < s.1.2.2.1)) then (bif (decide (0≤s.1.2.2.2.1)&&decide (s.1.2.2.2.1 < (List.length s.1.1:Int))) then (Option.bind (G246 (List.getD s.1.1 (Int.toNat s.1.2.2.2.1) (0,(0,())))) fun r1=>(bif r1 then some (1,((s.1.1,(s.1.2.2.2.1,(s.1.2.2.1,(s.1.2.2.2.1,())))),())) else some (0,((s.1.1,(s.1.2.1,(s.1.2.2.1,((IntKind.wrap .i64 (s.1.2.2.2.1+1)),())))),())))) else none) else some (2,((s.1.1,(s.1.2.1,(s.1.2.2.1,(s.1.2.2.2.1,())))),())))
def G315_v1_l0_fuel (s:(((List E23)×(Int×(Int×(Int×Unit))))×Unit)):Nat:=Int.toNat (s.1.2.2.1 - s.1.2.2.2.1)+1
def G315_v1_l0_run (s:(((List E23)×(Int×(Int×(Int×Unit))))×Unit)):Option (Nat×(((List E23)×(Int×(Int×(Int×Unit))))×Unit)):=iter G315_v1_l0_step (G315_v1_l0_fuel s) s
def G315_v1_l0_L:LoopT:=loopT G315_v1_l0_S [.ret,.exit 0] G315_v1_l0_run
def G315_v1 (a0:(List E23)):Option Int:=(Option.bind (G315_v1_l0_run ((a0,(0,((List.length a0:Int),(0,())))),())) fun q2=>(natK q2.1 (some q2.2.1.2.1) (fun _=>some (-1))))
def G315_v1_E:CEnt:=pureE 315 [.dat (.list T23),.fix (.func (.func 246) .nil .nil)] (.dat (.int .i64)) fun x=>G315_v1 x.1
theorem G315_v1_l0_V:LValid 0 Tryz.prog (.loop G315_v1_l0_c) G315_v1_l0_L false:=by
  exact loopT_valid (fuel:=G315_v1_l0_fuel) mixed G315_v1_CV (lvNil _) (by kernel_rfl) (by decide) rfl (by intro s; kernel_rfl) (fun s r h=>h)
theorem G315_v1_LV:LV 0 Tryz.prog false (loopsOf (bodyOf Tryz.f315)) [G315_v1_l0_L]:=by
  have hl:loopsOf (bodyOf Tryz.f315)=[.loop G315_v1_l0_c]:=by kernel_rfl
  rw [hl]; exact ⟨G315_v1_l0_V,trivial⟩
theorem G315_v1_ent:Ent Tryz.prog 315:=⟨by decide,enters_of Tryz.func315 (by kernel_rfl) rfl⟩
theorem G315_v1_hev:∀ x,fnR Tryz.prog G315_v1_C [G315_v1_l0_L] Tryz.f315 (bodyOf Tryz.f315) (encs [.dat (.list T23),.fix (.func (.func 246) .nil .nil)] x) ⟨[],[],0⟩ (frzF (.dat (.int .i64)))=G315_v1 x.1:=by
  intro x; kernel_rfl
theorem G315_v1_valid:G315_v1_E.Valid Tryz.prog:=
  pureE_valid (by kernel_rfl) (by kernel_rfl) G315_v1_ent (frz_lcall mixed Tryz.func315 rfl G315_v1_ent G315_v1_CV G315_v1_LV (by kernel_rfl) (by kernel_rfl) G315_v1_hev)
def G193_v1_C:CalT:=tabC [G315_v1_E]
theorem G193_v1_CV:CV Tryz.prog G193_v1_C:=tabC_valid (l:=_) ⟨G315_v1_valid,trivial⟩
def G193_v1 (a0:(List E23)):Option Bool:=(Option.bind (G315_v1 a0) fun r1=>some (decide (r1≥0)))
def G193_v1_E:CEnt:=pureE 193 [.dat (.list T23),.fix (.func (.func 246) .nil .nil)] (.dat .bool) fun x=>G193_v1 x.1
theorem G193_v1_LV:LV 0 Tryz.prog false (loopsOf (bodyOf Tryz.f193)) []:=by unfold LV; cases loopsOf (bodyOf Tryz.f193)<;>trivial
theorem G193_v1_ent:Ent Tryz.prog 193:=⟨by decide,enters_of Tryz.func193 (by kernel_rfl) rfl⟩
theorem G193_v1_hev:∀ x,fnR Tryz.prog G193_v1_C [] Tryz.f193 (bodyOf Tryz.f193) (encs [.dat (.list T23),.fix (.func (.func 246) .nil .nil)] x) ⟨[],[],0⟩ (frzF (.dat .bool))=G193_v1 x.1:=by
  intro x; kernel_rfl
theorem G193_v1_valid:G193_v1_E.Valid Tryz.prog:=
  pureE_valid (by kernel_rfl) (by kernel_rfl) G193_v1_ent (frz_lcall mixed Tryz.func193 rfl G193_v1_ent G193_v1_CV G193_v1_LV (by kernel_rfl) (by kernel_rfl) G193_v1_hev)
def G139_C:CalT:=tabC [G146_E,G244_E,G245_E,G193_v1_E]
theorem G139_CV:CV Tryz.prog G139_C:=tabC_valid (l:=_) ⟨G146_valid,G244_valid,G245_valid,G193_v1_valid,trivial⟩
def G139_l0_c:Code:=loopAt (bodyOf Tryz.f139) 0
def G139_l1_c:Code:=loopAt (bodyOf Tryz.f139) 1
def G139_l0_S:SPat:=⟨[.any,.fix (.bptr 0 []),.dat .bool,.any,.any,.any,.any,.any,.dat (.list T126),.dat (.int .i64),.dat (.int .i64)]++List.replicate 122 PTy.any,[.dat T137],0⟩
abbrev TY18:Type:=(Nat×((Bool×((List E126)×(Int×(Int×Unit))))×(E137×Unit)))
def G139_l0_step (s:((Bool×((List E126)×(Int×(Int×Unit))))×(E137×Unit))):Option TY18:=(bif (decide (s.1.2.2.2.1 < s.1.2.2.1)) then (bif (decide (0≤s.1.2.2.2.1)&&decide (s.1.2.2.2.1 < (List.length s.1.2.1:Int))) then (Option.bind (G146 ((List.getD s.1.2.1 (Int.toNat s.1.2.2.2.1) (0,(0,(0,(0,()))))).1) 0 (IntKind.wrap .i64 (s.2.1.1 - 1))) fun r1=>(bif (!r1) then some (1,((false,(s.1.2.1,(s.1.2.2.1,(s.1.2.2.2.1,())))),(s.2.1,()))) else (Option.bind (G146 ((List.getD s.1.2.1 (Int.toNat s.1.2.2.2.1) (0,(0,(0,(0,()))))).2.1) 0 (IntKind.wrap .i64 (s.2.1.1 - 1))) fun r2=>(bif (!r2) then some (1,((false,(s.1.2.1,(s.1.2.2.1,(s.1.2.2.2.1,())))),(s.2.1,()))) else (bif ((List.getD s.1.2.1 (Int.toNat s.1.2.2.2.1) (0,(0,(0,(0,()))))).1==(List.getD s.1.2.1 (Int.toNat s.1.2.2.2.1) (0,(0,(0,(0,()))))).2.1) then some (1,((false,(s.1.2.1,(s.1.2.2.1,(s.1.2.2.2.1,())))),(s.2.1,()))) else (Option.bind (G146 ((List.getD s.1.2.1 (Int.toNat s.1.2.2.2.1) (0,(0,(0,(0,()))))).2.2.1) 0 20000) fun r3=>(bif (!r3) then some (1,((false,(s.1.2.1,(s.1.2.2.1,(s.1.2.2.2.1,())))),(s.2.1,()))) else (Option.bind (G146 ((List.getD s.1.2.1 (Int.toNat s.1.2.2.2.1) (0,(0,(0,(0,()))))).2.2.2.1) (-1) 1000000) fun r4=>(bif (!r4) then some (1,((false,(s.1.2.1,(s.1.2.2.1,(s.1.2.2.2.1,())))),(s.2.1,()))) else some (0,((s.1.1,(s.1.2.1,(s.1.2.2.1,((IntKind.wrap .i64 (s.1.2.2.2.1+1)),())))),(s.2.1,())))))))))))) else none) else some (2,((s.1.1,(s.1.2.1,(s.1.2.2.1,(s.1.2.2.2.1,())))),(s.2.1,()))))
def G139_l0_fuel (s:((Bool×((List E126)×(Int×(Int×Unit))))×(E137×Unit))):Nat:=Int.toNat (s.1.2.2.1 - s.1.2.2.2.1)+1
def G139_l0_run (s:((Bool×((List E126)×(Int×(Int×Unit))))×(E137×Unit))):Option TY18:=iter G139_l0_step (G139_l0_fuel s) s
def G139_l0_L:LoopT:=loopT G139_l0_S [.ret,.exit 0] G139_l0_run
def G139_l1_S:SPat:=⟨[.any,.fix (.bptr 0 []),.dat .bool,.any,.any,.any,.any,.any,.any,.any,.any,.any,.any,.any,.any,.any,.any,.any,.any,.any,.any,.any,.any,.any,.any,.any,.any,.any,.any,.any,.any,.any,.any,.any,.any,.any,.any,.any,.any,.any,.any,.any,.any,.any,.any,.any,.any,.any,.any,.any,.any,.dat (.list T257),.dat (.int .i64),.dat (.int .i64)]++List.replicate 79 PTy.any,[.dat T137],0⟩
abbrev TY19:Type:=(Nat×((Bool×((List E257)×(Int×(Int×Unit))))×(E137×Unit)))
def G139_l1_step (s:((Bool×((List E257)×(Int×(Int×Unit))))×(E137×Unit))):Option TY19:=(bif (decide (s.1.2.2.2.1 < s.1.2.2.1)) then (bif (decide (0≤s.1.2.2.2.1)&&decide (s.1.2.2.2.1 < (List.length s.1.2.1:Int))) then (bif ((List.getD s.1.2.1 (Int.toNat s.1.2.2.2.1) (0,(0,((0,(0,())),((0,(0,())),()))))).1 != (-1)) then (Option.bind (G146 ((List.getD s.1.2.1 (Int.toNat s.1.2.2.2.1) (0,(0,((0,(0,())),((0,(0,())),()))))).1) (IntKind.wrap .i64 (s.1.2.2.2.1+1)) (IntKind.wrap .i64 ((List.length s.2.1.2.2.2.2.2.1:Int) - 1))) fun r6=>(bif (!r6) then some (1,((false,(s.1.2.1,(s.1.2.2.1,(s.1.2.2.2.1,())))),(s.2.1,()))) else (Option.bind (G146 ((List.getD s.1.2.1 (Int.toNat s.1.2.2.2.1) (0,(0,((0,(0,())),((0,(0,())),()))))).2.1) 0 20000) fun r7=>(bif (!r7) then some (1,((false,(s.1.2.1,(s.1.2.2.1,(s.1.2.2.2.1,())))),(s.2.1,()))) else (Option.bind (G244 ((List.getD s.1.2.1 (Int.toNat s.1.2.2.2.1) (0,(0,((0,(0,())),((0,(0,())),()))))).2.2.1) 1000000) fun r8=>(bif (!r8) then some (1,((false,(s.1.2.1,(s.1.2.2.1,(s.1.2.2.2.1,())))),(s.2.1,()))) else (Option.bind (G244 ((List.getD s.1.2.1 (Int.toNat s.1.2.2.2.1) (0,(0,((0,(0,())),((0,(0,())),()))))).2.2.2.1) 1000000) fun r9=>(bif (!r9) then some (1,((false,(s.1.2.1,(s.1.2.2.1,(s.1.2.2.2.1,())))),(s.2.1,()))) else some (0,((s.1.1,(s.1.2.1,(s.1.2.2.1,((IntKind.wrap .i64 (s.1.2.2.2.1+1)),())))),(s.2.1,()))))))))))) else (Option.bind (G146 ((List.getD s.1.2.1 (Int.toNat s.1.2.2.2.1) (0,(0,((0,(0,())),((0,(0,())),()))))).2.1) 0 20000) fun r10=>(bif (!r10) then some (1,((false,(s.1.2.1,(s.1.2.2.1,(s.1.2.2.2.1,())))),(s.2.1,()))) else (Option.bind (G244 ((List.getD s.1.2.1 (Int.toNat s.1.2.2.2.1) (0,(0,((0,(0,())),((0,(0,())),()))))).2.2.1) 1000000) fun r11=>(bif (!r11) then some (1,((false,(s.1.2.1,(s.1.2.2.1,(s.1.2.2.2.1,())))),(s.2.1,()))) else (Option.bind (G244 ((List.getD s.1.2.1 (Int.toNat s.1.2.2.2.1) (0,(0,((0,(0,())),((0,(0,())),()))))).2.2.2.1) 1000000) fun r12=>(bif (!r12) then some (1,((false,(s.1.2.1,(s.1.2.2.1,(s.1.2.2.2.1,())))),(s.2.1,()))) else some (0,((s.1.1,(s.1.2.1,(s.1.2.2.1,((IntKind.wrap .i64 (s.1.2.2.2.1+1)),())))),(s.2.1,())))))))))) else none) else some (2,((s.1.1,(s.1.2.1,(s.1.2.2.1,(s.1.2.2.2.1,())))),(s.2.1,()))))
def G139_l1_fuel (s:((Bool×((List E257)×(Int×(Int×Unit))))×(E137×Unit))):Nat:=Int.toNat (s.1.2.2.1 - s.1.2.2.2.1)+1
def G139_l1_run (s:((Bool×((List E257)×(Int×(Int×Unit))))×(E137×Unit))):Option TY19:=iter G139_l1_step (G139_l1_fuel s) s
def G139_l1_L:LoopT:=loopT G139_l1_S [.ret,.exit 2] G139_l1_run
def G139 (a0:E137):Option Bool:=(Option.bind (G139_l0_run ((false,(a0.2.1,((List.length a0.2.1:Int),(0,())))),(a0,()))) fun q5=>(natK q5.1 (some q5.2.1.1) (fun _=>(Option.bind (G139_l1_run ((q5.2.1.1,(q5.2.2.1.2.2.2.2.2.1,((List.length q5.2.2.1.2.2.2.2.2.1:Int),(0,())))),(q5.2.2.1,()))) fun q13=>(natK q13.1 (some q13.2.1.1) (fun _=>(Option.bind (G146 q13.2.2.1.1 1 10) fun r14=>(bif r14 then (bif (decide ((List.length q13.2.2.1.2.1:Int)≤12)) then (Option.bind (G245 q13.2.2.1.2.2.1 q13.2.2.1.1) fun r15=>(bif r15 then (Option.bind (G245 q13.2.2.1.2.2.2.1 q13.2.2.1.1) fun r16=>(bif r16 then (Option.bind (G146 (List.length q13.2.2.1.2.2.2.2.1:Int) 1 10) fun r17=>(bif r17 then (Option.bind (G193_v1 q13.2.2.1.2.2.2.2.1) fun r18=>(bif (!r18) then some (decide ((List.length q13.2.2.1.2.2.2.2.2.1:Int)≤6)) else some false)) else some false)) else some false)) else some false)) else some false) else some false))))))))
def G139_E:CEnt:=pureE 139 [.dat T137] (.dat .bool) fun x=>G139 x.1
theorem G139_l0_V:LValid 0 Tryz.prog (.loop G139_l0_c) G139_l0_L false:=by
  exact loopT_valid (fuel:=G139_l0_fuel) mixed G139_CV (lvNil _) (by kernel_rfl) (by decide) rfl (by intro s; kernel_rfl) (fun s r h=>h)
theorem G139_l1_V:LValid 0 Tryz.prog (.loop G139_l1_c) G139_l1_L false:=by
  exact loopT_valid (fuel:=G139_l1_fuel) mixed G139_CV (lvNil _) (by kernel_rfl) (by decide) rfl (by intro s; kernel_rfl) (fun s r h=>h)
theorem G139_LV:LV 0 Tryz.prog false (loopsOf (bodyOf Tryz.f139)) [G139_l0_L,G139_l1_L]:=by
  have hl:loopsOf (bodyOf Tryz.f139)=[.loop G139_l0_c,.loop G139_l1_c]:=by kernel_rfl
  rw [hl]; exact ⟨G139_l0_V,G139_l1_V,trivial⟩
theorem G139_ent:Ent Tryz.prog 139:=⟨by decide,enters_of Tryz.func139 (by kernel_rfl) rfl⟩
theorem G139_hev:∀ x,fnR Tryz.prog G139_C [G139_l0_L,G139_l1_L] Tryz.f139 (bodyOf Tryz.f139) (encs [.dat T137] x) ⟨[],[],0⟩ (frzF (.dat .bool))=G139 x.1:=by
  intro x; kernel_rfl
theorem G139_valid:G139_E.Valid Tryz.prog:=
  pureE_valid (by kernel_rfl) (by kernel_rfl) G139_ent (frz_lcall mixed Tryz.func139 rfl G139_ent G139_CV G139_LV (by kernel_rfl) (by kernel_rfl) G139_hev)
def G247_C:CalT:=tabC []
theorem G247_CV:CV Tryz.prog G247_C:=tabC_valid (l:=_) trivial
def G247_l0_c:Code:=loopAt (bodyOf Tryz.f247) 0
def G247_l0_S:SPat:=⟨[.any,.any,.any,.dat (.int .i64),.any,.any,.dat (.list (.int .i64)),.dat (.int .i64),.dat (.int .i64),.any,.any,.any,.any,.any,.any,.any,.any],[],0⟩
def G247_l0_step (s:((Int×((List Int)×(Int×(Int×Unit))))×Unit)):Option (Nat×((Int×((List Int)×(Int×(Int×Unit))))×Unit)):=(bif (decide (s.1.2.2.2.1 < s.1.2.2.1)) then (bif (decide (0≤s.1.2.2.2.1)&&decide (s.1.2.2.2.1 < (List.length s.1.2.1:Int))) then some (0,(((IntKind.wrap .i64 (s.1.1+(List.getD s.1.2.1 (Int.toNat s.1.2.2.2.1) 0))),(s.1.2.1,(s.1.2.2.1,((IntKind.wrap .i64 (s.1.2.2.2.1+1)),())))),())) else none) else some (1,((s.1.1,(s.1.2.1,(s.1.2.2.1,(s.1.2.2.2.1,())))),())))
def G247_l0_fuel (s:((Int×((List Int)×(Int×(Int×Unit))))×Unit)):Nat:=Int.toNat (s.1.2.2.1 - s.1.2.2.2.1)+1
def G247_l0_run (s:((Int×((List Int)×(Int×(Int×Unit))))×Unit)):Option (Nat×((Int×((List Int)×(Int×(Int×Unit))))×Unit)):=iter G247_l0_step (G247_l0_fuel s) s
def G247_l0_L:LoopT:=loopT G247_l0_S [.exit 0] G247_l0_run
def G247 (a0:(List Int)):Option Int:=(Option.bind (G247_l0_run ((0,(a0,((List.length a0:Int),(0,())))),())) fun q1=>some q1.2.1.1)
def G247_E:CEnt:=pureE 247 [.dat (.list (.int .i64))] (.dat (.int .i64)) fun x=>G247 x.1
theorem G247_l0_V:LValid 0 Tryz.prog (.loop G247_l0_c) G247_l0_L false:=by
  exact loopT_valid (fuel:=G247_l0_fuel) mixed G247_CV (lvNil _) (by kernel_rfl) (by decide) rfl (by intro s; kernel_rfl) (fun s r h=>h)
theorem G247_LV:LV 0 Tryz.prog false (loopsOf (bodyOf Tryz.f247)) [G247_l0_L]:=by
  have hl:loopsOf (bodyOf Tryz.f247)=[.loop G247_l0_c]:=by kernel_rfl
  rw [hl]; exact ⟨G247_l0_V,trivial⟩
theorem G247_ent:Ent Tryz.prog 247:=⟨by decide,enters_of Tryz.func247 (by kernel_rfl) rfl⟩
theorem G247_hev:∀ x,fnR Tryz.prog G247_C [G247_l0_L] Tryz.f247 (bodyOf Tryz.f247) (encs [.dat (.list (.int .i64))] x) ⟨[],[],0⟩ (frzF (.dat (.int .i64)))=G247 x.1:=by
  intro x; kernel_rfl
theorem G247_valid:G247_E.Valid Tryz.prog:=
  pureE_valid (by kernel_rfl) (by kernel_rfl) G247_ent (frz_lcall mixed Tryz.func247 rfl G247_ent G247_CV G247_LV (by kernel_rfl) (by kernel_rfl) G247_hev)
def G141_C:CalT:=tabC [G247_E]
theorem G141_CV:CV Tryz.prog G141_C:=tabC_valid (l:=_) ⟨G247_valid,trivial⟩
def G141_l0_c:Code:=loopAt (bodyOf Tryz.f141) 0
def G141_l1_c:Code:=loopAt G141_l0_c 0
def G141_l1_S:SPat:=⟨[.any,.fix (.bptr 0 []),.any,.own 1 T259,.dat (.int .i64),.fix (.bptr 1 []),.any,.any,.any,.any,.any,.dat (.int .i64),.dat (.int .i64),.any,.any,.any,.dat (.list T126),.dat (.int .i64),.dat (.int .i64)]++List.replicate 32 PTy.any,[.dat T137,.cons (.dat (.int .i64)) (.cons (.own 0 (.int .i64)) (.nil))],2⟩
abbrev TY20:Type:=(((List E259)×(Int×(Int×(Int×((List E126)×(Int×(Int×Unit)))))))×(E137×((Int×((List Int)×Unit))×Unit)))
abbrev TY21:Type:=(Nat×(((List E259)×(Int×(Int×(Int×((List E126)×(Int×(Int×Unit)))))))×(E137×((Int×((List Int)×Unit))×Unit))))
def G141_l1_step (s:TY20):Option TY21:=(bif (decide (s.1.2.2.2.2.2.2.1 < s.1.2.2.2.2.2.1)) then (bif (decide (0≤s.1.2.2.2.2.2.2.1)&&decide (s.1.2.2.2.2.2.2.1 < (List.length s.1.2.2.2.2.1:Int))) then (bif (!decide (s.1.2.2.2.2.2.2.1 < 0)) then (bif ((IntKind.wrap .i64 ((BitVec.toNat ((BitVec.ofInt (IntKind.bits .i64) (Int.fdiv s.1.2.1 (2^(min (Int.toNat s.1.2.2.2.2.2.2.1) (IntKind.bits .i64))))) &&& (BitVec.ofInt (IntKind.bits .i64) 1)):Nat):Int))==0) then some (0,((s.1.1,(s.1.2.1,(s.1.2.2.1,(s.1.2.2.2.1,(s.1.2.2.2.2.1,(s.1.2.2.2.2.2.1,((IntKind.wrap .i64 (s.1.2.2.2.2.2.2.1+1)),()))))))),(s.2.1,(s.2.2.1,())))) else (bif ((List.getD s.1.2.2.2.2.1 (Int.toNat s.1.2.2.2.2.2.2.1) (0,(0,(0,(0,()))))).2.2.2.1==(-1)) then some (1,((s.1.1,(s.1.2.1,(s.1.2.2.1,(s.1.2.2.2.1,(s.1.2.2.2.2.1,(s.1.2.2.2.2.2.1,(s.1.2.2.2.2.2.2.1,()))))))),(s.2.1,(s.2.2.1,())))) else (bif (decide (List.length s.2.2.1.2.1+List.length [s.1.2.2.2.2.2.2.1]≤LIM)) then (Option.bind (G247 [s.2.2.1.1,(List.getD s.1.2.2.2.2.1 (Int.toNat s.1.2.2.2.2.2.2.1) (0,(0,(0,(0,()))))).2.2.2.1]) fun r1=>some (0,((s.1.1,(s.1.2.1,(s.1.2.2.1,(s.1.2.2.2.1,(s.1.2.2.2.2.1,(s.1.2.2.2.2.2.1,((IntKind.wrap .i64 (s.1.2.2.2.2.2.2.1+1)),()))))))),(s.2.1,((r1,((s.2.2.1.2.1++[s.1.2.2.2.2.2.2.1]),s.2.2.1.2.2)),()))))) else none))) else none) else none) else some (2,((s.1.1,(s.1.2.1,(s.1.2.2.1,(s.1.2.2.2.1,(s.1.2.2.2.2.1,(s.1.2.2.2.2.2.1,(s.1.2.2.2.2.2.2.1,()))))))),(s.2.1,(s.2.2.1,())))))
def G141_l1_fuel (s:TY20):Nat:=Int.toNat (s.1.2.2.2.2.2.1 - s.1.2.2.2.2.2.2.1)+1
def G141_l1_run (s:TY20):Option TY21:=iter G141_l1_step (G141_l1_fuel s) s
def G141_l1_L:LoopT:=loopT G141_l1_S [.exit 1,.exit 2] G141_l1_run
def G141_l0_S:SPat:=⟨[.any,.fix (.bptr 0 []),.any,.own 0 T259,.any,.any,.any,.any,.any,.any,.any,.dat (.int .i64),.dat (.int .i64)]++List.replicate 38 PTy.any,[.dat T137],1⟩
def G141_l0_step (s:(((List E259)×(Int×(Int×Unit)))×(E137×Unit))):Option (Nat×(((List E259)×(Int×(Int×Unit)))×(E137×Unit))):=(bif (decide (s.1.2.2.1 < s.1.2.1)) then (Option.bind (G141_l1_run ((s.1.1,(s.1.2.2.1,(s.1.2.1,(s.1.2.2.1,(s.2.1.2.1,((List.length s.2.1.2.1:Int),(0,()))))))),(s.2.1,((0,([],())),())))) fun q2=>(natK q2.1 (some (0,((q2.2.1.1,(q2.2.1.2.2.1,((IntKind.wrap .i64 (q2.2.1.2.2.2.1+1)),()))),(q2.2.2.1,())))) (fun _=>(bif (decide (List.length q2.2.1.1+List.length [q2.2.2.2.1]≤LIM)) then some (0,(((q2.2.1.1++[q2.2.2.2.1]),(q2.2.1.2.2.1,((IntKind.wrap .i64 (q2.2.1.2.2.2.1+1)),()))),(q2.2.2.1,()))) else none)))) else some (1,((s.1.1,(s.1.2.1,(s.1.2.2.1,()))),(s.2.1,()))))
def G141_l0_fuel (s:(((List E259)×(Int×(Int×Unit)))×(E137×Unit))):Nat:=Int.toNat (s.1.2.1 - s.1.2.2.1)+1
def G141_l0_run (s:(((List E259)×(Int×(Int×Unit)))×(E137×Unit))):Option (Nat×(((List E259)×(Int×(Int×Unit)))×(E137×Unit))):=iter G141_l0_step (G141_l0_fuel s) s
def G141_l0_L:LoopT:=loopT G141_l0_S [.exit 0] G141_l0_run
def G141 (a0:E137):Option (List E259):=(bif (!decide ((List.length a0.2.1:Int) < 0)) then (Option.bind (G141_l0_run (([],((IntKind.wrap .i64 (1*2^(min (Int.toNat (List.length a0.2.1:Int)) (IntKind.bits .i64)))),(0,()))),(a0,()))) fun q3=>some q3.2.1.1) else none)
def G141_E:CEnt:=pureE 141 [.dat T137] (.dat (.list T259)) fun x=>G141 x.1
theorem G141_l1_V:LValid 0 Tryz.prog (.loop G141_l1_c) G141_l1_L false:=by
  exact loopT_valid (fuel:=G141_l1_fuel) mixed G141_CV (lvNil _) (by kernel_rfl) (by decide) rfl (by intro s; kernel_rfl) (fun s r h=>h)
theorem G141_l0_V:LValid 0 Tryz.prog (.loop G141_l0_c) G141_l0_L false:=by
  have hb:∀ s,codeR Tryz.prog G141_C G141_l0_c [G141_l1_L] (G141_l0_S.encE s) (G141_l0_S.encB s) (kst G141_l0_S [.exit 0])=G141_l0_step s:=by
    intro s; kernel_rfl
  have hl:loopsOf G141_l0_c=[.loop G141_l1_c]:=by kernel_rfl
  have hL:LV 0 Tryz.prog false (loopsOf G141_l0_c) [G141_l1_L]:=by rw [hl]; exact ⟨G141_l1_V,trivial⟩
  exact loopT_valid (fuel:=G141_l0_fuel) mixed G141_CV hL (by kernel_rfl) (by decide) rfl hb (fun s r h=>h)
theorem G141_LV:LV 0 Tryz.prog false (loopsOf (bodyOf Tryz.f141)) [G141_l0_L]:=by
  have hl:loopsOf (bodyOf Tryz.f141)=[.loop G141_l0_c]:=by kernel_rfl
  rw [hl]; exact ⟨G141_l0_V,trivial⟩
theorem G141_ent:Ent Tryz.prog 141:=⟨by decide,enters_of Tryz.func141 (by kernel_rfl) rfl⟩
theorem G141_hev:∀ x,fnR Tryz.prog G141_C [G141_l0_L] Tryz.f141 (bodyOf Tryz.f141) (encs [.dat T137] x) ⟨[],[],0⟩ (frzF (.dat (.list T259)))=G141 x.1:=by
  intro x; kernel_rfl
theorem G141_valid:G141_E.Valid Tryz.prog:=
  pureE_valid (by kernel_rfl) (by kernel_rfl) G141_ent (frz_lcall mixed Tryz.func141 rfl G141_ent G141_CV G141_LV (by kernel_rfl) (by kernel_rfl) G141_hev)
def G143_C:CalT:=tabC [G139_E,G245_E]
theorem G143_CV:CV Tryz.prog G143_C:=tabC_valid (l:=_) ⟨G139_valid,G245_valid,trivial⟩
def G143_l0_c:Code:=loopAt (bodyOf Tryz.f143) 0
def G143_l0_S:SPat:=⟨[.any,.any,.fix (.bptr 0 []),.any,.fix .pnil,.dat .bool,.fix (.bptr 1 []),.any,.any,.any,.any,.any,.any,.any,.any,.any,.any,.any,.any,.any,.any,.any,.any,.dat (.list (.int .i64)),.dat (.int .i64),.dat (.int .i64)]++List.replicate 21 PTy.any,[.dat T137,.cons (.dat T137) (.cons (.dat (.int .i64)) (.nil))],0⟩
abbrev TY22:Type:=(Nat×((Bool×((List Int)×(Int×(Int×Unit))))×(E137×((E137×(Int×Unit))×Unit))))
def G143_l0_step (s:((Bool×((List Int)×(Int×(Int×Unit))))×(E137×((E137×(Int×Unit))×Unit)))):Option TY22:=
  (bif (decide (s.1.2.2.2.1 < s.1.2.2.1)) then
  (bif (decide (0≤s.1.2.2.2.1)&&decide (s.1.2.2.2.1 < (List.length s.1.2.1:Int))) then
    (bif (decide (0≤(List.getD s.1.2.1 (Int.toNat s.1.2.2.2.1) 0))&&decide ((List.getD s.1.2.1 (Int.toNat s.1.2.2.2.1) 0) < (List.length s.2.1.2.1:Int))) then
      (bif ((List.getD s.2.1.2.1 (Int.toNat (List.getD s.1.2.1 (Int.toNat s.1.2.2.2.1) 0)) (0,(0,(0,(0,()))))).2.2.2.1==(-1)) then
        some (1,((false,(s.1.2.1,(s.1.2.2.1,(s.1.2.2.2.1,())))),(s.2.1,(s.2.2.1,()))))
        else
        (bif (!decide ((List.getD s.1.2.1 (Int.toNat s.1.2.2.2.1) 0) < 0)) then
          some (0,((s.1.1,(s.1.2.1,(s.1.2.2.1,((IntKind.wrap .i64 (s.1.2.2.2.1+1)),())))),(s.2.1,((s.2.2.1.1,((IntKind.wrap .i64 ((BitVec.toNat ((BitVec.ofInt (IntKind.bits .i64) s.2.2.1.2.1) ||| (BitVec.ofInt (IntKind.bits .i64) (IntKind.wrap .i64 (1*2^(min (Int.toNat (List.getD s.1.2.1 (Int.toNat s.1.2.2.2.1) 0)) (IntKind.bits .i64)))))):Nat):Int)),s.2.2.1.2.2)),()))))
          else
          none))
      else
      none)
    else
    none)
  else
  some (2,((s.1.1,(s.1.2.1,(s.1.2.2.1,(s.1.2.2.2.1,())))),(s.2.1,(s.2.2.1,())))))
def G143_l0_fuel (s:((Bool×((List Int)×(Int×(Int×Unit))))×(E137×((E137×(Int×Unit))×Unit)))):Nat:=Int.toNat (s.1.2.2.1 - s.1.2.2.2.1)+1
def G143_l0_run (s:((Bool×((List Int)×(Int×(Int×Unit))))×(E137×((E137×(Int×Unit))×Unit)))):Option TY22:=iter G143_l0_step (G143_l0_fuel s) s
def G143_l0_L:LoopT:=loopT G143_l0_S [.ret,.exit 0] G143_l0_run
def G143 (a0:E137) (a1:(List Int)):Option (((Unit×(Bool×Unit))×Unit) ⊕ ((Unit×(Bool×Unit))×(E137×((E137×(Int×Unit))×Unit)))):=(Option.bind (G139 a0) fun r1=>(bif (!r1) then some (Sum.inl (((),(false,())),())) else (Option.bind (G245 a1 (List.length a0.2.1:Int)) fun r2=>(bif (!r2) then some (Sum.inl (((),(false,())),())) else (Option.bind (G143_l0_run ((false,(a1,((List.length a1:Int),(0,())))),(a0,((a0,(0,())),())))) fun q3=>(natK q3.1 (some (Sum.inl (((),(q3.2.1.1,())),()))) (fun _=>some (Sum.inr (((),(true,())),(q3.2.2.1,(q3.2.2.2.1,())))))))))))
abbrev G143_CS:CSpec:=⟨[.dat T137,.dat (.list (.int .i64))],[],0,[],0,.tup (.cons (.fix .pnil) (.cons (.dat .bool) (.nil)))⟩
abbrev G143_O2:List PTy:=[.dat T137,.cons (.dat T137) (.cons (.dat (.int .i64)) (.nil))]
abbrev G143_R2:PTy:=.tup (.cons (.fix (.bptr 1 [])) (.cons (.dat .bool) (.nil)))
def G143_E:CEnt:=altE 143 G143_CS G143_O2 0 G143_R2 fun x=>G143 x.1.1 x.1.2.1
theorem G143_l0_V:LValid 0 Tryz.prog (.loop G143_l0_c) G143_l0_L false:=by
  exact loopT_valid (fuel:=G143_l0_fuel) mixed G143_CV (lvNil _) (by kernel_rfl) (by decide) rfl (by intro s; kernel_rfl) (fun s r h=>h)
theorem G143_LV:LV 0 Tryz.prog false (loopsOf (bodyOf Tryz.f143)) [G143_l0_L]:=by
  have hl:loopsOf (bodyOf Tryz.f143)=[.loop G143_l0_c]:=by kernel_rfl
  rw [hl]; exact ⟨G143_l0_V,trivial⟩
theorem G143_ent:Ent Tryz.prog 143:=⟨by decide,enters_of Tryz.func143 (by kernel_rfl) rfl⟩
theorem G143_hev:∀ x:G143_CS.In,fnR Tryz.prog G143_C [G143_l0_L] Tryz.f143 (bodyOf Tryz.f143) (encs G143_CS.A x.1) ⟨encs G143_CS.I x.2,[],G143_CS.nt⟩ (finK2 G143_CS G143_O2 0 G143_R2)=G143 x.1.1 x.1.2.1:=by
  intro x; kernel_rfl
theorem G143_valid:G143_E.Valid Tryz.prog:=
  altE_valid (S:=G143_CS) (by kernel_rfl) (by kernel_rfl) (.inr G143_ent) (alt_lcall (S:=G143_CS) mixed Tryz.func143 rfl G143_ent G143_CV G143_LV (by kernel_rfl) (by kernel_rfl) (by kernel_rfl) (by kernel_rfl) G143_hev)
def G148_C:CalT:=tabC []
theorem G148_CV:CV Tryz.prog G148_C:=tabC_valid (l:=_) trivial
def G148_l0_c:Code:=loopAt (bodyOf Tryz.f148) 0
def G148_l0_S:SPat:=⟨[.any,.any,.any,.own 0 (.int .i64),.any,.any,.any,.any,.any,.any,.dat (.list T23),.dat (.int .i64),.dat (.int .i64),.any,.any,.any,.any,.any,.any,.any,.any,.any,.any],[],1⟩
def G148_l0_step (s:(((List Int)×((List E23)×(Int×(Int×Unit))))×Unit)):Option (Nat×(((List Int)×((List E23)×(Int×(Int×Unit))))×Unit)):=(bif (decide (s.1.2.2.2.1 < s.1.2.2.1)) then (bif (decide (0≤s.1.2.2.2.1)&&decide (s.1.2.2.2.1 < (List.length s.1.2.1:Int))) then (bif (decide (List.length s.1.1+List.length [(List.getD s.1.2.1 (Int.toNat s.1.2.2.2.1) (0,(0,()))).2.1]≤LIM)) then some (0,(((s.1.1++[(List.getD s.1.2.1 (Int.toNat s.1.2.2.2.1) (0,(0,()))).2.1]),(s.1.2.1,(s.1.2.2.1,((IntKind.wrap .i64 (s.1.2.2.2.1+1)),())))),())) else none) else none) else some (1,((s.1.1,(s.1.2.1,(s.1.2.2.1,(s.1.2.2.2.1,())))),())))
def G148_l0_fuel (s:(((List Int)×((List E23)×(Int×(Int×Unit))))×Unit)):Nat:=Int.toNat (s.1.2.2.1 - s.1.2.2.2.1)+1
def G148_l0_run (s:(((List Int)×((List E23)×(Int×(Int×Unit))))×Unit)):Option (Nat×(((List Int)×((List E23)×(Int×(Int×Unit))))×Unit)):=iter G148_l0_step (G148_l0_fuel s) s
def G148_l0_L:LoopT:=loopT G148_l0_S [.exit 0] G148_l0_run
def G148 (a0:E362):Option (List Int):=(Option.bind (G148_l0_run (([],(a0.1.2.2.2.2.1,((List.length a0.1.2.2.2.2.1:Int),(0,())))),())) fun q1=>some q1.2.1.1)
def G148_E:CEnt:=view2E 148 [.ip T362] (.own 0 (.int .i64)) fun x=>G148 x.1
theorem G148_l0_V:LValid 0 Tryz.prog (.loop G148_l0_c) G148_l0_L false:=by
  exact loopT_valid (fuel:=G148_l0_fuel) mixed G148_CV (lvNil _) (by kernel_rfl) (by decide) rfl (by intro s; kernel_rfl) (fun s r h=>h)
theorem G148_LV:LV 0 Tryz.prog false (loopsOf (bodyOf Tryz.f148)) [G148_l0_L]:=by
  have hl:loopsOf (bodyOf Tryz.f148)=[.loop G148_l0_c]:=by kernel_rfl
  rw [hl]; exact ⟨G148_l0_V,trivial⟩
theorem G148_ent:Ent Tryz.prog 148:=⟨by decide,enters_of Tryz.func148 (by kernel_rfl) rfl⟩
theorem G148_hev:∀ x,fnR Tryz.prog G148_C [G148_l0_L] Tryz.f148 (bodyOf Tryz.f148) (encs [.ip T362] x) ⟨[],[],0⟩ (finO [.ip T362] 1 (.own 0 (.int .i64)))=G148 x.1:=by
  intro x; kernel_rfl
theorem G148_valid:G148_E.Valid Tryz.prog:=
  view2E_valid (nt:=1) (by kernel_rfl) (by kernel_rfl) G148_ent (own_lcall mixed Tryz.func148 rfl G148_ent G148_CV G148_LV (by kernel_rfl) G148_hev)
def G253_C:CalT:=tabC []
theorem G253_CV:CV Tryz.prog G253_C:=tabC_valid (l:=_) trivial
def G253 (a0:Int) (b1:((List Int)×Unit)):Option (Unit×(((List Int)×Unit)×Unit)):=(bif (decide (List.length b1.1+List.length [a0]≤LIM)) then some ((),(((b1.1++[a0]),b1.2),())) else none)
abbrev G253_CS:CSpec:=⟨[.fix (.bptr 0 []),.dat (.int .i64)],[.cons (.own 0 (.int .i64)) (.nil)],1,[.cons (.own 0 (.int .i64)) (.nil)],1,.tup (.nil)⟩
def G253_E:CEnt:=boxE 253 G253_CS fun x=>G253 x.1.1 x.2.1
theorem G253_LV:LV 1 Tryz.prog false (loopsOf (bodyOf Tryz.f253)) []:=by unfold LV; cases loopsOf (bodyOf Tryz.f253)<;>trivial
theorem G253_ent:Ent Tryz.prog 253:=⟨by decide,enters_of Tryz.func253 (by kernel_rfl) rfl⟩
theorem G253_hev:∀ x:G253_CS.In,fnR Tryz.prog G253_C [] Tryz.f253 (bodyOf Tryz.f253) (encs G253_CS.A x.1) ⟨encs G253_CS.I x.2,[],G253_CS.nt⟩ (finK G253_CS)=G253 x.1.1 x.2.1:=by
  intro x; kernel_rfl
theorem G253_valid:G253_E.Valid Tryz.prog:=
  boxE_valid (S:=G253_CS) (by kernel_rfl) (.inr G253_ent) (fn_lcall (S:=G253_CS) mixed Tryz.func253 rfl G253_ent G253_CV G253_LV (by kernel_rfl) (by kernel_rfl) G253_hev)
def G348_C:CalT:=tabC []
theorem G348_CV:CV Tryz.prog G348_C:=tabC_valid (l:=_) trivial
def G348_l0_c:Code:=loopAt (bodyOf Tryz.f348) 0
def G348_l0_S:SPat:=⟨[.dat (.list (.int .i64)),.dat (.int .i64),.any,.any,.dat (.int .i64),.any,.any,.dat (.int .i64),.dat (.int .i64),.any,.any,.any,.any,.any,.any,.any,.any,.any,.any],[],0⟩
def G348_l0_step (s:(((List Int)×(Int×(Int×(Int×(Int×Unit)))))×Unit)):Option (Nat×(((List Int)×(Int×(Int×(Int×(Int×Unit)))))×Unit)):=(bif (decide (s.1.2.2.2.2.1 < s.1.2.2.2.1)) then (bif (decide (0≤s.1.2.2.2.2.1)&&decide (s.1.2.2.2.2.1 < (List.length s.1.1:Int))) then (bif (s.1.2.1==(List.getD s.1.1 (Int.toNat s.1.2.2.2.2.1) 0)) then some (1,((s.1.1,(s.1.2.1,(s.1.2.2.2.2.1,(s.1.2.2.2.1,(s.1.2.2.2.2.1,()))))),())) else some (0,((s.1.1,(s.1.2.1,(s.1.2.2.1,(s.1.2.2.2.1,((IntKind.wrap .i64 (s.1.2.2.2.2.1+1)),()))))),()))) else none) else some (2,((s.1.1,(s.1.2.1,(s.1.2.2.1,(s.1.2.2.2.1,(s.1.2.2.2.2.1,()))))),())))
def G348_l0_fuel (s:(((List Int)×(Int×(Int×(Int×(Int×Unit)))))×Unit)):Nat:=Int.toNat (s.1.2.2.2.1 - s.1.2.2.2.2.1)+1
def G348_l0_run (s:(((List Int)×(Int×(Int×(Int×(Int×Unit)))))×Unit)):Option (Nat×(((List Int)×(Int×(Int×(Int×(Int×Unit)))))×Unit)):=iter G348_l0_step (G348_l0_fuel s) s
def G348_l0_L:LoopT:=loopT G348_l0_S [.ret,.exit 0] G348_l0_run
def G348 (a0:(List Int)) (a1:Int):Option Int:=(Option.bind (G348_l0_run ((a0,(a1,(0,((List.length a0:Int),(0,()))))),())) fun q1=>(natK q1.1 (some q1.2.1.2.2.1) (fun _=>some (-1))))
def G348_E:CEnt:=pureE 348 [.dat (.list (.int .i64)),.dat (.int .i64)] (.dat (.int .i64)) fun x=>G348 x.1 x.2.1
theorem G348_l0_V:LValid 0 Tryz.prog (.loop G348_l0_c) G348_l0_L false:=by
  exact loopT_valid (fuel:=G348_l0_fuel) mixed G348_CV (lvNil _) (by kernel_rfl) (by decide) rfl (by intro s; kernel_rfl) (fun s r h=>h)
theorem G348_LV:LV 0 Tryz.prog false (loopsOf (bodyOf Tryz.f348)) [G348_l0_L]:=by
  have hl:loopsOf (bodyOf Tryz.f348)=[.loop G348_l0_c]:=by kernel_rfl
  rw [hl]; exact ⟨G348_l0_V,trivial⟩
theorem G348_ent:Ent Tryz.prog 348:=⟨by decide,enters_of Tryz.func348 (by kernel_rfl) rfl⟩
theorem G348_hev:∀ x,fnR Tryz.prog G348_C [G348_l0_L] Tryz.f348 (bodyOf Tryz.f348) (encs [.dat (.list (.int .i64)),.dat (.int .i64)] x) ⟨[],[],0⟩ (frzF (.dat (.int .i64)))=G348 x.1 x.2.1:=by
  intro x; kernel_rfl
theorem G348_valid:G348_E.Valid Tryz.prog:=
  pureE_valid (by kernel_rfl) (by kernel_rfl) G348_ent (frz_lcall mixed Tryz.func348 rfl G348_ent G348_CV G348_LV (by kernel_rfl) (by kernel_rfl) G348_hev)
def G252_C:CalT:=tabC [G348_E]
theorem G252_CV:CV Tryz.prog G252_C:=tabC_valid (l:=_) ⟨G348_valid,trivial⟩
def G252 (a0:(List Int)) (a1:Int):Option Bool:=(Option.bind (G348 a0 a1) fun r1=>some (decide (r1≥0)))
def G252_E:CEnt:=pureE 252 [.dat (.list (.int .i64)),.dat (.int .i64)] (.dat .bool) fun x=>G252 x.1 x.2.1
theorem G252_LV:LV 0 Tryz.prog false (loopsOf (bodyOf Tryz.f252)) []:=by unfold LV; cases loopsOf (bodyOf Tryz.f252)<;>trivial
theorem G252_ent:Ent Tryz.prog 252:=⟨by decide,enters_of Tryz.func252 (by kernel_rfl) rfl⟩
theorem G252_hev:∀ x,fnR Tryz.prog G252_C [] Tryz.f252 (bodyOf Tryz.f252) (encs [.dat (.list (.int .i64)),.dat (.int .i64)] x) ⟨[],[],0⟩ (frzF (.dat .bool))=G252 x.1 x.2.1:=by
  intro x; kernel_rfl
theorem G252_valid:G252_E.Valid Tryz.prog:=
  pureE_valid (by kernel_rfl) (by kernel_rfl) G252_ent (frz_lcall mixed Tryz.func252 rfl G252_ent G252_CV G252_LV (by kernel_rfl) (by kernel_rfl) G252_hev)
def G254_C:CalT:=CalT.vecs (tabC []) [2000023]
theorem G254_CV:CV Tryz.prog G254_C:=CV.vecs (C:=tabC []) (tabC_valid (l:=_) trivial)
def G254 (b0:((List Int)×Unit)):Option ((Int×(Bool×Unit))×(((List Int)×Unit)×Unit)):=(bif ((List.length b0.1:Int)==0) then some ((0,(false,())),(b0,())) else (bif (decide (0≤(0:Int))&&decide ((0:Int) < (List.length b0.1:Int))) then (bif (decide (0≤(1:Int))&&decide (1≤(List.length b0.1:Int))) then some (((List.getD b0.1 (Int.toNat 0) 0),(true,())),(((List.drop (Int.toNat 1) b0.1),b0.2),())) else none) else none))
abbrev G254_CS:CSpec:=⟨[.fix (.bptr 0 [])],[.cons (.own 0 (.int .i64)) (.nil)],1,[.cons (.own 0 (.int .i64)) (.nil)],1,.tup (.cons (.dat (.int .i64)) (.cons (.dat .bool) (.nil)))⟩
def G254_E:CEnt:=boxE 254 G254_CS fun x=>G254 x.2.1
theorem G254_LV:LV 1 Tryz.prog false (loopsOf (bodyOf Tryz.f254)) []:=by unfold LV; cases loopsOf (bodyOf Tryz.f254)<;>trivial
theorem G254_ent:Ent Tryz.prog 254:=⟨by decide,enters_of Tryz.func254 (by kernel_rfl) rfl⟩
theorem G254_hev:∀ x:G254_CS.In,fnR Tryz.prog G254_C [] Tryz.f254 (bodyOf Tryz.f254) (encs G254_CS.A x.1) ⟨encs G254_CS.I x.2,[],G254_CS.nt⟩ (finK G254_CS)=G254 x.2.1:=by
  intro x; kernel_rfl
theorem G254_valid:G254_E.Valid Tryz.prog:=
  boxE_valid (S:=G254_CS) (by kernel_rfl) (.inr G254_ent) (fn_lcall (S:=G254_CS) mixed Tryz.func254 rfl G254_ent G254_CV G254_LV (by kernel_rfl) (by kernel_rfl) G254_hev)
def G255_C:CalT:=tabC []
theorem G255_CV:CV Tryz.prog G255_C:=tabC_valid (l:=_) trivial
def G255 (a0:E362) (a1:Int):Option (Unit×(E362×(Int×Unit))):=some ((),(a0,(a1,())))
abbrev G255_CS:CSpec:=⟨[.ip T362,.dat (.int .i64)],[],0,[.ip T362,.dat (.int .i64)],0,.fix (.func (.func 349) .nil (.cons (.bptr 0 []) (.cons (.bptr 1 []) .nil)))⟩
def G255_E:CEnt:=boxE 255 G255_CS fun x=>G255 x.1.1 x.1.2.1
theorem G255_LV:LV 0 Tryz.prog false (loopsOf (bodyOf Tryz.f255)) []:=by unfold LV; cases loopsOf (bodyOf Tryz.f255)<;>trivial
theorem G255_ent:Ent Tryz.prog 255:=⟨by decide,enters_of Tryz.func255 (by kernel_rfl) rfl⟩
theorem G255_hev:∀ x:G255_CS.In,fnR Tryz.prog G255_C [] Tryz.f255 (bodyOf Tryz.f255) (encs G255_CS.A x.1) ⟨encs G255_CS.I x.2,[],G255_CS.nt⟩ (finK G255_CS)=G255 x.1.1 x.1.2.1:=by
  intro x; kernel_rfl
theorem G255_valid:G255_E.Valid Tryz.prog:=
  boxE_valid (S:=G255_CS) (by kernel_rfl) (.inr G255_ent) (fn_lcall (S:=G255_CS) mixed Tryz.func255 rfl G255_ent G255_CV G255_LV (by kernel_rfl) (by kernel_rfl) G255_hev)
def G350_C:CalT:=tabC []
theorem G350_CV:CV Tryz.prog G350_C:=tabC_valid (l:=_) trivial
def G350 (a0:E362) (a1:Int):Option Bool:=(bif (!decide (a1 < 0)) then some ((IntKind.wrap .i64 ((BitVec.toNat ((BitVec.ofInt (IntKind.bits .i64) (Int.fdiv a0.2.1 (2^(min (Int.toNat a1) (IntKind.bits .i64))))) &&& (BitVec.ofInt (IntKind.bits .i64) 1)):Nat):Int))==1) else none)
def G350_E:CEnt:=pureE 350 [.ip T362,.dat (.int .i64)] (.dat .bool) fun x=>G350 x.1 x.2.1
theorem G350_LV:LV 0 Tryz.prog false (loopsOf (bodyOf Tryz.f350)) []:=by unfold LV; cases loopsOf (bodyOf Tryz.f350)<;>trivial
theorem G350_ent:Ent Tryz.prog 350:=⟨by decide,enters_of Tryz.func350 (by kernel_rfl) rfl⟩
theorem G350_hev:∀ x,fnR Tryz.prog G350_C [] Tryz.f350 (bodyOf Tryz.f350) (encs [.ip T362,.dat (.int .i64)] x) ⟨[],[],0⟩ (frzF (.dat .bool))=G350 x.1 x.2.1:=by
  intro x; kernel_rfl
theorem G350_valid:G350_E.Valid Tryz.prog:=
  pureE_valid (by kernel_rfl) (by kernel_rfl) G350_ent (frz_lcall mixed Tryz.func350 rfl G350_ent G350_CV G350_LV (by kernel_rfl) (by kernel_rfl) G350_hev)
def G147_C:CalT:=tabC [G253_E]
theorem G147_CV:CV Tryz.prog G147_C:=tabC_valid (l:=_) ⟨G253_valid,trivial⟩
abbrev UT115:Type:=(Unit×(Unit×(Unit×(Unit×(Unit×(Unit×(Unit×(Unit×(Unit×(Unit×(Unit×(Unit×(Unit×(Unit×(Unit×(Unit×(Unit×(Unit×(Unit×(Unit×(Unit×(Unit×(Unit×(Unit×(Unit×(Unit×(Unit×(Unit×(Unit×(Unit×(Unit×(Unit×(Unit×(Unit×(Unit×(Unit×(Unit×(Unit×(Unit×(Unit×(Unit×(Unit×(Unit×(Unit×(Unit×(Unit×(Unit×(Unit×(Unit×(Unit×(Unit×(Unit×(Unit×(Unit×(Unit×(Unit×(Unit×(Unit×(Unit×(Unit×(Unit×(Unit×(Unit×(Unit×(Unit×(Unit×(Unit×(Unit×(Unit×(Unit×(Unit×(Unit×(Unit×(Unit×(Unit×(Unit×(Unit×(Unit×(Unit×(Unit×(Unit×(Unit×(Unit×(Unit×(Unit×(Unit×(Unit×(Unit×(Unit×(Unit×(Unit×(Unit×(Unit×(Unit×(Unit×(Unit×(Unit×(Unit×(Unit×(Unit×(Unit×(Unit×(Unit×(Unit×(Unit×(Unit×(Unit×(Unit×(Unit×(Unit×(Unit×(Unit×(Unit×(Unit×(Unit×Unit)))))))))))))))))))))))))))))))))))))))))))))))))))))))))))))))))))))))))))))))))))))))))))))))))))))))))))))))))))
abbrev UC115:(Unit×(Unit×(Unit×(Unit×(Unit×(Unit×(Unit×(Unit×(Unit×(Unit×(Unit×(Unit×(Unit×(Unit×(Unit×(Unit×(Unit×(Unit×(Unit×(Unit×(Unit×(Unit×(Unit×(Unit×(Unit×(Unit×(Unit×(Unit×(Unit×(Unit×(Unit×(Unit×(Unit×(Unit×(Unit×(Unit×(Unit×(Unit×(Unit×(Unit×(Unit×(Unit×(Unit×(Unit×(Unit×(Unit×(Unit×(Unit×(Unit×(Unit×(Unit×(Unit×(Unit×(Unit×(Unit×(Unit×(Unit×(Unit×(Unit×(Unit×(Unit×(Unit×(Unit×(Unit×(Unit×(Unit×(Unit×(Unit×(Unit×(Unit×(Unit×(Unit×(Unit×(Unit×(Unit×(Unit×(Unit×(Unit×(Unit×(Unit×(Unit×(Unit×(Unit×(Unit×(Unit×(Unit×(Unit×(Unit×(Unit×(Unit×(Unit×(Unit×(Unit×(Unit×(Unit×(Unit×(Unit×(Unit×(Unit×(Unit×(Unit×(Unit×(Unit×(Unit×(Unit×(Unit×(Unit×(Unit×(Unit×(Unit×(Unit×(Unit×(Unit×(Unit×(Unit×Unit))))))))))))))))))))))))))))))))))))))))))))))))))))))))))))))))))))))))))))))))))))))))))))))))))))))))))))))))))):=((),((),((),((),((),((),((),((),((),((),((),((),((),((),((),((),((),((),((),((),((),((),((),((),((),((),((),((),((),((),((),((),((),((),((),((),((),((),((),((),((),((),((),((),((),((),((),((),((),((),((),((),((),((),((),((),((),((),((),((),((),((),((),((),((),((),((),((),((),((),((),((),((),((),((),((),((),((),((),((),((),((),((),((),((),((),((),((),((),((),((),((),((),((),((),((),((),((),((),((),((),((),((),((),((),((),((),((),((),((),((),((),((),((),((),())))))))))))))))))))))))))))))))))))))))))))))))))))))))))))))))))))))))))))))))))))))))))))))))))))))))))))))))))))
abbrev TY23:Type:=((Nat×UT115)×(Nat×(Int×(Int×((List Int)×(((List Int)×Unit)×Unit))))))
def G147 (a0:Int) (a1:E126) (b2:(Nat×UT115)) (b3:Nat) (b4:Int) (b5:Int) (b6:(List Int)) (b7:((List Int)×Unit)):Option (Bool×TY23):=(natK b2.1 ((bif (a1.1==b5) then (bif (decide (0≤a1.2.1)&&decide (a1.2.1 < (b3:Int))) then (bif (decide ((Int.toNat a1.2.1) < List.length b6)) then (bif (decide ((List.getD b6 (Int.toNat a1.2.1) 0) > b4)) then (bif (decide (0≤a1.2.1)&&decide (a1.2.1 < (b3:Int))) then (bif (decide ((Int.toNat a1.2.1) < List.length b6)) then (Option.bind (G253 a1.2.1 b7) fun r1=>some (true,((0,UC115),(b3,(b4,(b5,((List.set b6 (Int.toNat a1.2.1) b4),(r1.2.1,())))))))) else none) else none) else some (true,((0,UC115),(b3,(b4,(b5,(b6,(b7,())))))))) else none) else none) else some (true,((0,UC115),(b3,(b4,(b5,(b6,(b7,()))))))))) (fun _=>none))
abbrev AN103:PTy:=(.cons (.any) (.cons (.any) (.cons (.any) (.cons (.any) (.cons (.any) (.cons (.any) (.cons (.any) (.cons (.any) (.cons (.any) (.cons (.any) (.cons (.any) (.cons (.any) (.cons (.any) (.cons (.any) (.cons (.any) (.cons (.any) (.cons (.any) (.cons (.any) (.cons (.any) (.cons (.any) (.cons (.any) (.cons (.any) (.cons (.any) (.cons (.any) (.cons (.any) (.cons (.any) (.cons (.any) (.cons (.any) (.cons (.any) (.cons (.any) (.cons (.any) (.cons (.any) (.cons (.any) (.cons (.any) (.cons (.any) (.cons (.any) (.cons (.any) (.cons (.any) (.cons (.any) (.cons (.any) (.cons (.any) (.cons (.any) (.cons (.any) (.cons (.any) (.cons (.any) (.cons (.any) (.cons (.any) (.cons (.any) (.cons (.any) (.cons (.any) (.cons (.any) (.cons (.any) (.cons (.any) (.cons (.any) (.cons (.any) (.cons (.any) (.cons (.any) (.cons (.any) (.cons (.any) (.cons (.any) (.cons (.any) (.cons (.any) (.cons (.any) (.cons (.any) (.cons (.any) (.cons (.any) (.cons (.any) (.cons (.any) (.cons (.any) (.cons (.any) (.cons (.any) (.cons (.any) (.cons (.any) (.cons (.any) (.cons (.any) (.cons (.any) (.cons (.any) (.cons (.any) (.cons (.any) (.cons (.any) (.cons (.any) (.cons (.any) (.cons (.any) (.cons (.any) (.cons (.any) (.cons (.any) (.cons (.any) (.cons (.any) (.cons (.any) (.cons (.any) (.cons (.any) (.cons (.any) (.cons (.any) (.cons (.any) (.cons (.any) (.cons (.any) (.cons (.any) (.cons (.any) (.cons (.any) (.cons (.any) (.cons (.any) (.cons (.any) (.cons (.any) (.nil))))))))))))))))))))))))))))))))))))))))))))))))))))))))))))))))))))))))))))))))))))))))))))))))))))))))
abbrev G147_CS:CSpec:=⟨[.fix (.yref 0),.dat (.int .i64),.dat T126],[.lp 147 0 (.cons (.any) (.cons (.any) (.cons (.any) (.cons (.any) (.cons (.any) (.cons (.fix (.bptr 1 [])) (.cons (.any) (.cons (.fix (.bptr 2 [])) (.cons (.any) (.cons (.fix (.bptr 3 [])) (.cons (.any) (.cons (.fix (.bptr 4 [])) AN103)))))))))))),.vec 0 5 (.int .i64),.dat (.int .i64),.fix (.bptr 6 []),.dat (.int .i64),.vrow 0 (.int .i64),.cons (.own 1 (.int .i64)) (.nil)],2,[.lp 147 0 (.cons (.any) (.cons (.any) (.cons (.any) (.cons (.any) (.cons (.any) (.cons (.fix (.bptr 1 [])) (.cons (.any) (.cons (.fix (.bptr 2 [])) (.cons (.any) (.cons (.fix (.bptr 3 [])) (.cons (.any) (.cons (.fix (.bptr 4 [])) AN103)))))))))))),.vec 0 5 (.int .i64),.dat (.int .i64),.fix (.bptr 6 []),.dat (.int .i64),.vrow 0 (.int .i64),.cons (.own 1 (.int .i64)) (.nil)],2,.dat .bool⟩
def G147_E:CEnt:=boxE YLD G147_CS fun x=>G147 x.1.1 x.1.2.1 x.2.1 x.2.2.1 x.2.2.2.1 x.2.2.2.2.1 x.2.2.2.2.2.1 x.2.2.2.2.2.2.1
theorem G147_LV:LV 7 Tryz.prog true (loopsOf (rfBody (lcode 147 0))) []:=by unfold LV; cases loopsOf (rfBody (lcode 147 0))<;>trivial
theorem G147_hev:∀ x:G147_CS.In,roundR Tryz.prog G147_C [] 147 0 (encs G147_CS.A x.1) ⟨encs G147_CS.I x.2,[],G147_CS.nt⟩ (finK G147_CS)=G147 x.1.1 x.1.2.1 x.2.1 x.2.2.1 x.2.2.2.1 x.2.2.2.2.1 x.2.2.2.2.2.1 x.2.2.2.2.2.2.1:=by
  intro x; kernel_rfl
theorem G147_valid:G147_E.Valid Tryz.prog:=
  boxE_valid (S:=G147_CS) (by kernel_rfl) (.inl rfl) (rd_lcall' (S:=G147_CS) mixed G147_CV (by kernel_rfl) G147_LV ⟨_,rfl⟩ (by decide) (by kernel_rfl) (by kernel_rfl) G147_hev)
def G349_C:CalT:=tabC [G350_E,G147_E]
theorem G349_CV:CV Tryz.prog G349_C:=tabC_valid (l:=_) ⟨G350_valid,G147_valid,trivial⟩
def G349_l0_c:Code:=loopAt (bodyOf Tryz.f349) 0
abbrev PA24:PTy:=(.cons (.any) (.cons (.any) (.cons (.any) (.cons (.any) (.cons (.any) (.cons (.fix (.bptr 3 [])) (.cons (.any) (.cons (.fix (.bptr 4 [])) (.cons (.any) (.cons (.fix (.bptr 5 [])) (.cons (.any) (.cons (.fix (.bptr 6 [])) AN103))))))))))))
def G349_l0_S:SPat:=⟨[.fix (.yref 0),.fix (.bptr 1 []),.fix (.bptr 2 []),.any,.any,.any,.any,.any,.any,.any,.dat (.list T126),.dat (.int .i64),.dat (.int .i64)]++List.replicate 22 PTy.any,[.lp 147 0 PA24,.ip T362,.dat (.int .i64),.vec 0 7 (.int .i64),.dat (.int .i64),.fix (.bptr 8 []),.dat (.int .i64),.vrow 0 (.int .i64),.cons (.own 1 (.int .i64)) (.nil)],2⟩
abbrev TY25:Type:=(((List E126)×(Int×(Int×Unit)))×((Nat×UT115)×(E362×(Int×(Nat×(Int×(Int×((List Int)×(((List Int)×Unit)×Unit)))))))))
abbrev TY26:Type:=(Nat×(((List E126)×(Int×(Int×Unit)))×((Nat×UT115)×(E362×(Int×(Nat×(Int×(Int×((List Int)×(((List Int)×Unit)×Unit))))))))))
def G349_l0_step (s:TY25):Option TY26:=(bif (decide (s.1.2.2.1 < s.1.2.1)) then (bif (decide (0≤s.1.2.2.1)&&decide (s.1.2.2.1 < (List.length s.1.1:Int))) then (Option.bind (G350 s.2.2.1 s.1.2.2.1) fun r1=>(bif (!r1) then (bif (decide (s.2.2.2.1≥(List.getD s.1.1 (Int.toNat s.1.2.2.1) (0,(0,(0,(0,()))))).2.2.1)) then (Option.bind (G147 s.1.2.2.1 (List.getD s.1.1 (Int.toNat s.1.2.2.1) (0,(0,(0,(0,()))))) (s.2.1.1,UC115) s.2.2.2.2.1 s.2.2.2.2.2.1 s.2.2.2.2.2.2.1 s.2.2.2.2.2.2.2.1 s.2.2.2.2.2.2.2.2.1) fun r2=>(bif (!r2.1) then some (1,((s.1.1,(s.1.2.1,(s.1.2.2.1,()))),((r2.2.1.1,UC115),(s.2.2.1,(s.2.2.2.1,(r2.2.2.1,(r2.2.2.2.1,(r2.2.2.2.2.1,(r2.2.2.2.2.2.1,(r2.2.2.2.2.2.2.1,())))))))))) else some (0,((s.1.1,(s.1.2.1,((IntKind.wrap .i64 (s.1.2.2.1+1)),()))),((r2.2.1.1,UC115),(s.2.2.1,(s.2.2.2.1,(r2.2.2.1,(r2.2.2.2.1,(r2.2.2.2.2.1,(r2.2.2.2.2.2.1,(r2.2.2.2.2.2.2.1,())))))))))))) else some (0,((s.1.1,(s.1.2.1,((IntKind.wrap .i64 (s.1.2.2.1+1)),()))),((s.2.1.1,UC115),(s.2.2.1,(s.2.2.2.1,(s.2.2.2.2.1,(s.2.2.2.2.2.1,(s.2.2.2.2.2.2.1,(s.2.2.2.2.2.2.2.1,(s.2.2.2.2.2.2.2.2.1,()))))))))))) else some (0,((s.1.1,(s.1.2.1,((IntKind.wrap .i64 (s.1.2.2.1+1)),()))),((s.2.1.1,UC115),(s.2.2.1,(s.2.2.2.1,(s.2.2.2.2.1,(s.2.2.2.2.2.1,(s.2.2.2.2.2.2.1,(s.2.2.2.2.2.2.2.1,(s.2.2.2.2.2.2.2.2.1,())))))))))))) else none) else some (2,((s.1.1,(s.1.2.1,(s.1.2.2.1,()))),((s.2.1.1,UC115),(s.2.2.1,(s.2.2.2.1,(s.2.2.2.2.1,(s.2.2.2.2.2.1,(s.2.2.2.2.2.2.1,(s.2.2.2.2.2.2.2.1,(s.2.2.2.2.2.2.2.2.1,())))))))))))
def G349_l0_fuel (s:TY25):Nat:=Int.toNat (s.1.2.1 - s.1.2.2.1)+1
def G349_l0_run (s:TY25):Option TY26:=iter G349_l0_step (G349_l0_fuel s) s
def G349_l0_L:LoopT:=loopT G349_l0_S [.ret,.exit 0] G349_l0_run
abbrev TY27:Type:=(Unit×((Nat×UT115)×(E362×(Int×(Nat×(Int×(Int×((List Int)×(((List Int)×Unit)×Unit)))))))))
def G349 (b0:(Nat×UT115)) (b1:E362) (b2:Int) (b3:Nat) (b4:Int) (b5:Int) (b6:(List Int)) (b7:((List Int)×Unit)):Option TY27:=(Option.bind (G349_l0_run ((b1.1.2.1,((List.length b1.1.2.1:Int),(0,()))),((b0.1,UC115),(b1,(b2,(b3,(b4,(b5,(b6,(b7,())))))))))) fun q3=>(natK q3.1 (some ((),((q3.2.2.1.1,UC115),(q3.2.2.2.1,(q3.2.2.2.2.1,(q3.2.2.2.2.2.1,(q3.2.2.2.2.2.2.1,(q3.2.2.2.2.2.2.2.1,(q3.2.2.2.2.2.2.2.2.1,(q3.2.2.2.2.2.2.2.2.2.1,())))))))))) (fun _=>some ((),((q3.2.2.1.1,UC115),(q3.2.2.2.1,(q3.2.2.2.2.1,(q3.2.2.2.2.2.1,(q3.2.2.2.2.2.2.1,(q3.2.2.2.2.2.2.2.1,(q3.2.2.2.2.2.2.2.2.1,(q3.2.2.2.2.2.2.2.2.2.1,()))))))))))))
abbrev G349_CS:CSpec:=⟨[.fix (.yref 0),.fix (.bptr 1 []),.fix (.bptr 2 [])],[.lp 147 0 (.cons (.any) (.cons (.any) (.cons (.any) (.cons (.any) (.cons (.any) (.cons (.fix (.bptr 3 [])) (.cons (.any) (.cons (.fix (.bptr 4 [])) (.cons (.any) (.cons (.fix (.bptr 5 [])) (.cons (.any) (.cons (.fix (.bptr 6 [])) AN103)))))))))))),.ip T362,.dat (.int .i64),.vec 0 7 (.int .i64),.dat (.int .i64),.fix (.bptr 8 []),.dat (.int .i64),.vrow 0 (.int .i64),.cons (.own 1 (.int .i64)) (.nil)],2,[.lp 147 0 (.cons (.any) (.cons (.any) (.cons (.any) (.cons (.any) (.cons (.any) (.cons (.fix (.bptr 3 [])) (.cons (.any) (.cons (.fix (.bptr 4 [])) (.cons (.any) (.cons (.fix (.bptr 5 [])) (.cons (.any) (.cons (.fix (.bptr 6 [])) AN103)))))))))))),.ip T362,.dat (.int .i64),.vec 0 7 (.int .i64),.dat (.int .i64),.fix (.bptr 8 []),.dat (.int .i64),.vrow 0 (.int .i64),.cons (.own 1 (.int .i64)) (.nil)],2,.tup (.nil)⟩
def G349_E:CEnt:=boxE 349 G349_CS fun x=>G349 x.2.1 x.2.2.1 x.2.2.2.1 x.2.2.2.2.1 x.2.2.2.2.2.1 x.2.2.2.2.2.2.1 x.2.2.2.2.2.2.2.1 x.2.2.2.2.2.2.2.2.1
theorem G349_l0_V:LValid 9 Tryz.prog (.loop G349_l0_c) G349_l0_L false:=by
  have hb:∀ s,codeR Tryz.prog G349_C G349_l0_c [] (G349_l0_S.encE s) (G349_l0_S.encB s) (kst G349_l0_S [.ret,.exit 0])=G349_l0_step s:=by
    intro s; kernel_rfl
  have hL:LV 9 Tryz.prog false (loopsOf G349_l0_c) []:=by unfold LV; cases loopsOf G349_l0_c<;>trivial
  exact loopT_valid (fuel:=G349_l0_fuel) mixed G349_CV hL (by kernel_rfl) (by decide) rfl hb (fun s r h=>h)
theorem G349_LV:LV 9 Tryz.prog false (loopsOf (bodyOf Tryz.f349)) [G349_l0_L]:=by
  have hl:loopsOf (bodyOf Tryz.f349)=[.loop G349_l0_c]:=by kernel_rfl
  rw [hl]; exact ⟨G349_l0_V,trivial⟩
theorem G349_ent:Ent Tryz.prog 349:=⟨by decide,enters_of Tryz.func349 (by kernel_rfl) rfl⟩
theorem G349_hev:∀ x:G349_CS.In,fnR Tryz.prog G349_C [G349_l0_L] Tryz.f349 (bodyOf Tryz.f349) (encs G349_CS.A x.1) ⟨encs G349_CS.I x.2,[],G349_CS.nt⟩ (finK G349_CS)=G349 x.2.1 x.2.2.1 x.2.2.2.1 x.2.2.2.2.1 x.2.2.2.2.2.1 x.2.2.2.2.2.2.1 x.2.2.2.2.2.2.2.1 x.2.2.2.2.2.2.2.2.1:=by
  intro x; kernel_rfl
theorem G349_valid:G349_E.Valid Tryz.prog:=
  boxE_valid (S:=G349_CS) (by kernel_rfl) (.inr G349_ent) (fn_lcall (S:=G349_CS) mixed Tryz.func349 rfl G349_ent G349_CV G349_LV (by kernel_rfl) (by kernel_rfl) G349_hev)
def g147_seep_dyked_foul_C:CalT:=tabC [G253_E,G252_E,G254_E,G255_E,G349_E]
theorem g147_seep_dyked_foul_CV:CV Tryz.prog g147_seep_dyked_foul_C:=tabC_valid (l:=_) ⟨G253_valid,G252_valid,G254_valid,G255_valid,G349_valid,trivial⟩
def g147_seep_dyked_foul_l0_c:Code:=loopAt (bodyOf Tryz.f147) 0
def g147_seep_dyked_foul_l1_c:Code:=loopAt (bodyOf Tryz.f147) 1
def g147_seep_dyked_foul_l2_c:Code:=loopAt g147_seep_dyked_foul_l1_c 0
def g147_seep_dyked_foul_l3_c:Code:=loopAt g147_seep_dyked_foul_l1_c 1
def g147_seep_dyked_foul_l0_S:SPat:=⟨[.ip T362,.dat (.list (.int .i64)),.any,.any,.any,.fix (.bptr 1 []),.any,.any,.any,.any,.any,.any,.any,.any,.any,.any,.any,.any,.any,.any,.any,.any,.dat (.int .i64),.dat (.int .i64)]++List.replicate 91 PTy.any,[.vrow 0 (.int .i64),.vec 0 0 (.int .i64)],1⟩
abbrev TY28:Type:=(Nat×((E362×((List Int)×(Int×(Int×Unit))))×((List Int)×(Nat×Unit))))
def g147_seep_dyked_foul_l0_step (s:((E362×((List Int)×(Int×(Int×Unit))))×((List Int)×(Nat×Unit)))):Option TY28:=(bif (decide (s.1.2.2.2.1 < s.1.2.2.1)) then (bif (decide (0≤s.1.2.2.2.1)&&decide (s.1.2.2.2.1 < (s.2.2.1:Int))) then (bif (decide ((Int.toNat s.1.2.2.2.1) < List.length s.2.1)) then some (0,((s.1.1,(s.1.2.1,(s.1.2.2.1,((IntKind.wrap .i64 (s.1.2.2.2.1+1)),())))),((List.set s.2.1 (Int.toNat s.1.2.2.2.1) (List.length s.1.2.1:Int)),(s.2.2.1,())))) else none) else none) else some (1,((s.1.1,(s.1.2.1,(s.1.2.2.1,(s.1.2.2.2.1,())))),(s.2.1,(s.2.2.1,())))))
def g147_seep_dyked_foul_l0_fuel (s:((E362×((List Int)×(Int×(Int×Unit))))×((List Int)×(Nat×Unit)))):Nat:=Int.toNat (s.1.2.2.1 - s.1.2.2.2.1)+1
def g147_seep_dyked_foul_l0_run (s:((E362×((List Int)×(Int×(Int×Unit))))×((List Int)×(Nat×Unit)))):Option TY28:=iter g147_seep_dyked_foul_l0_step (g147_seep_dyked_foul_l0_fuel s) s
def g147_seep_dyked_foul_l0_L:LoopT:=loopT g147_seep_dyked_foul_l0_S [.exit 0] g147_seep_dyked_foul_l0_run
def g147_seep_dyked_foul_l2_S:SPat:=⟨[.ip T362,.any,.any,.any,.any,.fix (.bptr 1 []),.any,.fix (.bptr 2 []),.dat (.int .i64),.fix (.bptr 4 []),.any,.any,.any,.any,.any,.any,.any,.any,.any,.any,.any,.any,.any,.any,.any,.any,.any,.any,.any,.any,.any,.any,.dat (.list (.int .i64)),.dat (.int .i64),.dat (.int .i64),.any,.any,.any,.any,.any,.any,.any,.dat (.int .i64),.dat (.int .i64)]++List.replicate 71 PTy.any,[.vrow 0 (.int .i64),.vec 0 0 (.int .i64),.dat (.int .i64),.cons (.own 1 (.int .i64)) (.nil),.fix (.bptr 3 [])],2⟩
abbrev TY29:Type:=(Nat×((E362×(Int×((List Int)×(Int×(Int×(Int×(Int×Unit)))))))×((List Int)×(Nat×(Int×(((List Int)×Unit)×Unit))))))
def g147_seep_dyked_foul_l2_step (s:((E362×(Int×((List Int)×(Int×(Int×(Int×(Int×Unit)))))))×((List Int)×(Nat×(Int×(((List Int)×Unit)×Unit)))))):Option TY29:=(bif (decide (s.1.2.2.2.2.2.2.1 < s.1.2.2.2.2.2.1)) then (bif (decide (0≤s.1.2.2.2.2.2.2.1)&&decide (s.1.2.2.2.2.2.2.1 < (s.2.2.1:Int))) then (bif (decide ((Int.toNat s.1.2.2.2.2.2.2.1) < List.length s.2.1)) then (bif (decide ((List.getD s.2.1 (Int.toNat s.1.2.2.2.2.2.2.1) 0) < s.2.2.2.1)) then (bif (decide (0≤s.1.2.2.2.2.2.2.1)&&decide (s.1.2.2.2.2.2.2.1 < (s.2.2.1:Int))) then (bif (decide ((Int.toNat s.1.2.2.2.2.2.2.1) < List.length s.2.1)) then (bif (decide (0≤s.1.2.2.2.2.2.2.1)&&decide (s.1.2.2.2.2.2.2.1 < (s.2.2.1:Int))) then (bif (decide ((Int.toNat s.1.2.2.2.2.2.2.1) < List.length s.2.1)) then (Option.bind (G253 s.1.2.2.2.2.2.2.1 s.2.2.2.2.1) fun r2=>some (0,((s.1.1,(s.1.2.1,(s.1.2.2.1,(s.1.2.2.2.1,(s.1.2.2.2.2.1,(s.1.2.2.2.2.2.1,((IntKind.wrap .i64 (s.1.2.2.2.2.2.2.1+1)),()))))))),((List.set s.2.1 (Int.toNat s.1.2.2.2.2.2.2.1) (if s.2.2.2.1 < (List.getD s.2.1 (Int.toNat s.1.2.2.2.2.2.2.1) 0) then s.2.2.2.1 else (List.getD s.2.1 (Int.toNat s.1.2.2.2.2.2.2.1) 0))),(s.2.2.1,(s.2.2.2.1,(r2.2.1,()))))))) else none) else none) else none) else none) else (Option.bind (G252 s.1.1.1.2.2.1 s.1.2.2.2.2.2.2.1) fun r3=>(bif r3 then (bif (decide (0≤s.1.2.2.2.2.2.2.1)&&decide (s.1.2.2.2.2.2.2.1 < (s.2.2.1:Int))) then (bif (decide ((Int.toNat s.1.2.2.2.2.2.2.1) < List.length s.2.1)) then (bif (decide (0≤s.1.2.2.2.2.2.2.1)&&decide (s.1.2.2.2.2.2.2.1 < (s.2.2.1:Int))) then (bif (decide ((Int.toNat s.1.2.2.2.2.2.2.1) < List.length s.2.1)) then (Option.bind (G253 s.1.2.2.2.2.2.2.1 s.2.2.2.2.1) fun r4=>some (0,((s.1.1,(s.1.2.1,(s.1.2.2.1,(s.1.2.2.2.1,(s.1.2.2.2.2.1,(s.1.2.2.2.2.2.1,((IntKind.wrap .i64 (s.1.2.2.2.2.2.2.1+1)),()))))))),((List.set s.2.1 (Int.toNat s.1.2.2.2.2.2.2.1) (if s.2.2.2.1 < (List.getD s.2.1 (Int.toNat s.1.2.2.2.2.2.2.1) 0) then s.2.2.2.1 else (List.getD s.2.1 (Int.toNat s.1.2.2.2.2.2.2.1) 0))),(s.2.2.1,(s.2.2.2.1,(r4.2.1,()))))))) else none) else none) else none) else none) else some (0,((s.1.1,(s.1.2.1,(s.1.2.2.1,(s.1.2.2.2.1,(s.1.2.2.2.2.1,(s.1.2.2.2.2.2.1,((IntKind.wrap .i64 (s.1.2.2.2.2.2.2.1+1)),()))))))),(s.2.1,(s.2.2.1,(s.2.2.2.1,(s.2.2.2.2.1,()))))))))) else none) else none) else some (1,((s.1.1,(s.1.2.1,(s.1.2.2.1,(s.1.2.2.2.1,(s.1.2.2.2.2.1,(s.1.2.2.2.2.2.1,(s.1.2.2.2.2.2.2.1,()))))))),(s.2.1,(s.2.2.1,(s.2.2.2.1,(s.2.2.2.2.1,())))))))
def g147_seep_dyked_foul_l2_fuel (s:((E362×(Int×((List Int)×(Int×(Int×(Int×(Int×Unit)))))))×((List Int)×(Nat×(Int×(((List Int)×Unit)×Unit)))))):Nat:=Int.toNat (s.1.2.2.2.2.2.1 - s.1.2.2.2.2.2.2.1)+1
def g147_seep_dyked_foul_l2_run (s:((E362×(Int×((List Int)×(Int×(Int×(Int×(Int×Unit)))))))×((List Int)×(Nat×(Int×(((List Int)×Unit)×Unit)))))):Option TY29:=iter g147_seep_dyked_foul_l2_step (g147_seep_dyked_foul_l2_fuel s) s
def g147_seep_dyked_foul_l2_L:LoopT:=loopT g147_seep_dyked_foul_l2_S [.exit 4] g147_seep_dyked_foul_l2_run
def g147_seep_dyked_foul_f0_L:LoopT:=rfT g147_seep_dyked_foul_C 147 0 (.tmp 87) [.normal]
def g147_seep_dyked_foul_l3_S:SPat:=⟨[.ip T362,.any,.any,.any,.any,.fix (.bptr 1 []),.any,.fix (.bptr 2 []),.dat (.int .i64),.fix (.bptr 4 []),.any,.fix (.bptr 5 []),.dat .bool,.any,.any,.any,.any,.any,.any,.any,.any,.any,.any,.any,.any,.any,.any,.any,.any,.any,.any,.any,.dat (.list (.int .i64)),.dat (.int .i64),.dat (.int .i64)]++List.replicate 80 PTy.any,[.vrow 0 (.int .i64),.vec 0 0 (.int .i64),.dat (.int .i64),.cons (.own 1 (.int .i64)) (.nil),.fix (.bptr 3 []),.dat (.int .i64)],2⟩
abbrev TY30:Type:=(Nat×((E362×(Int×(Bool×((List Int)×(Int×(Int×Unit))))))×((List Int)×(Nat×(Int×(((List Int)×Unit)×(Int×Unit)))))))
def g147_seep_dyked_foul_l3_step (s:((E362×(Int×(Bool×((List Int)×(Int×(Int×Unit))))))×((List Int)×(Nat×(Int×(((List Int)×Unit)×(Int×Unit))))))):Option TY30:=(bif s.1.2.2.1 then (Option.bind (G255 s.1.1 s.1.2.1) fun r10=>(Option.bind (G349 (0,UC115) r10.2.1 r10.2.2.1 s.2.2.1 s.2.2.2.1 s.2.2.2.2.2.1 s.2.1 s.2.2.2.2.1) fun r11=>(bif (r11.2.1.1==0) then (Option.bind (G254 r11.2.2.2.2.2.2.2.2.1) fun r12=>some (0,((s.1.1,(s.1.2.1,(r12.1.2.1,(s.1.2.2.2.1,(s.1.2.2.2.2.1,(s.1.2.2.2.2.2.1,())))))),(r11.2.2.2.2.2.2.2.1,(r11.2.2.2.2.1,(r11.2.2.2.2.2.1,(r12.2.1,(r12.1.1,())))))))) else none))) else some (1,((s.1.1,(s.1.2.1,(s.1.2.2.1,(s.1.2.2.2.1,(s.1.2.2.2.2.1,(s.1.2.2.2.2.2.1,())))))),(s.2.1,(s.2.2.1,(s.2.2.2.1,(s.2.2.2.2.1,(s.2.2.2.2.2.1,()))))))))
def g147_seep_dyked_foul_l3_fuel (s:((E362×(Int×(Bool×((List Int)×(Int×(Int×Unit))))))×((List Int)×(Nat×(Int×(((List Int)×Unit)×(Int×Unit))))))):Nat:=100000
def g147_seep_dyked_foul_l3_run (s:((E362×(Int×(Bool×((List Int)×(Int×(Int×Unit))))))×((List Int)×(Nat×(Int×(((List Int)×Unit)×(Int×Unit))))))):Option TY30:=iter g147_seep_dyked_foul_l3_step (g147_seep_dyked_foul_l3_fuel s) s
def g147_seep_dyked_foul_l3_L:LoopT:=loopT g147_seep_dyked_foul_l3_S [.exit 6] g147_seep_dyked_foul_l3_run
def g147_seep_dyked_foul_l1_S:SPat:=⟨[.ip T362,.any,.any,.any,.any,.fix (.bptr 1 []),.any,.any,.any,.any,.any,.any,.any,.any,.any,.any,.any,.any,.any,.any,.any,.any,.any,.any,.any,.any,.any,.any,.any,.any,.any,.any,.dat (.list (.int .i64)),.dat (.int .i64),.dat (.int .i64)]++List.replicate 80 PTy.any,[.vrow 0 (.int .i64),.vec 0 0 (.int .i64)],1⟩
def g147_seep_dyked_foul_l1_step (s:((E362×((List Int)×(Int×(Int×Unit))))×((List Int)×(Nat×Unit)))):Option TY28:=(bif (decide (s.1.2.2.2.1 < s.1.2.2.1)) then (bif (decide (0≤s.1.2.2.2.1)&&decide (s.1.2.2.2.1 < (List.length s.1.2.1:Int))) then (Option.bind (g147_seep_dyked_foul_l2_run ((s.1.1,((List.getD s.1.2.1 (Int.toNat s.1.2.2.2.1) 0),(s.1.2.1,(s.1.2.2.1,(s.1.2.2.2.1,((s.2.2.1:Int),(0,()))))))),(s.2.1,(s.2.2.1,(s.1.2.2.2.1,(([],()),())))))) fun q5=>(Option.bind (G254 q5.2.2.2.2.2.1) fun r6=>(Option.bind (g147_seep_dyked_foul_l3_run ((q5.2.1.1,(q5.2.1.2.1,(r6.1.2.1,(q5.2.1.2.2.1,(q5.2.1.2.2.2.1,(q5.2.1.2.2.2.2.1,())))))),(q5.2.2.1,(q5.2.2.2.1,(q5.2.2.2.2.1,(r6.2.1,(r6.1.1,()))))))) fun q13=>some (0,((q13.2.1.1,(q13.2.1.2.2.2.1,(q13.2.1.2.2.2.2.1,((IntKind.wrap .i64 (q13.2.1.2.2.2.2.2.1+1)),())))),(q13.2.2.1,(q13.2.2.2.1,()))))))) else none) else some (1,((s.1.1,(s.1.2.1,(s.1.2.2.1,(s.1.2.2.2.1,())))),(s.2.1,(s.2.2.1,())))))
def g147_seep_dyked_foul_l1_fuel (s:((E362×((List Int)×(Int×(Int×Unit))))×((List Int)×(Nat×Unit)))):Nat:=Int.toNat (s.1.2.2.1 - s.1.2.2.2.1)+1
def g147_seep_dyked_foul_l1_run (s:((E362×((List Int)×(Int×(Int×Unit))))×((List Int)×(Nat×Unit)))):Option TY28:=iter g147_seep_dyked_foul_l1_step (g147_seep_dyked_foul_l1_fuel s) s
def g147_seep_dyked_foul_l1_L:LoopT:=loopT g147_seep_dyked_foul_l1_S [.exit 2] g147_seep_dyked_foul_l1_run
def g147_seep_dyked_foul (a0:E362) (a1:(List Int)):Option (List Int):=(bif (decide ((0:Int)≤a0.1.1)&&decide (a0.1.1≤(LIM:Int))&&decide (a0.1.1=a0.1.1)) then (Option.bind (g147_seep_dyked_foul_l0_run ((a0,(a1,(((Int.toNat a0.1.1):Int),(0,())))),((List.replicate (Int.toNat a0.1.1) 0),((Int.toNat a0.1.1),())))) fun q1=>(Option.bind (g147_seep_dyked_foul_l1_run ((q1.2.1.1,(q1.2.1.2.1,((List.length q1.2.1.2.1:Int),(0,())))),(q1.2.2.1,(q1.2.2.2.1,())))) fun q14=>(bif (decide (q14.2.2.2.1=List.length q14.2.2.1)) then some q14.2.2.1 else none))) else none)
def g147_seep_dyked_foul_E:CEnt:=view2E 147 [.ip T362,.dat (.list (.int .i64))] (.own 0 (.int .i64)) fun x=>g147_seep_dyked_foul x.1 x.2.1
theorem g147_seep_dyked_foul_l0_V:LValid 0 Tryz.prog (.loop g147_seep_dyked_foul_l0_c) g147_seep_dyked_foul_l0_L false:=by
  exact loopT_valid (fuel:=g147_seep_dyked_foul_l0_fuel) mixed g147_seep_dyked_foul_CV (lvNil _) (by kernel_rfl) (by decide) rfl (by intro s; kernel_rfl) (fun s r h=>h)
theorem g147_seep_dyked_foul_l2_V:LValid 0 Tryz.prog (.loop g147_seep_dyked_foul_l2_c) g147_seep_dyked_foul_l2_L false:=by
  exact loopT_valid (fuel:=g147_seep_dyked_foul_l2_fuel) mixed g147_seep_dyked_foul_CV (lvNil _) (by kernel_rfl) (by decide) rfl (by intro s; kernel_rfl) (fun s r h=>h)
theorem g147_seep_dyked_foul_f0_V:LValid 0 Tryz.prog (lcode 147 0) g147_seep_dyked_foul_f0_L:=rfT_valid' g147_seep_dyked_foul_CV (by kernel_rfl)
theorem g147_seep_dyked_foul_l3_V:LValid 0 Tryz.prog (.loop g147_seep_dyked_foul_l3_c) g147_seep_dyked_foul_l3_L false:=by
  have hb:∀ s,codeR Tryz.prog g147_seep_dyked_foul_C g147_seep_dyked_foul_l3_c [g147_seep_dyked_foul_f0_L] (g147_seep_dyked_foul_l3_S.encE s) (g147_seep_dyked_foul_l3_S.encB s) (kstQ g147_seep_dyked_foul_l3_S 0 [.exit 6])=g147_seep_dyked_foul_l3_step s:=by
    intro s; kernel_rfl
  have hl:loopsOf g147_seep_dyked_foul_l3_c=[(lcode 147 0)]:=by kernel_rfl
  have hL:LV 0 Tryz.prog false (loopsOf g147_seep_dyked_foul_l3_c) [g147_seep_dyked_foul_f0_L]:=by rw [hl]; exact ⟨g147_seep_dyked_foul_f0_V,trivial⟩
  exact loopQ_valid (fuel:=g147_seep_dyked_foul_l3_fuel) mixed g147_seep_dyked_foul_CV hL (by kernel_rfl) (by decide) rfl hb (fun s r h=>h)
theorem g147_seep_dyked_foul_l1_V:LValid 0 Tryz.prog (.loop g147_seep_dyked_foul_l1_c) g147_seep_dyked_foul_l1_L false:=by
  have hb:∀ s,codeR Tryz.prog g147_seep_dyked_foul_C g147_seep_dyked_foul_l1_c [g147_seep_dyked_foul_l2_L,g147_seep_dyked_foul_l3_L] (g147_seep_dyked_foul_l1_S.encE s) (g147_seep_dyked_foul_l1_S.encB s) (kst g147_seep_dyked_foul_l1_S [.exit 2])=g147_seep_dyked_foul_l1_step s:=by
    intro s; kernel_rfl
  have hl:loopsOf g147_seep_dyked_foul_l1_c=[.loop g147_seep_dyked_foul_l2_c,.loop g147_seep_dyked_foul_l3_c]:=by kernel_rfl
  have hL:LV 0 Tryz.prog false (loopsOf g147_seep_dyked_foul_l1_c) [g147_seep_dyked_foul_l2_L,g147_seep_dyked_foul_l3_L]:=by rw [hl]; exact ⟨g147_seep_dyked_foul_l2_V,g147_seep_dyked_foul_l3_V,trivial⟩
  exact loopT_valid (fuel:=g147_seep_dyked_foul_l1_fuel) mixed g147_seep_dyked_foul_CV hL (by kernel_rfl) (by decide) rfl hb (fun s r h=>h)
theorem g147_seep_dyked_foul_LV:LV 0 Tryz.prog false (loopsOf (bodyOf Tryz.f147)) [g147_seep_dyked_foul_l0_L,g147_seep_dyked_foul_l1_L]:=by
  have hl:loopsOf (bodyOf Tryz.f147)=[.loop g147_seep_dyked_foul_l0_c,.loop g147_seep_dyked_foul_l1_c]:=by kernel_rfl
  rw [hl]; exact ⟨g147_seep_dyked_foul_l0_V,g147_seep_dyked_foul_l1_V,trivial⟩
theorem g147_seep_dyked_foul_ent:Ent Tryz.prog 147:=⟨by decide,enters_of Tryz.func147 (by kernel_rfl) rfl⟩
theorem g147_seep_dyked_foul_hev:∀ x,fnR Tryz.prog g147_seep_dyked_foul_C [g147_seep_dyked_foul_l0_L,g147_seep_dyked_foul_l1_L] Tryz.f147 (bodyOf Tryz.f147) (encs [.ip T362,.dat (.list (.int .i64))] x) ⟨[],[],0⟩ (finV ((.int .i64)))=g147_seep_dyked_foul x.1 x.2.1:=by
  intro x; kernel_rfl
theorem g147_seep_dyked_foul_valid:g147_seep_dyked_foul_E.Valid Tryz.prog:=
  view2E_valid (nt:=1) (by kernel_rfl) (by kernel_rfl) g147_seep_dyked_foul_ent (thaw_fn mixed Tryz.func147 rfl g147_seep_dyked_foul_ent g147_seep_dyked_foul_CV g147_seep_dyked_foul_LV g147_seep_dyked_foul_hev)
end Go.Proofs.YtkeipcalbbmncaaGreat.Abs
set_option linter.unusedVariables false
set_option maxRecDepth 100000
namespace Go.Proofs.YtkeipcalbbmncaaGreat.Abs
open Go.Shelf
def G248_C:CalT:=tabC []
theorem G248_CV:CV Tryz.prog G248_C:=tabC_valid (l:=_) trivial
def G248 (a0:Int) (b1:(List Int)) (b2:(E137×(Int×Unit))):Option (Bool×((List Int)×((E137×(Int×Unit))×Unit))):=(bif (decide (0≤a0)&&decide (a0 < (List.length b1:Int))) then some ((decide ((List.getD b1 (Int.toNat a0) 0) < (List.length b2.1.2.2.2.2.1:Int))),(b1,(b2,()))) else none)
abbrev G248_CS:CSpec:=⟨[.dat (.int .i64),.fix (.bptr 0 []),.fix (.bptr 1 [])],[.dat (.list (.int .i64)),.fix (.bptr 2 []),.cons (.dat T137) (.cons (.dat (.int .i64)) (.nil))],0,[.dat (.list (.int .i64)),.fix (.bptr 2 []),.cons (.dat T137) (.cons (.dat (.int .i64)) (.nil))],0,.dat .bool⟩
def G248_E:CEnt:=boxE 248 G248_CS fun x=>G248 x.1.1 x.2.1 x.2.2.1
theorem G248_LV:LV 3 Tryz.prog false (loopsOf (bodyOf Tryz.f248)) []:=by unfold LV; cases loopsOf (bodyOf Tryz.f248)<;>trivial
theorem G248_ent:Ent Tryz.prog 248:=⟨by decide,enters_of Tryz.func248 (by kernel_rfl) rfl⟩
theorem G248_hev:∀ x:G248_CS.In,fnR Tryz.prog G248_C [] Tryz.f248 (bodyOf Tryz.f248) (encs G248_CS.A x.1) ⟨encs G248_CS.I x.2,[],G248_CS.nt⟩ (finK G248_CS)=G248 x.1.1 x.2.1 x.2.2.1:=by
  intro x; kernel_rfl
theorem G248_valid:G248_E.Valid Tryz.prog:=
  boxE_valid (S:=G248_CS) (by kernel_rfl) (.inr G248_ent) (fn_lcall (S:=G248_CS) mixed Tryz.func248 rfl G248_ent G248_CV G248_LV (by kernel_rfl) (by kernel_rfl) G248_hev)
def G178_v1_C:CalT:=tabC [G248_E]
theorem G178_v1_CV:CV Tryz.prog G178_v1_C:=tabC_valid (l:=_) ⟨G248_valid,trivial⟩
def G178_v1_l0_c:Code:=loopAt (bodyOf Tryz.f178) 0
def G178_v1_l0_S:SPat:=⟨[.dat (.list (.int .i64)),.fix (.func (.func 248) .nil (.cons (.bptr 0 []) (.cons (.bptr 1 []) .nil))),.any,.any,.dat (.int .i64),.any,.any,.dat (.int .i64),.dat (.int .i64),.any,.any,.any,.any,.any,.any,.any,.any,.any,.any],[.dat (.list (.int .i64)),.fix (.bptr 2 []),.cons (.dat T137) (.cons (.dat (.int .i64)) (.nil))],0⟩
abbrev TY31:Type:=(((List Int)×(Int×(Int×(Int×Unit))))×((List Int)×((E137×(Int×Unit))×Unit)))
abbrev TY32:Type:=(Nat×(((List Int)×(Int×(Int×(Int×Unit))))×((List Int)×((E137×(Int×Unit))×Unit))))
def G178_v1_l0_step (s:TY31):Option TY32:=(bif (decide (s.1.2.2.2.1 < s.1.2.2.1)) then (bif (decide (0≤s.1.2.2.2.1)&&decide (s.1.2.2.2.1 < (List.length s.1.1:Int))) then (Option.bind (G248 (List.getD s.1.1 (Int.toNat s.1.2.2.2.1) 0) s.2.1 s.2.2.1) fun r1=>(bif r1.1 then some (1,((s.1.1,(s.1.2.2.2.1,(s.1.2.2.1,(s.1.2.2.2.1,())))),(r1.2.1,(r1.2.2.1,())))) else some (0,((s.1.1,(s.1.2.1,(s.1.2.2.1,((IntKind.wrap .i64 (s.1.2.2.2.1+1)),())))),(r1.2.1,(r1.2.2.1,())))))) else none) else some (2,((s.1.1,(s.1.2.1,(s.1.2.2.1,(s.1.2.2.2.1,())))),(s.2.1,(s.2.2.1,())))))
def G178_v1_l0_fuel (s:TY31):Nat:=Int.toNat (s.1.2.2.1 - s.1.2.2.2.1)+1
def G178_v1_l0_run (s:TY31):Option TY32:=iter G178_v1_l0_step (G178_v1_l0_fuel s) s
def G178_v1_l0_L:LoopT:=loopT G178_v1_l0_S [.ret,.exit 0] G178_v1_l0_run
def G178_v1 (a0:(List Int)) (b1:(List Int)) (b2:(E137×(Int×Unit))):Option (Int×((List Int)×((E137×(Int×Unit))×Unit))):=(Option.bind (G178_v1_l0_run ((a0,(0,((List.length a0:Int),(0,())))),(b1,(b2,())))) fun q2=>(natK q2.1 (some (q2.2.1.2.1,(q2.2.2.1,(q2.2.2.2.1,())))) (fun _=>some ((-1),(q2.2.2.1,(q2.2.2.2.1,()))))))
abbrev G178_v1_CS:CSpec:=⟨[.dat (.list (.int .i64)),.fix (.func (.func 248) .nil (.cons (.bptr 0 []) (.cons (.bptr 1 []) .nil)))],[.dat (.list (.int .i64)),.fix (.bptr 2 []),.cons (.dat T137) (.cons (.dat (.int .i64)) (.nil))],0,[.dat (.list (.int .i64)),.fix (.bptr 2 []),.cons (.dat T137) (.cons (.dat (.int .i64)) (.nil))],0,.dat (.int .i64)⟩
def G178_v1_E:CEnt:=boxE 178 G178_v1_CS fun x=>G178_v1 x.1.1 x.2.1 x.2.2.1
theorem G178_v1_l0_V:LValid 3 Tryz.prog (.loop G178_v1_l0_c) G178_v1_l0_L false:=by
  have hb:∀ s,codeR Tryz.prog G178_v1_C G178_v1_l0_c [] (G178_v1_l0_S.encE s) (G178_v1_l0_S.encB s) (kst G178_v1_l0_S [.ret,.exit 0])=G178_v1_l0_step s:=by
    intro s; kernel_rfl
  have hL:LV 3 Tryz.prog false (loopsOf G178_v1_l0_c) []:=by unfold LV; cases loopsOf G178_v1_l0_c<;>trivial
  exact loopT_valid (fuel:=G178_v1_l0_fuel) mixed G178_v1_CV hL (by kernel_rfl) (by decide) rfl hb (fun s r h=>h)
theorem G178_v1_LV:LV 3 Tryz.prog false (loopsOf (bodyOf Tryz.f178)) [G178_v1_l0_L]:=by
  have hl:loopsOf (bodyOf Tryz.f178)=[.loop G178_v1_l0_c]:=by kernel_rfl
  rw [hl]; exact ⟨G178_v1_l0_V,trivial⟩
theorem G178_v1_ent:Ent Tryz.prog 178:=⟨by decide,enters_of Tryz.func178 (by kernel_rfl) rfl⟩
theorem G178_v1_hev:∀ x:G178_v1_CS.In,fnR Tryz.prog G178_v1_C [G178_v1_l0_L] Tryz.f178 (bodyOf Tryz.f178) (encs G178_v1_CS.A x.1) ⟨encs G178_v1_CS.I x.2,[],G178_v1_CS.nt⟩ (finK G178_v1_CS)=G178_v1 x.1.1 x.2.1 x.2.2.1:=by
  intro x; kernel_rfl
theorem G178_v1_valid:G178_v1_E.Valid Tryz.prog:=
  boxE_valid (S:=G178_v1_CS) (by kernel_rfl) (.inr G178_v1_ent) (fn_lcall (S:=G178_v1_CS) mixed Tryz.func178 rfl G178_v1_ent G178_v1_CV G178_v1_LV (by kernel_rfl) (by kernel_rfl) G178_v1_hev)
def G106_C:CalT:=tabC [G178_v1_E]
theorem G106_CV:CV Tryz.prog G106_C:=tabC_valid (l:=_) ⟨G178_v1_valid,trivial⟩
def G106 (a0:(List Int)) (b1:(List Int)) (b2:(E137×(Int×Unit))):Option (Bool×((List Int)×((E137×(Int×Unit))×Unit))):=(Option.bind (G178_v1 a0 b1 b2) fun r1=>some ((decide (r1.1≥0)),(r1.2.1,(r1.2.2.1,()))))
abbrev G106_CS:CSpec:=⟨[.dat (.list (.int .i64)),.fix (.func (.func 248) .nil (.cons (.bptr 0 []) (.cons (.bptr 1 []) .nil)))],[.dat (.list (.int .i64)),.fix (.bptr 2 []),.cons (.dat T137) (.cons (.dat (.int .i64)) (.nil))],0,[.dat (.list (.int .i64)),.fix (.bptr 2 []),.cons (.dat T137) (.cons (.dat (.int .i64)) (.nil))],0,.dat .bool⟩
def G106_E:CEnt:=boxE 106 G106_CS fun x=>G106 x.1.1 x.2.1 x.2.2.1
theorem G106_LV:LV 3 Tryz.prog false (loopsOf (bodyOf Tryz.f106)) []:=by unfold LV; cases loopsOf (bodyOf Tryz.f106)<;>trivial
theorem G106_ent:Ent Tryz.prog 106:=⟨by decide,enters_of Tryz.func106 (by kernel_rfl) rfl⟩
theorem G106_hev:∀ x:G106_CS.In,fnR Tryz.prog G106_C [] Tryz.f106 (bodyOf Tryz.f106) (encs G106_CS.A x.1) ⟨encs G106_CS.I x.2,[],G106_CS.nt⟩ (finK G106_CS)=G106 x.1.1 x.2.1 x.2.2.1:=by
  intro x; kernel_rfl
theorem G106_valid:G106_E.Valid Tryz.prog:=
  boxE_valid (S:=G106_CS) (by kernel_rfl) (.inr G106_ent) (fn_lcall (S:=G106_CS) mixed Tryz.func106 rfl G106_ent G106_CV G106_LV (by kernel_rfl) (by kernel_rfl) G106_hev)
def G144_C:CalT:=tabC [G148_E,g147_seep_dyked_foul_E,G106_E]
theorem G144_CV:CV Tryz.prog G144_C:=tabC_valid (l:=_) ⟨G148_valid,g147_seep_dyked_foul_valid,G106_valid,trivial⟩
def G144 (b0:(E137×(Int×Unit))):Option (Bool×((E137×(Int×Unit))×Unit)):=(Option.bind (G148 b0) fun r1=>(Option.bind (g147_seep_dyked_foul b0 r1) fun r2=>(Option.bind (G106 b0.1.2.2.2.1 r2 b0) fun r3=>some ((!r3.1),(r3.2.2.1,())))))
abbrev G144_CS:CSpec:=⟨[.fix (.bptr 0 [])],[.cons (.dat T137) (.cons (.dat (.int .i64)) (.nil))],0,[.cons (.dat T137) (.cons (.dat (.int .i64)) (.nil))],0,.dat .bool⟩
def G144_E:CEnt:=boxE 144 G144_CS fun x=>G144 x.2.1
theorem G144_LV:LV 1 Tryz.prog false (loopsOf (bodyOf Tryz.f144)) []:=by unfold LV; cases loopsOf (bodyOf Tryz.f144)<;>trivial
theorem G144_ent:Ent Tryz.prog 144:=⟨by decide,enters_of Tryz.func144 (by kernel_rfl) rfl⟩
theorem G144_hev:∀ x:G144_CS.In,fnR Tryz.prog G144_C [] Tryz.f144 (bodyOf Tryz.f144) (encs G144_CS.A x.1) ⟨encs G144_CS.I x.2,[],G144_CS.nt⟩ (finK G144_CS)=G144 x.2.1:=by
  intro x; kernel_rfl
theorem G144_valid:G144_E.Valid Tryz.prog:=
  boxE_valid (S:=G144_CS) (by kernel_rfl) (.inr G144_ent) (fn_lcall (S:=G144_CS) mixed Tryz.func144 rfl G144_ent G144_CV G144_LV (by kernel_rfl) (by kernel_rfl) G144_hev)
def G142_C:CalT:=tabC [G143_E,G144_E]
theorem G142_CV:CV Tryz.prog G142_C:=tabC_valid (l:=_) ⟨G143_valid,G144_valid,trivial⟩
def G142 (a0:E259) (b1:E137):Option (Bool×(E137×Unit)):=(Option.bind (G143 b1 a0.2.1) fun r1=>(altK r1 (fun r2=>(bif r2.1.2.1 then none else some (false,(b1,())))) (fun r3=>(bif r3.1.2.1 then (Option.bind (G144 r3.2.2.1) fun r4=>some (r4.1,(b1,()))) else some (false,(b1,()))))))
abbrev G142_CS:CSpec:=⟨[.dat T259,.fix (.bptr 0 [])],[.dat T137],0,[.dat T137],0,.dat .bool⟩
def G142_E:CEnt:=boxE 142 G142_CS fun x=>G142 x.1.1 x.2.1
theorem G142_LV:LV 1 Tryz.prog false (loopsOf (bodyOf Tryz.f142)) []:=by unfold LV; cases loopsOf (bodyOf Tryz.f142)<;>trivial
theorem G142_ent:Ent Tryz.prog 142:=⟨by decide,enters_of Tryz.func142 (by kernel_rfl) rfl⟩
theorem G142_hev:∀ x:G142_CS.In,fnR Tryz.prog G142_C [] Tryz.f142 (bodyOf Tryz.f142) (encs G142_CS.A x.1) ⟨encs G142_CS.I x.2,[],G142_CS.nt⟩ (finK G142_CS)=G142 x.1.1 x.2.1:=by
  intro x; kernel_rfl
theorem G142_valid:G142_E.Valid Tryz.prog:=
  boxE_valid (S:=G142_CS) (by kernel_rfl) (.inr G142_ent) (fn_lcall (S:=G142_CS) mixed Tryz.func142 rfl G142_ent G142_CV G142_LV (by kernel_rfl) (by kernel_rfl) G142_hev)
def G249_C:CalT:=tabC []
theorem G249_CV:CV Tryz.prog G249_C:=tabC_valid (l:=_) trivial
def G249_l0_c:Code:=loopAt (bodyOf Tryz.f249) 0
def G249_l0_S:SPat:=⟨[.any,.any,.dat (.int .i64),.dat (.int .i64),.any,.any,.dat (.list (.int .i64)),.dat (.int .i64),.dat (.int .i64),.any,.any,.any,.any,.any,.any,.any,.any,.any],[],0⟩
def G249_l0_step (s:((Int×(Int×((List Int)×(Int×(Int×Unit)))))×Unit)):Option (Nat×((Int×(Int×((List Int)×(Int×(Int×Unit)))))×Unit)):=(bif (decide (s.1.2.2.2.2.1 < s.1.2.2.2.1)) then (bif (decide (0≤s.1.2.2.2.2.1)&&decide (s.1.2.2.2.2.1 < (List.length s.1.2.2.1:Int))) then (bif ((List.getD s.1.2.2.1 (Int.toNat s.1.2.2.2.2.1) 0) != s.1.2.1) then some (1,(((List.getD s.1.2.2.1 (Int.toNat s.1.2.2.2.2.1) 0),(s.1.2.1,(s.1.2.2.1,(s.1.2.2.2.1,(s.1.2.2.2.2.1,()))))),())) else some (0,((s.1.1,(s.1.2.1,(s.1.2.2.1,(s.1.2.2.2.1,((IntKind.wrap .i64 (s.1.2.2.2.2.1+1)),()))))),()))) else none) else some (2,((s.1.1,(s.1.2.1,(s.1.2.2.1,(s.1.2.2.2.1,(s.1.2.2.2.2.1,()))))),())))
def G249_l0_fuel (s:((Int×(Int×((List Int)×(Int×(Int×Unit)))))×Unit)):Nat:=Int.toNat (s.1.2.2.2.1 - s.1.2.2.2.2.1)+1
def G249_l0_run (s:((Int×(Int×((List Int)×(Int×(Int×Unit)))))×Unit)):Option (Nat×((Int×(Int×((List Int)×(Int×(Int×Unit)))))×Unit)):=iter G249_l0_step (G249_l0_fuel s) s
def G249_l0_L:LoopT:=loopT G249_l0_S [.ret,.exit 0] G249_l0_run
def G249 (a0:(List Int)):Option Int:=(Option.bind (G249_l0_run ((0,(0,(a0,((List.length a0:Int),(0,()))))),())) fun q1=>(natK q1.1 (some q1.2.1.1) (fun _=>some q1.2.1.2.1)))
def G249_E:CEnt:=pureE 249 [.dat (.list (.int .i64))] (.dat (.int .i64)) fun x=>G249 x.1
theorem G249_l0_V:LValid 0 Tryz.prog (.loop G249_l0_c) G249_l0_L false:=by
  exact loopT_valid (fuel:=G249_l0_fuel) mixed G249_CV (lvNil _) (by kernel_rfl) (by decide) rfl (by intro s; kernel_rfl) (fun s r h=>h)
theorem G249_LV:LV 0 Tryz.prog false (loopsOf (bodyOf Tryz.f249)) [G249_l0_L]:=by
  have hl:loopsOf (bodyOf Tryz.f249)=[.loop G249_l0_c]:=by kernel_rfl
  rw [hl]; exact ⟨G249_l0_V,trivial⟩
theorem G249_ent:Ent Tryz.prog 249:=⟨by decide,enters_of Tryz.func249 (by kernel_rfl) rfl⟩
theorem G249_hev:∀ x,fnR Tryz.prog G249_C [G249_l0_L] Tryz.f249 (bodyOf Tryz.f249) (encs [.dat (.list (.int .i64))] x) ⟨[],[],0⟩ (frzF (.dat (.int .i64)))=G249 x.1:=by
  intro x; kernel_rfl
theorem G249_valid:G249_E.Valid Tryz.prog:=
  pureE_valid (by kernel_rfl) (by kernel_rfl) G249_ent (frz_lcall mixed Tryz.func249 rfl G249_ent G249_CV G249_LV (by kernel_rfl) (by kernel_rfl) G249_hev)
def G145_C:CalT:=tabC [G250_E,G251_E,G249_E]
theorem G145_CV:CV Tryz.prog G145_C:=tabC_valid (l:=_) ⟨G250_valid,G251_valid,G249_valid,trivial⟩
def G145 (a0:E259) (a1:E259):Option Bool:=(Option.bind (G250 a0.1 a1.1) fun r1=>(Option.bind (G250 (List.length a0.2.1:Int) (List.length a1.2.1:Int)) fun r2=>(Option.bind (G251 a0.2.1 a1.2.1) fun r3=>(Option.bind (G249 [r1,r2,r3]) fun r4=>some (decide (r4 < 0))))))
def G145_E:CEnt:=pureE 145 [.dat T259,.dat T259] (.dat .bool) fun x=>G145 x.1 x.2.1
theorem G145_LV:LV 0 Tryz.prog false (loopsOf (bodyOf Tryz.f145)) []:=by unfold LV; cases loopsOf (bodyOf Tryz.f145)<;>trivial
theorem G145_ent:Ent Tryz.prog 145:=⟨by decide,enters_of Tryz.func145 (by kernel_rfl) rfl⟩
theorem G145_hev:∀ x,fnR Tryz.prog G145_C [] Tryz.f145 (bodyOf Tryz.f145) (encs [.dat T259,.dat T259] x) ⟨[],[],0⟩ (frzF (.dat .bool))=G145 x.1 x.2.1:=by
  intro x; kernel_rfl
theorem G145_valid:G145_E.Valid Tryz.prog:=
  pureE_valid (by kernel_rfl) (by kernel_rfl) G145_ent (frz_lcall mixed Tryz.func145 rfl G145_ent G145_CV G145_LV (by kernel_rfl) (by kernel_rfl) G145_hev)
def G140_C:CalT:=tabC [G142_E,G145_E]
theorem G140_CV:CV Tryz.prog G140_C:=tabC_valid (l:=_) ⟨G142_valid,G145_valid,trivial⟩
def G140_l0_c:Code:=loopAt (bodyOf Tryz.f140) 0
def G140_l0_S:SPat:=⟨[.any,.fix (.func (.func 142) .nil (.cons (.bptr 0 []) .nil)),.fix (.func (.func 145) .nil .nil),.any,.any,.any,.fix (.bptr 1 []),.any,.fix (.bptr 2 []),.dat .bool,.any,.any,.dat (.list T259),.dat (.int .i64),.dat (.int .i64)]++List.replicate 20 PTy.any,[.dat T137,.cons (.dat (.int .i64)) (.cons (.dat (.list (.int .i64))) (.nil)),.cons (.dat (.int .i64)) (.cons (.dat (.list (.int .i64))) (.nil))],0⟩
abbrev TY33:Type:=(E137×((Int×((List Int)×Unit))×((Int×((List Int)×Unit))×Unit)))
abbrev TY34:Type:=(Nat×((Bool×((List E259)×(Int×(Int×Unit))))×(E137×((Int×((List Int)×Unit))×((Int×((List Int)×Unit))×Unit)))))
def G140_l0_step (s:((Bool×((List E259)×(Int×(Int×Unit))))×TY33)):Option TY34:=(bif (decide (s.1.2.2.2.1 < s.1.2.2.1)) then (bif (decide (0≤s.1.2.2.2.1)&&decide (s.1.2.2.2.1 < (List.length s.1.2.1:Int))) then (bif (!s.1.1) then (Option.bind (G142 (List.getD s.1.2.1 (Int.toNat s.1.2.2.2.1) (0,([],()))) s.2.1) fun r2=>(bif r2.1 then some (0,((true,(s.1.2.1,(s.1.2.2.1,((IntKind.wrap .i64 (s.1.2.2.2.1+1)),())))),(r2.2.1,(s.2.2.1,((List.getD s.1.2.1 (Int.toNat s.1.2.2.2.1) (0,([],()))),()))))) else some (0,((s.1.1,(s.1.2.1,(s.1.2.2.1,((IntKind.wrap .i64 (s.1.2.2.2.1+1)),())))),(r2.2.1,(s.2.2.1,(s.2.2.2.1,()))))))) else (Option.bind (G145 (List.getD s.1.2.1 (Int.toNat s.1.2.2.2.1) (0,([],()))) s.2.2.2.1) fun r3=>(bif r3 then (Option.bind (G142 (List.getD s.1.2.1 (Int.toNat s.1.2.2.2.1) (0,([],()))) s.2.1) fun r4=>(bif r4.1 then some (0,((true,(s.1.2.1,(s.1.2.2.1,((IntKind.wrap .i64 (s.1.2.2.2.1+1)),())))),(r4.2.1,(s.2.2.1,((List.getD s.1.2.1 (Int.toNat s.1.2.2.2.1) (0,([],()))),()))))) else some (0,((s.1.1,(s.1.2.1,(s.1.2.2.1,((IntKind.wrap .i64 (s.1.2.2.2.1+1)),())))),(r4.2.1,(s.2.2.1,(s.2.2.2.1,()))))))) else some (0,((s.1.1,(s.1.2.1,(s.1.2.2.1,((IntKind.wrap .i64 (s.1.2.2.2.1+1)),())))),(s.2.1,(s.2.2.1,(s.2.2.2.1,())))))))) else none) else some (1,((s.1.1,(s.1.2.1,(s.1.2.2.1,(s.1.2.2.2.1,())))),(s.2.1,(s.2.2.1,(s.2.2.2.1,()))))))
def G140_l0_fuel (s:((Bool×((List E259)×(Int×(Int×Unit))))×TY33)):Nat:=Int.toNat (s.1.2.2.1 - s.1.2.2.2.1)+1
def G140_l0_run (s:((Bool×((List E259)×(Int×(Int×Unit))))×TY33)):Option TY34:=iter G140_l0_step (G140_l0_fuel s) s
def G140_l0_L:LoopT:=loopT G140_l0_S [.exit 0] G140_l0_run
def G140 (a0:(List E259)) (b1:E137):Option ((E259×(Bool×Unit))×(E137×Unit)):=(Option.bind (G140_l0_run ((false,(a0,((List.length a0:Int),(0,())))),(b1,((0,([],())),((0,([],())),()))))) fun q5=>some ((q5.2.2.2.2.1,(q5.2.1.1,())),(q5.2.2.1,())))
abbrev G140_CS:CSpec:=⟨[.dat (.list T259),.fix (.func (.func 142) .nil (.cons (.bptr 0 []) .nil)),.fix (.func (.func 145) .nil .nil)],[.dat T137],0,[.dat T137],0,.tup (.cons (.dat T259) (.cons (.dat .bool) (.nil)))⟩
def G140_E:CEnt:=boxE 140 G140_CS fun x=>G140 x.1.1 x.2.1
theorem G140_l0_V:LValid 1 Tryz.prog (.loop G140_l0_c) G140_l0_L false:=by
  have hb:∀ s,codeR Tryz.prog G140_C G140_l0_c [] (G140_l0_S.encE s) (G140_l0_S.encB s) (kst G140_l0_S [.exit 0])=G140_l0_step s:=by
    intro s; kernel_rfl
  have hL:LV 1 Tryz.prog false (loopsOf G140_l0_c) []:=by unfold LV; cases loopsOf G140_l0_c<;>trivial
  exact loopT_valid (fuel:=G140_l0_fuel) mixed G140_CV hL (by kernel_rfl) (by decide) rfl hb (fun s r h=>h)
theorem G140_LV:LV 1 Tryz.prog false (loopsOf (bodyOf Tryz.f140)) [G140_l0_L]:=by
  have hl:loopsOf (bodyOf Tryz.f140)=[.loop G140_l0_c]:=by kernel_rfl
  rw [hl]; exact ⟨G140_l0_V,trivial⟩
theorem G140_ent:Ent Tryz.prog 140:=⟨by decide,enters_of Tryz.func140 (by kernel_rfl) rfl⟩
theorem G140_hev:∀ x:G140_CS.In,fnR Tryz.prog G140_C [G140_l0_L] Tryz.f140 (bodyOf Tryz.f140) (encs G140_CS.A x.1) ⟨encs G140_CS.I x.2,[],G140_CS.nt⟩ (finK G140_CS)=G140 x.1.1 x.2.1:=by
  intro x; kernel_rfl
theorem G140_valid:G140_E.Valid Tryz.prog:=
  boxE_valid (S:=G140_CS) (by kernel_rfl) (.inr G140_ent) (fn_lcall (S:=G140_CS) mixed Tryz.func140 rfl G140_ent G140_CV G140_LV (by kernel_rfl) (by kernel_rfl) G140_hev)
def G45_C:CalT:=tabC [G139_E,G141_E,G140_E]
theorem G45_CV:CV Tryz.prog G45_C:=tabC_valid (l:=_) ⟨G139_valid,G141_valid,G140_valid,trivial⟩
def G45 (a0:E137):Option ((List Int)×(Int×(Int×Unit))):=(Option.bind (G139 a0) fun r1=>(bif (!r1) then some ([],(0,(2,()))) else (Option.bind (G141 a0) fun r2=>(Option.bind (G140 r2 a0) fun r3=>(bif (!r3.1.2.1) then some ([],(0,(5,()))) else some (r3.1.1.2.1,(r3.1.1.1,(0,()))))))))
abbrev PA35:PTy:=(.cons (.dat (.list (.int .i64))) (.cons (.dat (.int .i64)) (.cons (.dat (.int .i64)) (.nil))))
def G45_E:CEnt:=pureE 45 [.dat T137] (.tup PA35) fun x=>G45 x.1
theorem G45_LV:LV 0 Tryz.prog false (loopsOf (bodyOf Tryz.f45)) []:=by unfold LV; cases loopsOf (bodyOf Tryz.f45)<;>trivial
theorem G45_ent:Ent Tryz.prog 45:=⟨by decide,enters_of Tryz.func45 (by kernel_rfl) rfl⟩
theorem G45_hev:∀ x,fnR Tryz.prog G45_C [] Tryz.f45 (bodyOf Tryz.f45) (encs [.dat T137] x) ⟨[],[],0⟩ (frzF (.tup PA35))=G45 x.1:=by
  intro x; kernel_rfl
theorem G45_valid:G45_E.Valid Tryz.prog:=
  pureE_valid (by kernel_rfl) (by kernel_rfl) G45_ent (frz_lcall mixed Tryz.func45 rfl G45_ent G45_CV G45_LV (by kernel_rfl) (by kernel_rfl) G45_hev)
def G122_C:CalT:=tabC []
theorem G122_CV:CV Tryz.prog G122_C:=tabC_valid (l:=_) trivial
def G122_l0_c:Code:=loopAt (bodyOf Tryz.f122) 0
def G122_l0_S:SPat:=⟨[.dat (.list (.int .i64)),.dat (.list (.int .i64)),.any,.any,.dat .bool,.dat (.int .i64)]++List.replicate 20 PTy.any,[],0⟩
def G122_l0_step (s:(((List Int)×((List Int)×(Bool×(Int×Unit))))×Unit)):Option (Nat×(((List Int)×((List Int)×(Bool×(Int×Unit))))×Unit)):=(bif (decide (s.1.2.2.2.1 < (List.length s.1.1:Int))) then (bif (decide (0≤s.1.2.2.2.1)&&decide (s.1.2.2.2.1 < (List.length s.1.1:Int))) then (bif (decide (0≤s.1.2.2.2.1)&&decide (s.1.2.2.2.1 < (List.length s.1.2.1:Int))) then (bif ((List.getD s.1.1 (Int.toNat s.1.2.2.2.1) 0) != (List.getD s.1.2.1 (Int.toNat s.1.2.2.2.1) 0)) then some (1,((s.1.1,(s.1.2.1,(false,(s.1.2.2.2.1,())))),())) else some (0,((s.1.1,(s.1.2.1,(s.1.2.2.1,((IntKind.wrap .i64 (s.1.2.2.2.1+1)),())))),()))) else none) else none) else some (2,((s.1.1,(s.1.2.1,(s.1.2.2.1,(s.1.2.2.2.1,())))),())))
def G122_l0_fuel (s:(((List Int)×((List Int)×(Bool×(Int×Unit))))×Unit)):Nat:=Int.toNat ((List.length s.1.1:Int) - s.1.2.2.2.1)+1
def G122_l0_run (s:(((List Int)×((List Int)×(Bool×(Int×Unit))))×Unit)):Option (Nat×(((List Int)×((List Int)×(Bool×(Int×Unit))))×Unit)):=iter G122_l0_step (G122_l0_fuel s) s
def G122_l0_L:LoopT:=loopT G122_l0_S [.ret,.exit 0] G122_l0_run
def G122 (a0:(List Int)) (a1:(List Int)):Option Bool:=(bif ((List.length a0:Int) != (List.length a1:Int)) then some false else (Option.bind (G122_l0_run ((a0,(a1,(false,(0,())))),())) fun q1=>(natK q1.1 (some q1.2.1.2.2.1) (fun _=>some true))))
def G122_E:CEnt:=pureE 122 [.dat (.list (.int .i64)),.dat (.list (.int .i64))] (.dat .bool) fun x=>G122 x.1 x.2.1
theorem G122_l0_V:LValid 0 Tryz.prog (.loop G122_l0_c) G122_l0_L false:=by
  exact loopT_valid (fuel:=G122_l0_fuel) mixed G122_CV (lvNil _) (by kernel_rfl) (by decide) rfl (by intro s; kernel_rfl) (fun s r h=>h)
theorem G122_LV:LV 0 Tryz.prog false (loopsOf (bodyOf Tryz.f122)) [G122_l0_L]:=by
  have hl:loopsOf (bodyOf Tryz.f122)=[.loop G122_l0_c]:=by kernel_rfl
  rw [hl]; exact ⟨G122_l0_V,trivial⟩
theorem G122_ent:Ent Tryz.prog 122:=⟨by decide,enters_of Tryz.func122 (by kernel_rfl) rfl⟩
theorem G122_hev:∀ x,fnR Tryz.prog G122_C [G122_l0_L] Tryz.f122 (bodyOf Tryz.f122) (encs [.dat (.list (.int .i64)),.dat (.list (.int .i64))] x) ⟨[],[],0⟩ (frzF (.dat .bool))=G122 x.1 x.2.1:=by
  intro x; kernel_rfl
theorem G122_valid:G122_E.Valid Tryz.prog:=
  pureE_valid (by kernel_rfl) (by kernel_rfl) G122_ent (frz_lcall mixed Tryz.func122 rfl G122_ent G122_CV G122_LV (by kernel_rfl) (by kernel_rfl) G122_hev)
def G123_C:CalT:=tabC []
theorem G123_CV:CV Tryz.prog G123_C:=tabC_valid (l:=_) trivial
def G123_l0_c:Code:=loopAt (bodyOf Tryz.f123) 0
def G123_l0_S:SPat:=⟨[.dat (.list (.int .i64)),.dat (.list (.int .i64)),.any,.any,.dat .bool,.dat (.int .i64)]++List.replicate 20 PTy.any,[],0⟩
def G123_l0_step (s:(((List Int)×((List Int)×(Bool×(Int×Unit))))×Unit)):Option (Nat×(((List Int)×((List Int)×(Bool×(Int×Unit))))×Unit)):=(bif (decide (s.1.2.2.2.1 < (List.length s.1.1:Int))) then (bif (decide (0≤s.1.2.2.2.1)&&decide (s.1.2.2.2.1 < (List.length s.1.1:Int))) then (bif (decide (0≤s.1.2.2.2.1)&&decide (s.1.2.2.2.1 < (List.length s.1.2.1:Int))) then (bif ((List.getD s.1.1 (Int.toNat s.1.2.2.2.1) 0) != (List.getD s.1.2.1 (Int.toNat s.1.2.2.2.1) 0)) then some (1,((s.1.1,(s.1.2.1,(false,(s.1.2.2.2.1,())))),())) else some (0,((s.1.1,(s.1.2.1,(s.1.2.2.1,((IntKind.wrap .i64 (s.1.2.2.2.1+1)),())))),()))) else none) else none) else some (2,((s.1.1,(s.1.2.1,(s.1.2.2.1,(s.1.2.2.2.1,())))),())))
def G123_l0_fuel (s:(((List Int)×((List Int)×(Bool×(Int×Unit))))×Unit)):Nat:=Int.toNat ((List.length s.1.1:Int) - s.1.2.2.2.1)+1
def G123_l0_run (s:(((List Int)×((List Int)×(Bool×(Int×Unit))))×Unit)):Option (Nat×(((List Int)×((List Int)×(Bool×(Int×Unit))))×Unit)):=iter G123_l0_step (G123_l0_fuel s) s
def G123_l0_L:LoopT:=loopT G123_l0_S [.ret,.exit 0] G123_l0_run
def G123 (a0:(List Int)) (a1:(List Int)):Option Bool:=(bif ((List.length a0:Int) != (List.length a1:Int)) then some false else (Option.bind (G123_l0_run ((a0,(a1,(false,(0,())))),())) fun q1=>(natK q1.1 (some q1.2.1.2.2.1) (fun _=>some true))))
def G123_E:CEnt:=pureE 123 [.dat (.list (.int .i64)),.dat (.list (.int .i64))] (.dat .bool) fun x=>G123 x.1 x.2.1
theorem G123_l0_V:LValid 0 Tryz.prog (.loop G123_l0_c) G123_l0_L false:=by
  exact loopT_valid (fuel:=G123_l0_fuel) mixed G123_CV (lvNil _) (by kernel_rfl) (by decide) rfl (by intro s; kernel_rfl) (fun s r h=>h)
theorem G123_LV:LV 0 Tryz.prog false (loopsOf (bodyOf Tryz.f123)) [G123_l0_L]:=by
  have hl:loopsOf (bodyOf Tryz.f123)=[.loop G123_l0_c]:=by kernel_rfl
  rw [hl]; exact ⟨G123_l0_V,trivial⟩
theorem G123_ent:Ent Tryz.prog 123:=⟨by decide,enters_of Tryz.func123 (by kernel_rfl) rfl⟩
theorem G123_hev:∀ x,fnR Tryz.prog G123_C [G123_l0_L] Tryz.f123 (bodyOf Tryz.f123) (encs [.dat (.list (.int .i64)),.dat (.list (.int .i64))] x) ⟨[],[],0⟩ (frzF (.dat .bool))=G123 x.1 x.2.1:=by
  intro x; kernel_rfl
theorem G123_valid:G123_E.Valid Tryz.prog:=
  pureE_valid (by kernel_rfl) (by kernel_rfl) G123_ent (frz_lcall mixed Tryz.func123 rfl G123_ent G123_CV G123_LV (by kernel_rfl) (by kernel_rfl) G123_hev)
def G69_C:CalT:=tabC []
theorem G69_CV:CV Tryz.prog G69_C:=tabC_valid (l:=_) trivial
def G69 (a0:Int) (a1:Int) (a2:Int):Option Bool:=(bif (decide (a0≥a1)) then some (decide (a0≤a2)) else some false)
def G69_E:CEnt:=pureE 69 [.dat (.int .i64),.dat (.int .i64),.dat (.int .i64)] (.dat .bool) fun x=>G69 x.1 x.2.1 x.2.2.1
theorem G69_LV:LV 0 Tryz.prog false (loopsOf (bodyOf Tryz.f69)) []:=by unfold LV; cases loopsOf (bodyOf Tryz.f69)<;>trivial
theorem G69_ent:Ent Tryz.prog 69:=⟨by decide,enters_of Tryz.func69 (by kernel_rfl) rfl⟩
theorem G69_hev:∀ x,fnR Tryz.prog G69_C [] Tryz.f69 (bodyOf Tryz.f69) (encs [.dat (.int .i64),.dat (.int .i64),.dat (.int .i64)] x) ⟨[],[],0⟩ (frzF (.dat .bool))=G69 x.1 x.2.1 x.2.2.1:=by
  intro x; kernel_rfl
theorem G69_valid:G69_E.Valid Tryz.prog:=
  pureE_valid (by kernel_rfl) (by kernel_rfl) G69_ent (frz_lcall mixed Tryz.func69 rfl G69_ent G69_CV G69_LV (by kernel_rfl) (by kernel_rfl) G69_hev)
def G70_C:CalT:=tabC []
theorem G70_CV:CV Tryz.prog G70_C:=tabC_valid (l:=_) trivial
def G70 (a0:E23) (a1:Int) (a2:Int):Option Bool:=(bif (decide (a0.1≥a1)) then (bif (decide (a0.1≤a0.2.1)) then some (decide (a0.2.1≤a2)) else some false) else some false)
def G70_E:CEnt:=pureE 70 [.dat T23,.dat (.int .i64),.dat (.int .i64)] (.dat .bool) fun x=>G70 x.1 x.2.1 x.2.2.1
theorem G70_LV:LV 0 Tryz.prog false (loopsOf (bodyOf Tryz.f70)) []:=by unfold LV; cases loopsOf (bodyOf Tryz.f70)<;>trivial
theorem G70_ent:Ent Tryz.prog 70:=⟨by decide,enters_of Tryz.func70 (by kernel_rfl) rfl⟩
theorem G70_hev:∀ x,fnR Tryz.prog G70_C [] Tryz.f70 (bodyOf Tryz.f70) (encs [.dat T23,.dat (.int .i64),.dat (.int .i64)] x) ⟨[],[],0⟩ (frzF (.dat .bool))=G70 x.1 x.2.1 x.2.2.1:=by
  intro x; kernel_rfl
theorem G70_valid:G70_E.Valid Tryz.prog:=
  pureE_valid (by kernel_rfl) (by kernel_rfl) G70_ent (frz_lcall mixed Tryz.func70 rfl G70_ent G70_CV G70_LV (by kernel_rfl) (by kernel_rfl) G70_hev)
def G13_C:CalT:=tabC [G69_E,G70_E]
theorem G13_CV:CV Tryz.prog G13_C:=tabC_valid (l:=_) ⟨G69_valid,G70_valid,trivial⟩
def G13_l0_c:Code:=loopAt (bodyOf Tryz.f13) 0
def G13_l0_S:SPat:=⟨[.any,.fix (.bptr 0 []),.dat .bool,.dat (.int .i64)]++List.replicate 34 PTy.any,[.dat T25],0⟩
def G13_l0_step (s:((Bool×(Int×Unit))×(E25×Unit))):Option (Nat×((Bool×(Int×Unit))×(E25×Unit))):=(bif (decide (s.1.2.1 < (List.length s.2.1.1:Int))) then (bif (decide (0≤s.1.2.1)&&decide (s.1.2.1 < (List.length s.2.1.1:Int))) then (Option.bind (G69 ((List.getD s.2.1.1 (Int.toNat s.1.2.1) (0,((0,(0,())),()))).1) 1 20000) fun r1=>(bif (!r1) then some (1,((false,(s.1.2.1,())),(s.2.1,()))) else (bif (decide (0≤s.1.2.1)&&decide (s.1.2.1 < (List.length s.2.1.1:Int))) then (Option.bind (G70 ((List.getD s.2.1.1 (Int.toNat s.1.2.1) (0,((0,(0,())),()))).2.1) 1 1000) fun r2=>(bif (!r2) then some (1,((false,(s.1.2.1,())),(s.2.1,()))) else some (0,((s.1.1,((IntKind.wrap .i64 (s.1.2.1+1)),())),(s.2.1,()))))) else none))) else none) else some (2,((s.1.1,(s.1.2.1,())),(s.2.1,()))))
def G13_l0_fuel (s:((Bool×(Int×Unit))×(E25×Unit))):Nat:=Int.toNat ((List.length s.2.1.1:Int) - s.1.2.1)+1
def G13_l0_run (s:((Bool×(Int×Unit))×(E25×Unit))):Option (Nat×((Bool×(Int×Unit))×(E25×Unit))):=iter G13_l0_step (G13_l0_fuel s) s
def G13_l0_L:LoopT:=loopT G13_l0_S [.ret,.exit 0] G13_l0_run
def G13 (a0:E25):Option Bool:=(Option.bind (G13_l0_run ((false,(0,())),(a0,()))) fun q3=>(natK q3.1 (some q3.2.1.1) (fun _=>(Option.bind (G69 (List.length q3.2.2.1.1:Int) 1 6) fun r4=>(bif r4 then (Option.bind (G70 q3.2.2.1.2.1 0 1000000) fun r5=>some r5) else some false)))))
def G13_E:CEnt:=pureE 13 [.dat T25] (.dat .bool) fun x=>G13 x.1
theorem G13_l0_V:LValid 0 Tryz.prog (.loop G13_l0_c) G13_l0_L false:=by
  exact loopT_valid (fuel:=G13_l0_fuel) mixed G13_CV (lvNil _) (by kernel_rfl) (by decide) rfl (by intro s; kernel_rfl) (fun s r h=>h)
theorem G13_LV:LV 0 Tryz.prog false (loopsOf (bodyOf Tryz.f13)) [G13_l0_L]:=by
  have hl:loopsOf (bodyOf Tryz.f13)=[.loop G13_l0_c]:=by kernel_rfl
  rw [hl]; exact ⟨G13_l0_V,trivial⟩
theorem G13_ent:Ent Tryz.prog 13:=⟨by decide,enters_of Tryz.func13 (by kernel_rfl) rfl⟩
theorem G13_hev:∀ x,fnR Tryz.prog G13_C [G13_l0_L] Tryz.f13 (bodyOf Tryz.f13) (encs [.dat T25] x) ⟨[],[],0⟩ (frzF (.dat .bool))=G13 x.1:=by
  intro x; kernel_rfl
theorem G13_valid:G13_E.Valid Tryz.prog:=
  pureE_valid (by kernel_rfl) (by kernel_rfl) G13_ent (frz_lcall mixed Tryz.func13 rfl G13_ent G13_CV G13_LV (by kernel_rfl) (by kernel_rfl) G13_hev)
def G49_C:CalT:=tabC [G70_E]
theorem G49_CV:CV Tryz.prog G49_C:=tabC_valid (l:=_) ⟨G70_valid,trivial⟩
def G49_l0_c:Code:=loopAt (bodyOf Tryz.f49) 0
def G49_l0_S:SPat:=⟨[.dat (.list T73),.any,.dat .bool,.dat (.int .i64)]++List.replicate 31 PTy.any,[],0⟩
def G49_l0_step (s:(((List E73)×(Bool×(Int×Unit)))×Unit)):Option (Nat×(((List E73)×(Bool×(Int×Unit)))×Unit)):=(bif (decide (s.1.2.2.1 < (List.length s.1.1:Int))) then (bif (decide (0≤s.1.2.2.1)&&decide (s.1.2.2.1 < (List.length s.1.1:Int))) then (Option.bind (G70 ((List.getD s.1.1 (Int.toNat s.1.2.2.1) ((0,(0,())),((0,(0,())),((0,(0,())),())))).1) 0 1000000) fun r1=>(bif (!r1) then some (1,((s.1.1,(false,(s.1.2.2.1,()))),())) else (bif (decide (0≤s.1.2.2.1)&&decide (s.1.2.2.1 < (List.length s.1.1:Int))) then (Option.bind (G70 ((List.getD s.1.1 (Int.toNat s.1.2.2.1) ((0,(0,())),((0,(0,())),((0,(0,())),())))).2.1) 0 1000000) fun r2=>(bif (!r2) then some (1,((s.1.1,(false,(s.1.2.2.1,()))),())) else (bif (decide (0≤s.1.2.2.1)&&decide (s.1.2.2.1 < (List.length s.1.1:Int))) then (Option.bind (G70 ((List.getD s.1.1 (Int.toNat s.1.2.2.1) ((0,(0,())),((0,(0,())),((0,(0,())),())))).2.2.1) 0 1000) fun r3=>(bif (!r3) then some (1,((s.1.1,(false,(s.1.2.2.1,()))),())) else some (0,((s.1.1,(s.1.2.1,((IntKind.wrap .i64 (s.1.2.2.1+1)),()))),())))) else none))) else none))) else none) else some (2,((s.1.1,(s.1.2.1,(s.1.2.2.1,()))),())))
def G49_l0_fuel (s:(((List E73)×(Bool×(Int×Unit)))×Unit)):Nat:=Int.toNat ((List.length s.1.1:Int) - s.1.2.2.1)+1
def G49_l0_run (s:(((List E73)×(Bool×(Int×Unit)))×Unit)):Option (Nat×(((List E73)×(Bool×(Int×Unit)))×Unit)):=iter G49_l0_step (G49_l0_fuel s) s
def G49_l0_L:LoopT:=loopT G49_l0_S [.ret,.exit 0] G49_l0_run
def G49 (a0:(List E73)):Option Bool:=(Option.bind (G49_l0_run ((a0,(false,(0,()))),())) fun q4=>(natK q4.1 (some q4.2.1.2.1) (fun _=>some true)))
def G49_E:CEnt:=pureE 49 [.dat (.list T73)] (.dat .bool) fun x=>G49 x.1
theorem G49_l0_V:LValid 0 Tryz.prog (.loop G49_l0_c) G49_l0_L false:=by
  exact loopT_valid (fuel:=G49_l0_fuel) mixed G49_CV (lvNil _) (by kernel_rfl) (by decide) rfl (by intro s; kernel_rfl) (fun s r h=>h)
theorem G49_LV:LV 0 Tryz.prog false (loopsOf (bodyOf Tryz.f49)) [G49_l0_L]:=by
  have hl:loopsOf (bodyOf Tryz.f49)=[.loop G49_l0_c]:=by kernel_rfl
  rw [hl]; exact ⟨G49_l0_V,trivial⟩
theorem G49_ent:Ent Tryz.prog 49:=⟨by decide,enters_of Tryz.func49 (by kernel_rfl) rfl⟩
theorem G49_hev:∀ x,fnR Tryz.prog G49_C [G49_l0_L] Tryz.f49 (bodyOf Tryz.f49) (encs [.dat (.list T73)] x) ⟨[],[],0⟩ (frzF (.dat .bool))=G49 x.1:=by
  intro x; kernel_rfl
theorem G49_valid:G49_E.Valid Tryz.prog:=
  pureE_valid (by kernel_rfl) (by kernel_rfl) G49_ent (frz_lcall mixed Tryz.func49 rfl G49_ent G49_CV G49_LV (by kernel_rfl) (by kernel_rfl) G49_hev)
def G221_C:CalT:=tabC [G69_E]
theorem G221_CV:CV Tryz.prog G221_C:=tabC_valid (l:=_) ⟨G69_valid,trivial⟩
def G221 (a0:Int) (a1:E23):Option Bool:=(Option.bind (G69 a0 a1.1 a1.2.1) fun r1=>some r1)
def G221_E:CEnt:=pureE 221 [.dat (.int .i64),.dat T23] (.dat .bool) fun x=>G221 x.1 x.2.1
theorem G221_LV:LV 0 Tryz.prog false (loopsOf (bodyOf Tryz.f221)) []:=by unfold LV; cases loopsOf (bodyOf Tryz.f221)<;>trivial
theorem G221_ent:Ent Tryz.prog 221:=⟨by decide,enters_of Tryz.func221 (by kernel_rfl) rfl⟩
theorem G221_hev:∀ x,fnR Tryz.prog G221_C [] Tryz.f221 (bodyOf Tryz.f221) (encs [.dat (.int .i64),.dat T23] x) ⟨[],[],0⟩ (frzF (.dat .bool))=G221 x.1 x.2.1:=by
  intro x; kernel_rfl
theorem G221_valid:G221_E.Valid Tryz.prog:=
  pureE_valid (by kernel_rfl) (by kernel_rfl) G221_ent (frz_lcall mixed Tryz.func221 rfl G221_ent G221_CV G221_LV (by kernel_rfl) (by kernel_rfl) G221_hev)
def G112_C:CalT:=tabC [G221_E]
theorem G112_CV:CV Tryz.prog G112_C:=tabC_valid (l:=_) ⟨G221_valid,trivial⟩
def G112_l0_c:Code:=loopAt (bodyOf Tryz.f112) 0
def G112_l1_c:Code:=loopAt (bodyOf Tryz.f112) 1
def G112_l0_S:SPat:=⟨[.any,.dat (.list T73),.any,.fix (.bptr 0 []),.any,.fix (.bptr 1 []),.dat .bool,.dat (.int .i64)]++List.replicate 117 PTy.any,[.dat T25,.dat T118],0⟩
abbrev TY36:Type:=(Nat×(((List E73)×(Bool×(Int×Unit)))×(E25×(E118×Unit))))
def G112_l0_step (s:(((List E73)×(Bool×(Int×Unit)))×(E25×(E118×Unit)))):Option TY36:=(bif (decide (s.1.2.2.1 < (List.length s.2.1.1:Int))) then (bif (decide (0≤s.1.2.2.1)&&decide (s.1.2.2.1 < (List.length s.2.2.1.1:Int))) then (bif (decide (0≤s.1.2.2.1)&&decide (s.1.2.2.1 < (List.length s.2.1.1:Int))) then (Option.bind (G221 (List.getD s.2.2.1.1 (Int.toNat s.1.2.2.1) 0) ((List.getD s.2.1.1 (Int.toNat s.1.2.2.1) (0,((0,(0,())),()))).2.1)) fun r1=>(bif (!r1) then some (1,((s.1.1,(false,(s.1.2.2.1,()))),(s.2.1,(s.2.2.1,())))) else some (0,((s.1.1,(s.1.2.1,((IntKind.wrap .i64 (s.1.2.2.1+1)),()))),(s.2.1,(s.2.2.1,())))))) else none) else none) else some (2,((s.1.1,(s.1.2.1,(s.1.2.2.1,()))),(s.2.1,(s.2.2.1,())))))
def G112_l0_fuel (s:(((List E73)×(Bool×(Int×Unit)))×(E25×(E118×Unit)))):Nat:=Int.toNat ((List.length s.2.1.1:Int) - s.1.2.2.1)+1
def G112_l0_run (s:(((List E73)×(Bool×(Int×Unit)))×(E25×(E118×Unit)))):Option TY36:=iter G112_l0_step (G112_l0_fuel s) s
def G112_l0_L:LoopT:=loopT G112_l0_S [.ret,.exit 0] G112_l0_run
def G112_l1_S:SPat:=⟨[.any,.dat (.list T73),.any,.fix (.bptr 0 []),.any,.fix (.bptr 1 []),.dat .bool,.any,.dat (.int .i64)]++List.replicate 116 PTy.any,[.dat T25,.dat T118],0⟩
def G112_l1_step (s:(((List E73)×(Bool×(Int×Unit)))×(E25×(E118×Unit)))):Option TY36:=(bif (decide (s.1.2.2.1 < (List.length s.1.1:Int))) then (bif (decide (0≤s.1.2.2.1)&&decide (s.1.2.2.1 < (List.length s.2.2.1.2.1:Int))) then (Option.bind (G221 (List.getD s.2.2.1.2.1 (Int.toNat s.1.2.2.1) 0) s.2.1.2.1) fun r3=>(bif (!r3) then some (1,((s.1.1,(false,(s.1.2.2.1,()))),(s.2.1,(s.2.2.1,())))) else (bif (decide (0≤s.1.2.2.1)&&decide (s.1.2.2.1 < (List.length s.2.2.1.2.2.1:Int))) then (bif (decide (0≤s.1.2.2.1)&&decide (s.1.2.2.1 < (List.length s.1.1:Int))) then (Option.bind (G221 (List.getD s.2.2.1.2.2.1 (Int.toNat s.1.2.2.1) 0) ((List.getD s.1.1 (Int.toNat s.1.2.2.1) ((0,(0,())),((0,(0,())),((0,(0,())),())))).1)) fun r4=>(bif (!r4) then some (1,((s.1.1,(false,(s.1.2.2.1,()))),(s.2.1,(s.2.2.1,())))) else (bif (decide (0≤s.1.2.2.1)&&decide (s.1.2.2.1 < (List.length s.2.2.1.2.2.2.1:Int))) then (bif (decide (0≤s.1.2.2.1)&&decide (s.1.2.2.1 < (List.length s.1.1:Int))) then (Option.bind (G221 (List.getD s.2.2.1.2.2.2.1 (Int.toNat s.1.2.2.1) 0) ((List.getD s.1.1 (Int.toNat s.1.2.2.1) ((0,(0,())),((0,(0,())),((0,(0,())),())))).2.1)) fun r5=>(bif (!r5) then some (1,((s.1.1,(false,(s.1.2.2.1,()))),(s.2.1,(s.2.2.1,())))) else (bif (decide (0≤s.1.2.2.1)&&decide (s.1.2.2.1 < (List.length s.2.2.1.2.2.2.2.1:Int))) then (bif (decide (0≤s.1.2.2.1)&&decide (s.1.2.2.1 < (List.length s.1.1:Int))) then (Option.bind (G221 (List.getD s.2.2.1.2.2.2.2.1 (Int.toNat s.1.2.2.1) 0) ((List.getD s.1.1 (Int.toNat s.1.2.2.1) ((0,(0,())),((0,(0,())),((0,(0,())),())))).2.2.1)) fun r6=>(bif (!r6) then some (1,((s.1.1,(false,(s.1.2.2.1,()))),(s.2.1,(s.2.2.1,())))) else some (0,((s.1.1,(s.1.2.1,((IntKind.wrap .i64 (s.1.2.2.1+1)),()))),(s.2.1,(s.2.2.1,())))))) else none) else none))) else none) else none))) else none) else none))) else none) else some (2,((s.1.1,(s.1.2.1,(s.1.2.2.1,()))),(s.2.1,(s.2.2.1,())))))
def G112_l1_fuel (s:(((List E73)×(Bool×(Int×Unit)))×(E25×(E118×Unit)))):Nat:=Int.toNat ((List.length s.1.1:Int) - s.1.2.2.1)+1
def G112_l1_run (s:(((List E73)×(Bool×(Int×Unit)))×(E25×(E118×Unit)))):Option TY36:=iter G112_l1_step (G112_l1_fuel s) s
def G112_l1_L:LoopT:=loopT G112_l1_S [.ret,.exit 2] G112_l1_run
def G112 (a0:E25) (a1:(List E73)) (a2:E118):Option Bool:=(bif ((List.length a2.1:Int) != (List.length a0.1:Int)) then some false else (bif ((List.length a2.2.1:Int) != (List.length a1:Int)) then some false else (bif ((List.length a2.2.2.1:Int) != (List.length a1:Int)) then some false else (bif ((List.length a2.2.2.2.1:Int) != (List.length a1:Int)) then some false else (bif ((List.length a2.2.2.2.2.1:Int) != (List.length a1:Int)) then some false else (Option.bind (G112_l0_run ((a1,(false,(0,()))),(a0,(a2,())))) fun q2=>(natK q2.1 (some q2.2.1.2.1) (fun _=>(Option.bind (G112_l1_run ((q2.2.1.1,(q2.2.1.2.1,(0,()))),(q2.2.2.1,(q2.2.2.2.1,())))) fun q7=>(natK q7.1 (some q7.2.1.2.1) (fun _=>some true)))))))))))
def G112_E:CEnt:=pureE 112 [.dat T25,.dat (.list T73),.dat T118] (.dat .bool) fun x=>G112 x.1 x.2.1 x.2.2.1
theorem G112_l0_V:LValid 0 Tryz.prog (.loop G112_l0_c) G112_l0_L false:=by
  exact loopT_valid (fuel:=G112_l0_fuel) mixed G112_CV (lvNil _) (by kernel_rfl) (by decide) rfl (by intro s; kernel_rfl) (fun s r h=>h)
theorem G112_l1_V:LValid 0 Tryz.prog (.loop G112_l1_c) G112_l1_L false:=by
  exact loopT_valid (fuel:=G112_l1_fuel) mixed G112_CV (lvNil _) (by kernel_rfl) (by decide) rfl (by intro s; kernel_rfl) (fun s r h=>h)
theorem G112_LV:LV 0 Tryz.prog false (loopsOf (bodyOf Tryz.f112)) [G112_l0_L,G112_l1_L]:=by
  have hl:loopsOf (bodyOf Tryz.f112)=[.loop G112_l0_c,.loop G112_l1_c]:=by kernel_rfl
  rw [hl]; exact ⟨G112_l0_V,G112_l1_V,trivial⟩
theorem G112_ent:Ent Tryz.prog 112:=⟨by decide,enters_of Tryz.func112 (by kernel_rfl) rfl⟩
theorem G112_hev:∀ x,fnR Tryz.prog G112_C [G112_l0_L,G112_l1_L] Tryz.f112 (bodyOf Tryz.f112) (encs [.dat T25,.dat (.list T73),.dat T118] x) ⟨[],[],0⟩ (frzF (.dat .bool))=G112 x.1 x.2.1 x.2.2.1:=by
  intro x; kernel_rfl
theorem G112_valid:G112_E.Valid Tryz.prog:=
  pureE_valid (by kernel_rfl) (by kernel_rfl) G112_ent (frz_lcall mixed Tryz.func112 rfl G112_ent G112_CV G112_LV (by kernel_rfl) (by kernel_rfl) G112_hev)
def G36_C:CalT:=tabC [G13_E,G49_E,G112_E]
theorem G36_CV:CV Tryz.prog G36_C:=tabC_valid (l:=_) ⟨G13_valid,G49_valid,G112_valid,trivial⟩
def G36 (a0:E25) (a1:(List E73)) (a2:E118):Option Bool:=(bif (decide ((List.length a0.1:Int) > 10)) then some false else (bif (decide ((List.length a1:Int) > 10)) then some false else (bif (decide ((List.length a2.1:Int) > 10)) then some false else (bif (decide ((List.length a2.2.1:Int) > 10)) then some false else (bif (decide ((List.length a2.2.2.1:Int) > 10)) then some false else (bif (decide ((List.length a2.2.2.2.1:Int) > 10)) then some false else (bif (decide ((List.length a2.2.2.2.2.1:Int) > 10)) then some false else (Option.bind (G13 a0) fun r1=>(bif r1 then (Option.bind (G49 a1) fun r2=>(bif r2 then (Option.bind (G112 a0 a1 a2) fun r3=>some r3) else some false)) else some false)))))))))
def G36_E:CEnt:=pureE 36 [.dat T25,.dat (.list T73),.dat T118] (.dat .bool) fun x=>G36 x.1 x.2.1 x.2.2.1
theorem G36_LV:LV 0 Tryz.prog false (loopsOf (bodyOf Tryz.f36)) []:=by unfold LV; cases loopsOf (bodyOf Tryz.f36)<;>trivial
theorem G36_ent:Ent Tryz.prog 36:=⟨by decide,enters_of Tryz.func36 (by kernel_rfl) rfl⟩
theorem G36_hev:∀ x,fnR Tryz.prog G36_C [] Tryz.f36 (bodyOf Tryz.f36) (encs [.dat T25,.dat (.list T73),.dat T118] x) ⟨[],[],0⟩ (frzF (.dat .bool))=G36 x.1 x.2.1 x.2.2.1:=by
  intro x; kernel_rfl
theorem G36_valid:G36_E.Valid Tryz.prog:=
  pureE_valid (by kernel_rfl) (by kernel_rfl) G36_ent (frz_lcall mixed Tryz.func36 rfl G36_ent G36_CV G36_LV (by kernel_rfl) (by kernel_rfl) G36_hev)
def G282_v1_C:CalT:=tabC [G181_E]
theorem G282_v1_CV:CV Tryz.prog G282_v1_C:=tabC_valid (l:=_) ⟨G181_valid,trivial⟩
def G282_v1 (a0:E178):Option (Int×Unit):=(Option.bind (G181 a0.2.1) fun r1=>some (r1,()))
abbrev G282_v1_CS:CSpec:=⟨[.dat T178,.fix (.bptr 0 [])],[.fix (.func (.func 181) .nil .nil)],0,[.fix (.func (.func 181) .nil .nil)],0,.dat (.int .i64)⟩
def G282_v1_E:CEnt:=boxE 282 G282_v1_CS fun x=>G282_v1 x.1.1
theorem G282_v1_LV:LV 1 Tryz.prog false (loopsOf (bodyOf Tryz.f282)) []:=by unfold LV; cases loopsOf (bodyOf Tryz.f282)<;>trivial
theorem G282_v1_ent:Ent Tryz.prog 282:=⟨by decide,enters_of Tryz.func282 (by kernel_rfl) rfl⟩
theorem G282_v1_hev:∀ x:G282_v1_CS.In,fnR Tryz.prog G282_v1_C [] Tryz.f282 (bodyOf Tryz.f282) (encs G282_v1_CS.A x.1) ⟨encs G282_v1_CS.I x.2,[],G282_v1_CS.nt⟩ (finK G282_v1_CS)=G282_v1 x.1.1:=by
  intro x; kernel_rfl
theorem G282_v1_valid:G282_v1_E.Valid Tryz.prog:=
  boxE_valid (S:=G282_v1_CS) (by kernel_rfl) (.inr G282_v1_ent) (fn_lcall (S:=G282_v1_CS) mixed Tryz.func282 rfl G282_v1_ent G282_v1_CV G282_v1_LV (by kernel_rfl) (by kernel_rfl) G282_v1_hev)
def G281_v1_C:CalT:=tabC [G282_v1_E]
theorem G281_v1_CV:CV Tryz.prog G281_v1_C:=tabC_valid (l:=_) ⟨G282_v1_valid,trivial⟩
def G281_v1_l0_c:Code:=loopAt (bodyOf Tryz.f281) 0
def G281_v1_l0_S:SPat:=⟨[.any,.fix (.func (.func 282) .nil (.cons (.bptr 0 []) .nil)),.any,.any,.any,.own 0 (.int .i64),.any,.any,.dat (.list T178),.dat (.int .i64),.dat (.int .i64),.any,.any,.any,.any,.any,.any,.any,.any,.any,.any,.any],[.fix (.func (.func 181) .nil .nil)],1⟩
def G281_v1_l0_step (s:(((List Int)×((List E178)×(Int×(Int×Unit))))×Unit)):Option (Nat×(((List Int)×((List E178)×(Int×(Int×Unit))))×Unit)):=(bif (decide (s.1.2.2.2.1 < s.1.2.2.1)) then (bif (decide (0≤s.1.2.2.2.1)&&decide (s.1.2.2.2.1 < (List.length s.1.2.1:Int))) then (Option.bind (G282_v1 (List.getD s.1.2.1 (Int.toNat s.1.2.2.2.1) (0,((0,(0,())),())))) fun r1=>(bif (decide (List.length s.1.1+List.length [r1.1]≤LIM)) then some (0,(((s.1.1++[r1.1]),(s.1.2.1,(s.1.2.2.1,((IntKind.wrap .i64 (s.1.2.2.2.1+1)),())))),())) else none)) else none) else some (1,((s.1.1,(s.1.2.1,(s.1.2.2.1,(s.1.2.2.2.1,())))),())))
def G281_v1_l0_fuel (s:(((List Int)×((List E178)×(Int×(Int×Unit))))×Unit)):Nat:=Int.toNat (s.1.2.2.1 - s.1.2.2.2.1)+1
def G281_v1_l0_run (s:(((List Int)×((List E178)×(Int×(Int×Unit))))×Unit)):Option (Nat×(((List Int)×((List E178)×(Int×(Int×Unit))))×Unit)):=iter G281_v1_l0_step (G281_v1_l0_fuel s) s
def G281_v1_l0_L:LoopT:=loopT G281_v1_l0_S [.exit 0] G281_v1_l0_run
def G281_v1 (a0:(List E178)):Option ((List Int)×Unit):=(Option.bind (G281_v1_l0_run (([],(a0,((List.length a0:Int),(0,())))),())) fun q2=>some (q2.2.1.1,()))
abbrev G281_v1_CS:CSpec:=⟨[.dat (.list T178),.fix (.func (.func 282) .nil (.cons (.bptr 0 []) .nil))],[.fix (.func (.func 181) .nil .nil)],0,[.fix (.func (.func 181) .nil .nil)],0,.dat (.list (.int .i64))⟩
def G281_v1_E:CEnt:=boxE 281 G281_v1_CS fun x=>G281_v1 x.1.1
theorem G281_v1_l0_V:LValid 1 Tryz.prog (.loop G281_v1_l0_c) G281_v1_l0_L false:=by
  have hb:∀ s,codeR Tryz.prog G281_v1_C G281_v1_l0_c [] (G281_v1_l0_S.encE s) (G281_v1_l0_S.encB s) (kst G281_v1_l0_S [.exit 0])=G281_v1_l0_step s:=by
    intro s; kernel_rfl
  have hL:LV 1 Tryz.prog false (loopsOf G281_v1_l0_c) []:=by unfold LV; cases loopsOf G281_v1_l0_c<;>trivial
  exact loopT_valid (fuel:=G281_v1_l0_fuel) mixed G281_v1_CV hL (by kernel_rfl) (by decide) rfl hb (fun s r h=>h)
theorem G281_v1_LV:LV 1 Tryz.prog false (loopsOf (bodyOf Tryz.f281)) [G281_v1_l0_L]:=by
  have hl:loopsOf (bodyOf Tryz.f281)=[.loop G281_v1_l0_c]:=by kernel_rfl
  rw [hl]; exact ⟨G281_v1_l0_V,trivial⟩
theorem G281_v1_ent:Ent Tryz.prog 281:=⟨by decide,enters_of Tryz.func281 (by kernel_rfl) rfl⟩
theorem G281_v1_hev:∀ x:G281_v1_CS.In,fnR Tryz.prog G281_v1_C [G281_v1_l0_L] Tryz.f281 (bodyOf Tryz.f281) (encs G281_v1_CS.A x.1) ⟨encs G281_v1_CS.I x.2,[],G281_v1_CS.nt⟩ (finK G281_v1_CS)=G281_v1 x.1.1:=by
  intro x; kernel_rfl
theorem G281_v1_valid:G281_v1_E.Valid Tryz.prog:=
  boxE_valid (S:=G281_v1_CS) (by kernel_rfl) (.inr G281_v1_ent) (fn_lcall (S:=G281_v1_CS) mixed Tryz.func281 rfl G281_v1_ent G281_v1_CV G281_v1_LV (by kernel_rfl) (by kernel_rfl) G281_v1_hev)
def G284_v1_C:CalT:=tabC [G182_E]
theorem G284_v1_CV:CV Tryz.prog G284_v1_C:=tabC_valid (l:=_) ⟨G182_valid,trivial⟩
def G284_v1 (a0:E73) (b1:E25):Option (Int×(E25×Unit)):=(Option.bind (G182 b1.2.1) fun r1=>some (r1,(b1,())))
abbrev G284_v1_CS:CSpec:=⟨[.dat T73,.fix (.bptr 0 []),.fix (.bptr 1 [])],[.fix (.func (.func 182) .nil .nil),.dat T25],0,[.fix (.func (.func 182) .nil .nil),.dat T25],0,.dat (.int .i64)⟩
def G284_v1_E:CEnt:=boxE 284 G284_v1_CS fun x=>G284_v1 x.1.1 x.2.1
theorem G284_v1_LV:LV 2 Tryz.prog false (loopsOf (bodyOf Tryz.f284)) []:=by unfold LV; cases loopsOf (bodyOf Tryz.f284)<;>trivial
theorem G284_v1_ent:Ent Tryz.prog 284:=⟨by decide,enters_of Tryz.func284 (by kernel_rfl) rfl⟩
theorem G284_v1_hev:∀ x:G284_v1_CS.In,fnR Tryz.prog G284_v1_C [] Tryz.f284 (bodyOf Tryz.f284) (encs G284_v1_CS.A x.1) ⟨encs G284_v1_CS.I x.2,[],G284_v1_CS.nt⟩ (finK G284_v1_CS)=G284_v1 x.1.1 x.2.1:=by
  intro x; kernel_rfl
theorem G284_v1_valid:G284_v1_E.Valid Tryz.prog:=
  boxE_valid (S:=G284_v1_CS) (by kernel_rfl) (.inr G284_v1_ent) (fn_lcall (S:=G284_v1_CS) mixed Tryz.func284 rfl G284_v1_ent G284_v1_CV G284_v1_LV (by kernel_rfl) (by kernel_rfl) G284_v1_hev)
def G283_v4_C:CalT:=tabC [G284_v1_E]
theorem G283_v4_CV:CV Tryz.prog G283_v4_C:=tabC_valid (l:=_) ⟨G284_v1_valid,trivial⟩
def G283_v4_l0_c:Code:=loopAt (bodyOf Tryz.f283) 0
def G283_v4_l0_S:SPat:=⟨[.any,.fix (.func (.func 284) .nil (.cons (.bptr 0 []) (.cons (.bptr 1 []) .nil))),.any,.any,.any,.own 0 (.int .i64),.any,.any,.dat (.list T73),.dat (.int .i64),.dat (.int .i64),.any,.any,.any,.any,.any,.any,.any,.any,.any,.any,.any],[.fix (.func (.func 182) .nil .nil),.dat T25],1⟩
def G283_v4_l0_step (s:(((List Int)×((List E73)×(Int×(Int×Unit))))×(E25×Unit))):Option TY4:=(bif (decide (s.1.2.2.2.1 < s.1.2.2.1)) then (bif (decide (0≤s.1.2.2.2.1)&&decide (s.1.2.2.2.1 < (List.length s.1.2.1:Int))) then (Option.bind (G284_v1 (List.getD s.1.2.1 (Int.toNat s.1.2.2.2.1) ((0,(0,())),((0,(0,())),((0,(0,())),())))) s.2.1) fun r1=>(bif (decide (List.length s.1.1+List.length [r1.1]≤LIM)) then some (0,(((s.1.1++[r1.1]),(s.1.2.1,(s.1.2.2.1,((IntKind.wrap .i64 (s.1.2.2.2.1+1)),())))),(r1.2.1,()))) else none)) else none) else some (1,((s.1.1,(s.1.2.1,(s.1.2.2.1,(s.1.2.2.2.1,())))),(s.2.1,()))))
def G283_v4_l0_fuel (s:(((List Int)×((List E73)×(Int×(Int×Unit))))×(E25×Unit))):Nat:=Int.toNat (s.1.2.2.1 - s.1.2.2.2.1)+1
def G283_v4_l0_run (s:(((List Int)×((List E73)×(Int×(Int×Unit))))×(E25×Unit))):Option TY4:=iter G283_v4_l0_step (G283_v4_l0_fuel s) s
def G283_v4_l0_L:LoopT:=loopT G283_v4_l0_S [.exit 0] G283_v4_l0_run
def G283_v4 (a0:(List E73)) (b1:E25):Option ((List Int)×(E25×Unit)):=(Option.bind (G283_v4_l0_run (([],(a0,((List.length a0:Int),(0,())))),(b1,()))) fun q2=>some (q2.2.1.1,(q2.2.2.1,())))
abbrev G283_v4_CS:CSpec:=⟨[.dat (.list T73),.fix (.func (.func 284) .nil (.cons (.bptr 0 []) (.cons (.bptr 1 []) .nil)))],[.fix (.func (.func 182) .nil .nil),.dat T25],0,[.fix (.func (.func 182) .nil .nil),.dat T25],0,.dat (.list (.int .i64))⟩
def G283_v4_E:CEnt:=boxE 283 G283_v4_CS fun x=>G283_v4 x.1.1 x.2.1
theorem G283_v4_l0_V:LValid 2 Tryz.prog (.loop G283_v4_l0_c) G283_v4_l0_L false:=by
  have hb:∀ s,codeR Tryz.prog G283_v4_C G283_v4_l0_c [] (G283_v4_l0_S.encE s) (G283_v4_l0_S.encB s) (kst G283_v4_l0_S [.exit 0])=G283_v4_l0_step s:=by
    intro s; kernel_rfl
  have hL:LV 2 Tryz.prog false (loopsOf G283_v4_l0_c) []:=by unfold LV; cases loopsOf G283_v4_l0_c<;>trivial
  exact loopT_valid (fuel:=G283_v4_l0_fuel) mixed G283_v4_CV hL (by kernel_rfl) (by decide) rfl hb (fun s r h=>h)
theorem G283_v4_LV:LV 2 Tryz.prog false (loopsOf (bodyOf Tryz.f283)) [G283_v4_l0_L]:=by
  have hl:loopsOf (bodyOf Tryz.f283)=[.loop G283_v4_l0_c]:=by kernel_rfl
  rw [hl]; exact ⟨G283_v4_l0_V,trivial⟩
theorem G283_v4_ent:Ent Tryz.prog 283:=⟨by decide,enters_of Tryz.func283 (by kernel_rfl) rfl⟩
theorem G283_v4_hev:∀ x:G283_v4_CS.In,fnR Tryz.prog G283_v4_C [G283_v4_l0_L] Tryz.f283 (bodyOf Tryz.f283) (encs G283_v4_CS.A x.1) ⟨encs G283_v4_CS.I x.2,[],G283_v4_CS.nt⟩ (finK G283_v4_CS)=G283_v4 x.1.1 x.2.1:=by
  intro x; kernel_rfl
theorem G283_v4_valid:G283_v4_E.Valid Tryz.prog:=
  boxE_valid (S:=G283_v4_CS) (by kernel_rfl) (.inr G283_v4_ent) (fn_lcall (S:=G283_v4_CS) mixed Tryz.func283 rfl G283_v4_ent G283_v4_CV G283_v4_LV (by kernel_rfl) (by kernel_rfl) G283_v4_hev)
def G285_v1_C:CalT:=tabC [G182_E]
theorem G285_v1_CV:CV Tryz.prog G285_v1_C:=tabC_valid (l:=_) ⟨G182_valid,trivial⟩
def G285_v1 (a0:E73):Option (Int×Unit):=(Option.bind (G182 a0.1) fun r1=>some (r1,()))
abbrev G285_v1_CS:CSpec:=⟨[.dat T73,.fix (.bptr 0 [])],[.fix (.func (.func 182) .nil .nil)],0,[.fix (.func (.func 182) .nil .nil)],0,.dat (.int .i64)⟩
def G285_v1_E:CEnt:=boxE 285 G285_v1_CS fun x=>G285_v1 x.1.1
theorem G285_v1_LV:LV 1 Tryz.prog false (loopsOf (bodyOf Tryz.f285)) []:=by unfold LV; cases loopsOf (bodyOf Tryz.f285)<;>trivial
theorem G285_v1_ent:Ent Tryz.prog 285:=⟨by decide,enters_of Tryz.func285 (by kernel_rfl) rfl⟩
theorem G285_v1_hev:∀ x:G285_v1_CS.In,fnR Tryz.prog G285_v1_C [] Tryz.f285 (bodyOf Tryz.f285) (encs G285_v1_CS.A x.1) ⟨encs G285_v1_CS.I x.2,[],G285_v1_CS.nt⟩ (finK G285_v1_CS)=G285_v1 x.1.1:=by
  intro x; kernel_rfl
theorem G285_v1_valid:G285_v1_E.Valid Tryz.prog:=
  boxE_valid (S:=G285_v1_CS) (by kernel_rfl) (.inr G285_v1_ent) (fn_lcall (S:=G285_v1_CS) mixed Tryz.func285 rfl G285_v1_ent G285_v1_CV G285_v1_LV (by kernel_rfl) (by kernel_rfl) G285_v1_hev)
def G283_v5_C:CalT:=tabC [G285_v1_E]
theorem G283_v5_CV:CV Tryz.prog G283_v5_C:=tabC_valid (l:=_) ⟨G285_v1_valid,trivial⟩
def G283_v5_l0_c:Code:=loopAt (bodyOf Tryz.f283) 0
def G283_v5_l0_S:SPat:=⟨[.any,.fix (.func (.func 285) .nil (.cons (.bptr 0 []) .nil)),.any,.any,.any,.own 0 (.int .i64),.any,.any,.dat (.list T73),.dat (.int .i64),.dat (.int .i64),.any,.any,.any,.any,.any,.any,.any,.any,.any,.any,.any],[.fix (.func (.func 182) .nil .nil)],1⟩
def G283_v5_l0_step (s:(((List Int)×((List E73)×(Int×(Int×Unit))))×Unit)):Option (Nat×(((List Int)×((List E73)×(Int×(Int×Unit))))×Unit)):=(bif (decide (s.1.2.2.2.1 < s.1.2.2.1)) then (bif (decide (0≤s.1.2.2.2.1)&&decide (s.1.2.2.2.1 < (List.length s.1.2.1:Int))) then (Option.bind (G285_v1 (List.getD s.1.2.1 (Int.toNat s.1.2.2.2.1) ((0,(0,())),((0,(0,())),((0,(0,())),()))))) fun r1=>(bif (decide (List.length s.1.1+List.length [r1.1]≤LIM)) then some (0,(((s.1.1++[r1.1]),(s.1.2.1,(s.1.2.2.1,((IntKind.wrap .i64 (s.1.2.2.2.1+1)),())))),())) else none)) else none) else some (1,((s.1.1,(s.1.2.1,(s.1.2.2.1,(s.1.2.2.2.1,())))),())))
def G283_v5_l0_fuel (s:(((List Int)×((List E73)×(Int×(Int×Unit))))×Unit)):Nat:=Int.toNat (s.1.2.2.1 - s.1.2.2.2.1)+1
def G283_v5_l0_run (s:(((List Int)×((List E73)×(Int×(Int×Unit))))×Unit)):Option (Nat×(((List Int)×((List E73)×(Int×(Int×Unit))))×Unit)):=iter G283_v5_l0_step (G283_v5_l0_fuel s) s
def G283_v5_l0_L:LoopT:=loopT G283_v5_l0_S [.exit 0] G283_v5_l0_run
def G283_v5 (a0:(List E73)):Option ((List Int)×Unit):=(Option.bind (G283_v5_l0_run (([],(a0,((List.length a0:Int),(0,())))),())) fun q2=>some (q2.2.1.1,()))
abbrev G283_v5_CS:CSpec:=⟨[.dat (.list T73),.fix (.func (.func 285) .nil (.cons (.bptr 0 []) .nil))],[.fix (.func (.func 182) .nil .nil)],0,[.fix (.func (.func 182) .nil .nil)],0,.dat (.list (.int .i64))⟩
def G283_v5_E:CEnt:=boxE 283 G283_v5_CS fun x=>G283_v5 x.1.1
theorem G283_v5_l0_V:LValid 1 Tryz.prog (.loop G283_v5_l0_c) G283_v5_l0_L false:=by
  have hb:∀ s,codeR Tryz.prog G283_v5_C G283_v5_l0_c [] (G283_v5_l0_S.encE s) (G283_v5_l0_S.encB s) (kst G283_v5_l0_S [.exit 0])=G283_v5_l0_step s:=by
    intro s; kernel_rfl
  have hL:LV 1 Tryz.prog false (loopsOf G283_v5_l0_c) []:=by unfold LV; cases loopsOf G283_v5_l0_c<;>trivial
  exact loopT_valid (fuel:=G283_v5_l0_fuel) mixed G283_v5_CV hL (by kernel_rfl) (by decide) rfl hb (fun s r h=>h)
theorem G283_v5_LV:LV 1 Tryz.prog false (loopsOf (bodyOf Tryz.f283)) [G283_v5_l0_L]:=by
  have hl:loopsOf (bodyOf Tryz.f283)=[.loop G283_v5_l0_c]:=by kernel_rfl
  rw [hl]; exact ⟨G283_v5_l0_V,trivial⟩
theorem G283_v5_ent:Ent Tryz.prog 283:=⟨by decide,enters_of Tryz.func283 (by kernel_rfl) rfl⟩
theorem G283_v5_hev:∀ x:G283_v5_CS.In,fnR Tryz.prog G283_v5_C [G283_v5_l0_L] Tryz.f283 (bodyOf Tryz.f283) (encs G283_v5_CS.A x.1) ⟨encs G283_v5_CS.I x.2,[],G283_v5_CS.nt⟩ (finK G283_v5_CS)=G283_v5 x.1.1:=by
  intro x; kernel_rfl
theorem G283_v5_valid:G283_v5_E.Valid Tryz.prog:=
  boxE_valid (S:=G283_v5_CS) (by kernel_rfl) (.inr G283_v5_ent) (fn_lcall (S:=G283_v5_CS) mixed Tryz.func283 rfl G283_v5_ent G283_v5_CV G283_v5_LV (by kernel_rfl) (by kernel_rfl) G283_v5_hev)
def G286_v1_C:CalT:=tabC [G181_E]
theorem G286_v1_CV:CV Tryz.prog G286_v1_C:=tabC_valid (l:=_) ⟨G181_valid,trivial⟩
def G286_v1 (a0:E73):Option (Int×Unit):=(Option.bind (G181 a0.2.1) fun r1=>some (r1,()))
abbrev G286_v1_CS:CSpec:=⟨[.dat T73,.fix (.bptr 0 [])],[.fix (.func (.func 181) .nil .nil)],0,[.fix (.func (.func 181) .nil .nil)],0,.dat (.int .i64)⟩
def G286_v1_E:CEnt:=boxE 286 G286_v1_CS fun x=>G286_v1 x.1.1
theorem G286_v1_LV:LV 1 Tryz.prog false (loopsOf (bodyOf Tryz.f286)) []:=by unfold LV; cases loopsOf (bodyOf Tryz.f286)<;>trivial
theorem G286_v1_ent:Ent Tryz.prog 286:=⟨by decide,enters_of Tryz.func286 (by kernel_rfl) rfl⟩
theorem G286_v1_hev:∀ x:G286_v1_CS.In,fnR Tryz.prog G286_v1_C [] Tryz.f286 (bodyOf Tryz.f286) (encs G286_v1_CS.A x.1) ⟨encs G286_v1_CS.I x.2,[],G286_v1_CS.nt⟩ (finK G286_v1_CS)=G286_v1 x.1.1:=by
  intro x; kernel_rfl
theorem G286_v1_valid:G286_v1_E.Valid Tryz.prog:=
  boxE_valid (S:=G286_v1_CS) (by kernel_rfl) (.inr G286_v1_ent) (fn_lcall (S:=G286_v1_CS) mixed Tryz.func286 rfl G286_v1_ent G286_v1_CV G286_v1_LV (by kernel_rfl) (by kernel_rfl) G286_v1_hev)
def G283_v6_C:CalT:=tabC [G286_v1_E]
theorem G283_v6_CV:CV Tryz.prog G283_v6_C:=tabC_valid (l:=_) ⟨G286_v1_valid,trivial⟩
def G283_v6_l0_c:Code:=loopAt (bodyOf Tryz.f283) 0
def G283_v6_l0_S:SPat:=⟨[.any,.fix (.func (.func 286) .nil (.cons (.bptr 0 []) .nil)),.any,.any,.any,.own 0 (.int .i64),.any,.any,.dat (.list T73),.dat (.int .i64),.dat (.int .i64),.any,.any,.any,.any,.any,.any,.any,.any,.any,.any,.any],[.fix (.func (.func 181) .nil .nil)],1⟩
def G283_v6_l0_step (s:(((List Int)×((List E73)×(Int×(Int×Unit))))×Unit)):Option (Nat×(((List Int)×((List E73)×(Int×(Int×Unit))))×Unit)):=(bif (decide (s.1.2.2.2.1 < s.1.2.2.1)) then (bif (decide (0≤s.1.2.2.2.1)&&decide (s.1.2.2.2.1 < (List.length s.1.2.1:Int))) then (Option.bind (G286_v1 (List.getD s.1.2.1 (Int.toNat s.1.2.2.2.1) ((0,(0,())),((0,(0,())),((0,(0,())),()))))) fun r1=>(bif (decide (List.length s.1.1+List.length [r1.1]≤LIM)) then some (0,(((s.1.1++[r1.1]),(s.1.2.1,(s.1.2.2.1,((IntKind.wrap .i64 (s.1.2.2.2.1+1)),())))),())) else none)) else none) else some (1,((s.1.1,(s.1.2.1,(s.1.2.2.1,(s.1.2.2.2.1,())))),())))
def G283_v6_l0_fuel (s:(((List Int)×((List E73)×(Int×(Int×Unit))))×Unit)):Nat:=Int.toNat (s.1.2.2.1 - s.1.2.2.2.1)+1
def G283_v6_l0_run (s:(((List Int)×((List E73)×(Int×(Int×Unit))))×Unit)):Option (Nat×(((List Int)×((List E73)×(Int×(Int×Unit))))×Unit)):=iter G283_v6_l0_step (G283_v6_l0_fuel s) s
def G283_v6_l0_L:LoopT:=loopT G283_v6_l0_S [.exit 0] G283_v6_l0_run
def G283_v6 (a0:(List E73)):Option ((List Int)×Unit):=(Option.bind (G283_v6_l0_run (([],(a0,((List.length a0:Int),(0,())))),())) fun q2=>some (q2.2.1.1,()))
abbrev G283_v6_CS:CSpec:=⟨[.dat (.list T73),.fix (.func (.func 286) .nil (.cons (.bptr 0 []) .nil))],[.fix (.func (.func 181) .nil .nil)],0,[.fix (.func (.func 181) .nil .nil)],0,.dat (.list (.int .i64))⟩
def G283_v6_E:CEnt:=boxE 283 G283_v6_CS fun x=>G283_v6 x.1.1
theorem G283_v6_l0_V:LValid 1 Tryz.prog (.loop G283_v6_l0_c) G283_v6_l0_L false:=by
  have hb:∀ s,codeR Tryz.prog G283_v6_C G283_v6_l0_c [] (G283_v6_l0_S.encE s) (G283_v6_l0_S.encB s) (kst G283_v6_l0_S [.exit 0])=G283_v6_l0_step s:=by
    intro s; kernel_rfl
  have hL:LV 1 Tryz.prog false (loopsOf G283_v6_l0_c) []:=by unfold LV; cases loopsOf G283_v6_l0_c<;>trivial
  exact loopT_valid (fuel:=G283_v6_l0_fuel) mixed G283_v6_CV hL (by kernel_rfl) (by decide) rfl hb (fun s r h=>h)
theorem G283_v6_LV:LV 1 Tryz.prog false (loopsOf (bodyOf Tryz.f283)) [G283_v6_l0_L]:=by
  have hl:loopsOf (bodyOf Tryz.f283)=[.loop G283_v6_l0_c]:=by kernel_rfl
  rw [hl]; exact ⟨G283_v6_l0_V,trivial⟩
theorem G283_v6_ent:Ent Tryz.prog 283:=⟨by decide,enters_of Tryz.func283 (by kernel_rfl) rfl⟩
theorem G283_v6_hev:∀ x:G283_v6_CS.In,fnR Tryz.prog G283_v6_C [G283_v6_l0_L] Tryz.f283 (bodyOf Tryz.f283) (encs G283_v6_CS.A x.1) ⟨encs G283_v6_CS.I x.2,[],G283_v6_CS.nt⟩ (finK G283_v6_CS)=G283_v6 x.1.1:=by
  intro x; kernel_rfl
theorem G283_v6_valid:G283_v6_E.Valid Tryz.prog:=
  boxE_valid (S:=G283_v6_CS) (by kernel_rfl) (.inr G283_v6_ent) (fn_lcall (S:=G283_v6_CS) mixed Tryz.func283 rfl G283_v6_ent G283_v6_CV G283_v6_LV (by kernel_rfl) (by kernel_rfl) G283_v6_hev)
def G287_v1_C:CalT:=tabC [G182_E]
theorem G287_v1_CV:CV Tryz.prog G287_v1_C:=tabC_valid (l:=_) ⟨G182_valid,trivial⟩
def G287_v1 (a0:E73):Option (Int×Unit):=(Option.bind (G182 a0.2.2.1) fun r1=>some (r1,()))
abbrev G287_v1_CS:CSpec:=⟨[.dat T73,.fix (.bptr 0 [])],[.fix (.func (.func 182) .nil .nil)],0,[.fix (.func (.func 182) .nil .nil)],0,.dat (.int .i64)⟩
def G287_v1_E:CEnt:=boxE 287 G287_v1_CS fun x=>G287_v1 x.1.1
theorem G287_v1_LV:LV 1 Tryz.prog false (loopsOf (bodyOf Tryz.f287)) []:=by unfold LV; cases loopsOf (bodyOf Tryz.f287)<;>trivial
theorem G287_v1_ent:Ent Tryz.prog 287:=⟨by decide,enters_of Tryz.func287 (by kernel_rfl) rfl⟩
theorem G287_v1_hev:∀ x:G287_v1_CS.In,fnR Tryz.prog G287_v1_C [] Tryz.f287 (bodyOf Tryz.f287) (encs G287_v1_CS.A x.1) ⟨encs G287_v1_CS.I x.2,[],G287_v1_CS.nt⟩ (finK G287_v1_CS)=G287_v1 x.1.1:=by
  intro x; kernel_rfl
theorem G287_v1_valid:G287_v1_E.Valid Tryz.prog:=
  boxE_valid (S:=G287_v1_CS) (by kernel_rfl) (.inr G287_v1_ent) (fn_lcall (S:=G287_v1_CS) mixed Tryz.func287 rfl G287_v1_ent G287_v1_CV G287_v1_LV (by kernel_rfl) (by kernel_rfl) G287_v1_hev)
def G283_v7_C:CalT:=tabC [G287_v1_E]
theorem G283_v7_CV:CV Tryz.prog G283_v7_C:=tabC_valid (l:=_) ⟨G287_v1_valid,trivial⟩
def G283_v7_l0_c:Code:=loopAt (bodyOf Tryz.f283) 0
def G283_v7_l0_S:SPat:=⟨[.any,.fix (.func (.func 287) .nil (.cons (.bptr 0 []) .nil)),.any,.any,.any,.own 0 (.int .i64),.any,.any,.dat (.list T73),.dat (.int .i64),.dat (.int .i64),.any,.any,.any,.any,.any,.any,.any,.any,.any,.any,.any],[.fix (.func (.func 182) .nil .nil)],1⟩
def G283_v7_l0_step (s:(((List Int)×((List E73)×(Int×(Int×Unit))))×Unit)):Option (Nat×(((List Int)×((List E73)×(Int×(Int×Unit))))×Unit)):=(bif (decide (s.1.2.2.2.1 < s.1.2.2.1)) then (bif (decide (0≤s.1.2.2.2.1)&&decide (s.1.2.2.2.1 < (List.length s.1.2.1:Int))) then (Option.bind (G287_v1 (List.getD s.1.2.1 (Int.toNat s.1.2.2.2.1) ((0,(0,())),((0,(0,())),((0,(0,())),()))))) fun r1=>(bif (decide (List.length s.1.1+List.length [r1.1]≤LIM)) then some (0,(((s.1.1++[r1.1]),(s.1.2.1,(s.1.2.2.1,((IntKind.wrap .i64 (s.1.2.2.2.1+1)),())))),())) else none)) else none) else some (1,((s.1.1,(s.1.2.1,(s.1.2.2.1,(s.1.2.2.2.1,())))),())))
def G283_v7_l0_fuel (s:(((List Int)×((List E73)×(Int×(Int×Unit))))×Unit)):Nat:=Int.toNat (s.1.2.2.1 - s.1.2.2.2.1)+1
def G283_v7_l0_run (s:(((List Int)×((List E73)×(Int×(Int×Unit))))×Unit)):Option (Nat×(((List Int)×((List E73)×(Int×(Int×Unit))))×Unit)):=iter G283_v7_l0_step (G283_v7_l0_fuel s) s
def G283_v7_l0_L:LoopT:=loopT G283_v7_l0_S [.exit 0] G283_v7_l0_run
def G283_v7 (a0:(List E73)):Option ((List Int)×Unit):=(Option.bind (G283_v7_l0_run (([],(a0,((List.length a0:Int),(0,())))),())) fun q2=>some (q2.2.1.1,()))
abbrev G283_v7_CS:CSpec:=⟨[.dat (.list T73),.fix (.func (.func 287) .nil (.cons (.bptr 0 []) .nil))],[.fix (.func (.func 182) .nil .nil)],0,[.fix (.func (.func 182) .nil .nil)],0,.dat (.list (.int .i64))⟩
def G283_v7_E:CEnt:=boxE 283 G283_v7_CS fun x=>G283_v7 x.1.1
theorem G283_v7_l0_V:LValid 1 Tryz.prog (.loop G283_v7_l0_c) G283_v7_l0_L false:=by
  have hb:∀ s,codeR Tryz.prog G283_v7_C G283_v7_l0_c [] (G283_v7_l0_S.encE s) (G283_v7_l0_S.encB s) (kst G283_v7_l0_S [.exit 0])=G283_v7_l0_step s:=by
    intro s; kernel_rfl
  have hL:LV 1 Tryz.prog false (loopsOf G283_v7_l0_c) []:=by unfold LV; cases loopsOf G283_v7_l0_c<;>trivial
  exact loopT_valid (fuel:=G283_v7_l0_fuel) mixed G283_v7_CV hL (by kernel_rfl) (by decide) rfl hb (fun s r h=>h)
theorem G283_v7_LV:LV 1 Tryz.prog false (loopsOf (bodyOf Tryz.f283)) [G283_v7_l0_L]:=by
  have hl:loopsOf (bodyOf Tryz.f283)=[.loop G283_v7_l0_c]:=by kernel_rfl
  rw [hl]; exact ⟨G283_v7_l0_V,trivial⟩
theorem G283_v7_ent:Ent Tryz.prog 283:=⟨by decide,enters_of Tryz.func283 (by kernel_rfl) rfl⟩
theorem G283_v7_hev:∀ x:G283_v7_CS.In,fnR Tryz.prog G283_v7_C [G283_v7_l0_L] Tryz.f283 (bodyOf Tryz.f283) (encs G283_v7_CS.A x.1) ⟨encs G283_v7_CS.I x.2,[],G283_v7_CS.nt⟩ (finK G283_v7_CS)=G283_v7 x.1.1:=by
  intro x; kernel_rfl
theorem G283_v7_valid:G283_v7_E.Valid Tryz.prog:=
  boxE_valid (S:=G283_v7_CS) (by kernel_rfl) (.inr G283_v7_ent) (fn_lcall (S:=G283_v7_CS) mixed Tryz.func283 rfl G283_v7_ent G283_v7_CV G283_v7_LV (by kernel_rfl) (by kernel_rfl) G283_v7_hev)
def G180_v1_C:CalT:=tabC [G281_v1_E,G283_v4_E,G283_v5_E,G283_v6_E,G283_v7_E,G135_E]
theorem G180_v1_CV:CV Tryz.prog G180_v1_C:=tabC_valid (l:=_) ⟨G281_v1_valid,G283_v4_valid,G283_v5_valid,G283_v6_valid,G283_v7_valid,G135_valid,trivial⟩
def G180_v1 (a0:E25) (a1:(List E73)) (a2:Int):Option E172:=(Option.bind (G281_v1 a0.1) fun r1=>(Option.bind (G283_v4 a1 a0) fun r2=>(Option.bind (G283_v5 a1) fun r3=>(Option.bind (G283_v6 a1) fun r4=>(Option.bind (G283_v7 a1) fun r5=>(Option.bind (G135 (r2.2.1,((r1.1,(r2.1,(r3.1,(r4.1,(r5.1,()))))),(a2,(0,(0,(0,([],([],((0,(0,(0,()))),())))))))))) fun r6=>some r6.2.1))))))
def G180_v1_E:CEnt:=pureE 180 [.dat T25,.dat (.list T73),.fix (.func (.func 182) .nil .nil),.fix (.func (.func 181) .nil .nil),.dat (.int .i64)] (.ip T172) fun x=>G180_v1 x.1 x.2.1 x.2.2.1
theorem G180_v1_LV:LV 0 Tryz.prog false (loopsOf (bodyOf Tryz.f180)) []:=by unfold LV; cases loopsOf (bodyOf Tryz.f180)<;>trivial
theorem G180_v1_ent:Ent Tryz.prog 180:=⟨by decide,enters_of Tryz.func180 (by kernel_rfl) rfl⟩
theorem G180_v1_hev:∀ x,fnR Tryz.prog G180_v1_C [] Tryz.f180 (bodyOf Tryz.f180) (encs [.dat T25,.dat (.list T73),.fix (.func (.func 182) .nil .nil),.fix (.func (.func 181) .nil .nil),.dat (.int .i64)] x) ⟨[],[],0⟩ (frzF (.ip T172))=G180_v1 x.1 x.2.1 x.2.2.1:=by
  intro x; kernel_rfl
theorem G180_v1_valid:G180_v1_E.Valid Tryz.prog:=
  pureE_valid (by kernel_rfl) (by kernel_rfl) G180_v1_ent (frz_lcall mixed Tryz.func180 rfl G180_v1_ent G180_v1_CV G180_v1_LV (by kernel_rfl) (by kernel_rfl) G180_v1_hev)
def G80_C:CalT:=tabC [G180_v1_E]
theorem G80_CV:CV Tryz.prog G80_C:=tabC_valid (l:=_) ⟨G180_v1_valid,trivial⟩
def G80 (a0:E25) (a1:(List E73)):Option E172:=(Option.bind (G180_v1 a0 a1 0) fun r1=>some r1)
def G80_E:CEnt:=pureE 80 [.dat T25,.dat (.list T73)] (.ip T172) fun x=>G80 x.1 x.2.1
theorem G80_LV:LV 0 Tryz.prog false (loopsOf (bodyOf Tryz.f80)) []:=by unfold LV; cases loopsOf (bodyOf Tryz.f80)<;>trivial
theorem G80_ent:Ent Tryz.prog 80:=⟨by decide,enters_of Tryz.func80 (by kernel_rfl) rfl⟩
theorem G80_hev:∀ x,fnR Tryz.prog G80_C [] Tryz.f80 (bodyOf Tryz.f80) (encs [.dat T25,.dat (.list T73)] x) ⟨[],[],0⟩ (frzF (.ip T172))=G80 x.1 x.2.1:=by
  intro x; kernel_rfl
theorem G80_valid:G80_E.Valid Tryz.prog:=
  pureE_valid (by kernel_rfl) (by kernel_rfl) G80_ent (frz_lcall mixed Tryz.func80 rfl G80_ent G80_CV G80_LV (by kernel_rfl) (by kernel_rfl) G80_hev)
def G18_C:CalT:=tabC [G63_E,G80_E,G67_E]
theorem G18_CV:CV Tryz.prog G18_C:=tabC_valid (l:=_) ⟨G63_valid,G80_valid,G67_valid,trivial⟩
def G18_l0_c:Code:=loopAt (bodyOf Tryz.f18) 0
def G18_l1_c:Code:=loopAt G18_l0_c 0
def G18_l1_S:SPat:=⟨[.any,.any,.any,.any,.any,.any,.any,.fix (.bptr 1 []),.ip T172,.ip T172,.own 0 T71,.dat (.int .i64),.dat (.int .i64),.any,.any,.any,.any,.any,.any,.any,.any,.any,.any,.any,.any,.any,.any,.any,.any,.dat (.int .i64),.dat (.int .i64),.any,.any,.any,.any,.any,.any,.any,.any,.any,.any,.any,.any,.any,.any,.any,.any,.cons (.dat (.int .i64)) (.cons (.dat (.int .i64)) (.nil)),.dat (.int .i64)]++List.replicate 46 PTy.any,[.dat T25,.dat (.arr 3 (.int .i64))],1⟩
abbrev TY37:Type:=(E172×(E172×((List E71)×(Int×(Int×(Int×(Int×((Int×(Int×Unit))×(Int×Unit)))))))))
abbrev TY38:Type:=(Nat×((E172×(E172×((List E71)×(Int×(Int×(Int×(Int×((Int×(Int×Unit))×(Int×Unit)))))))))×(E25×((List Int)×Unit))))
def G18_l1_step (s:(TY37×(E25×((List Int)×Unit)))):Option TY38:=(bif (decide (s.1.2.2.2.2.2.2.2.2.1 < 2)) then (bif (decide (s.1.2.2.2.2.2.2.2.2.1=(0:Int))) then (bif (decide (s.1.2.2.2.2.2.2.2.1.1 > 0)) then some (0,((s.1.1,(s.1.2.1,(s.1.2.2.1,(s.1.2.2.2.1,((IntKind.wrap .i64 (s.1.2.2.2.2.1+1)),(s.1.2.2.2.2.2.1,(s.1.2.2.2.2.2.2.1,(s.1.2.2.2.2.2.2.2.1,((IntKind.wrap .i64 (s.1.2.2.2.2.2.2.2.2.1+1)),()))))))))),(s.2.1,(s.2.2.1,())))) else some (0,((s.1.1,(s.1.2.1,(s.1.2.2.1,(s.1.2.2.2.1,(s.1.2.2.2.2.1,(s.1.2.2.2.2.2.1,(s.1.2.2.2.2.2.2.1,(s.1.2.2.2.2.2.2.2.1,((IntKind.wrap .i64 (s.1.2.2.2.2.2.2.2.2.1+1)),()))))))))),(s.2.1,(s.2.2.1,()))))) else (bif (decide (s.1.2.2.2.2.2.2.2.2.1=(1:Int))) then (bif (decide (s.1.2.2.2.2.2.2.2.1.2.1 > 0)) then some (0,((s.1.1,(s.1.2.1,(s.1.2.2.1,(s.1.2.2.2.1,((IntKind.wrap .i64 (s.1.2.2.2.2.1+1)),(s.1.2.2.2.2.2.1,(s.1.2.2.2.2.2.2.1,(s.1.2.2.2.2.2.2.2.1,((IntKind.wrap .i64 (s.1.2.2.2.2.2.2.2.2.1+1)),()))))))))),(s.2.1,(s.2.2.1,())))) else some (0,((s.1.1,(s.1.2.1,(s.1.2.2.1,(s.1.2.2.2.1,(s.1.2.2.2.2.1,(s.1.2.2.2.2.2.1,(s.1.2.2.2.2.2.2.1,(s.1.2.2.2.2.2.2.2.1,((IntKind.wrap .i64 (s.1.2.2.2.2.2.2.2.2.1+1)),()))))))))),(s.2.1,(s.2.2.1,()))))) else none)) else some (1,((s.1.1,(s.1.2.1,(s.1.2.2.1,(s.1.2.2.2.1,(s.1.2.2.2.2.1,(s.1.2.2.2.2.2.1,(s.1.2.2.2.2.2.2.1,(s.1.2.2.2.2.2.2.2.1,(s.1.2.2.2.2.2.2.2.2.1,()))))))))),(s.2.1,(s.2.2.1,())))))
def G18_l1_fuel (s:(TY37×(E25×((List Int)×Unit)))):Nat:=Int.toNat (2 - s.1.2.2.2.2.2.2.2.2.1)+1
def G18_l1_run (s:(TY37×(E25×((List Int)×Unit)))):Option TY38:=iter G18_l1_step (G18_l1_fuel s) s
def G18_l1_L:LoopT:=loopT G18_l1_S [.exit 2] G18_l1_run
def G18_l0_S:SPat:=⟨[.any,.any,.any,.any,.any,.any,.any,.fix (.bptr 1 []),.ip T172,.ip T172,.own 0 T71,.any,.any,.any,.any,.any,.any,.any,.any,.any,.any,.any,.any,.any,.any,.any,.any,.any,.any,.dat (.int .i64),.dat (.int .i64)]++List.replicate 64 PTy.any,[.dat T25,.dat (.arr 3 (.int .i64))],1⟩
abbrev TY39:Type:=(Nat×((E172×(E172×((List E71)×(Int×(Int×Unit)))))×(E25×((List Int)×Unit))))
def G18_l0_step (s:((E172×(E172×((List E71)×(Int×(Int×Unit)))))×(E25×((List Int)×Unit)))):Option TY39:=(bif (decide (s.1.2.2.2.2.1 < s.1.2.2.2.1)) then (bif (decide (0≤s.1.2.2.2.2.1)&&decide (s.1.2.2.2.2.1 < (List.length s.1.1.2.2.2.2.2.2.2.1:Int))) then (bif (decide (0≤s.1.2.2.2.2.1)&&decide (s.1.2.2.2.2.1 < (List.length s.1.2.1.2.2.2.2.2.2.2.1:Int))) then (Option.bind (G18_l1_run ((s.1.1,(s.1.2.1,(s.1.2.2.1,(s.1.2.2.2.2.1,(0,(s.1.2.2.2.1,(s.1.2.2.2.2.1,(((List.getD s.1.1.2.2.2.2.2.2.2.1 (Int.toNat s.1.2.2.2.2.1) 0),((List.getD s.1.2.1.2.2.2.2.2.2.2.1 (Int.toNat s.1.2.2.2.2.1) 0),())),(0,()))))))))),(s.2.1,(s.2.2.1,())))) fun q4=>(bif (decide (0≤q4.2.1.2.2.2.1)&&decide (q4.2.1.2.2.2.1 < (List.length q4.2.1.1.2.2.2.2.2.2.1:Int))) then (bif (decide (0≤q4.2.1.2.2.2.1)&&decide (q4.2.1.2.2.2.1 < (List.length q4.2.1.2.1.2.2.2.2.2.2.1:Int))) then (bif (decide (0≤q4.2.1.2.2.2.1)&&decide (q4.2.1.2.2.2.1 < (List.length q4.2.1.1.2.2.2.2.2.2.2.1:Int))) then (bif (decide (0≤q4.2.1.2.2.2.1)&&decide (q4.2.1.2.2.2.1 < (List.length q4.2.1.2.1.2.2.2.2.2.2.2.1:Int))) then (bif (decide (0≤q4.2.1.2.2.2.2.1)&&decide (q4.2.1.2.2.2.2.1 < (3:Int))) then (bif (decide (List.length q4.2.1.2.2.1+List.length [(((List.getD q4.2.1.1.2.2.2.2.2.2.1 (Int.toNat q4.2.1.2.2.2.1) 0),((List.getD q4.2.1.2.1.2.2.2.2.2.2.1 (Int.toNat q4.2.1.2.2.2.1) 0),())),(((List.getD q4.2.1.1.2.2.2.2.2.2.2.1 (Int.toNat q4.2.1.2.2.2.1) 0),((List.getD q4.2.1.2.1.2.2.2.2.2.2.2.1 (Int.toNat q4.2.1.2.2.2.1) 0),())),((List.getD q4.2.2.2.1 (Int.toNat q4.2.1.2.2.2.2.1) 0),())))]≤LIM)) then some (0,((q4.2.1.1,(q4.2.1.2.1,((q4.2.1.2.2.1++[(((List.getD q4.2.1.1.2.2.2.2.2.2.1 (Int.toNat q4.2.1.2.2.2.1) 0),((List.getD q4.2.1.2.1.2.2.2.2.2.2.1 (Int.toNat q4.2.1.2.2.2.1) 0),())),(((List.getD q4.2.1.1.2.2.2.2.2.2.2.1 (Int.toNat q4.2.1.2.2.2.1) 0),((List.getD q4.2.1.2.1.2.2.2.2.2.2.2.1 (Int.toNat q4.2.1.2.2.2.1) 0),())),((List.getD q4.2.2.2.1 (Int.toNat q4.2.1.2.2.2.2.1) 0),())))]),(q4.2.1.2.2.2.2.2.1,((IntKind.wrap .i64 (q4.2.1.2.2.2.2.2.2.1+1)),()))))),(q4.2.2.1,(q4.2.2.2.1,())))) else none) else none) else none) else none) else none) else none)) else none) else none) else some (1,((s.1.1,(s.1.2.1,(s.1.2.2.1,(s.1.2.2.2.1,(s.1.2.2.2.2.1,()))))),(s.2.1,(s.2.2.1,())))))
def G18_l0_fuel (s:((E172×(E172×((List E71)×(Int×(Int×Unit)))))×(E25×((List Int)×Unit)))):Nat:=Int.toNat (s.1.2.2.2.1 - s.1.2.2.2.2.1)+1
def G18_l0_run (s:((E172×(E172×((List E71)×(Int×(Int×Unit)))))×(E25×((List Int)×Unit)))):Option TY39:=iter G18_l0_step (G18_l0_fuel s) s
def G18_l0_L:LoopT:=loopT G18_l0_S [.exit 0] G18_l0_run
def G18 (a0:E25) (a1:(List E73)):Option ((List E71)×(Int×Unit)):=(Option.bind (G63 a0 a1 true) fun r1=>(bif (r1 != 0) then some ([],(r1,())) else (Option.bind (G80 a0 a1) fun r2=>(Option.bind (G67 a0 a1 0) fun r3=>(Option.bind (G18_l0_run ((r2,(r3,([],((List.length a1:Int),(0,()))))),(a0,((1::(2::(3::[]))),())))) fun q5=>some (q5.2.1.2.2.1,(0,())))))))
def G18_E:CEnt:=pureE 18 [.dat T25,.dat (.list T73)] (.tup (.cons (.dat (.list T71)) (.cons (.dat (.int .i64)) (.nil)))) fun x=>G18 x.1 x.2.1
theorem G18_l1_V:LValid 0 Tryz.prog (.loop G18_l1_c) G18_l1_L false:=by
  exact loopT_valid (fuel:=G18_l1_fuel) mixed G18_CV (lvNil _) (by kernel_rfl) (by decide) rfl (by intro s; kernel_rfl) (fun s r h=>h)
theorem G18_l0_V:LValid 0 Tryz.prog (.loop G18_l0_c) G18_l0_L false:=by
  have hb:∀ s,codeR Tryz.prog G18_C G18_l0_c [G18_l1_L] (G18_l0_S.encE s) (G18_l0_S.encB s) (kst G18_l0_S [.exit 0])=G18_l0_step s:=by
    intro s; kernel_rfl
  have hl:loopsOf G18_l0_c=[.loop G18_l1_c]:=by kernel_rfl
  have hL:LV 0 Tryz.prog false (loopsOf G18_l0_c) [G18_l1_L]:=by rw [hl]; exact ⟨G18_l1_V,trivial⟩
  exact loopT_valid (fuel:=G18_l0_fuel) mixed G18_CV hL (by kernel_rfl) (by decide) rfl hb (fun s r h=>h)
theorem G18_LV:LV 0 Tryz.prog false (loopsOf (bodyOf Tryz.f18)) [G18_l0_L]:=by
  have hl:loopsOf (bodyOf Tryz.f18)=[.loop G18_l0_c]:=by kernel_rfl
  rw [hl]; exact ⟨G18_l0_V,trivial⟩
theorem G18_ent:Ent Tryz.prog 18:=⟨by decide,enters_of Tryz.func18 (by kernel_rfl) rfl⟩
theorem G18_hev:∀ x,fnR Tryz.prog G18_C [G18_l0_L] Tryz.f18 (bodyOf Tryz.f18) (encs [.dat T25,.dat (.list T73)] x) ⟨[],[],0⟩ (frzF (.tup (.cons (.dat (.list T71)) (.cons (.dat (.int .i64)) (.nil)))))=G18 x.1 x.2.1:=by
  intro x; kernel_rfl
theorem G18_valid:G18_E.Valid Tryz.prog:=
  pureE_valid (by kernel_rfl) (by kernel_rfl) G18_ent (frz_lcall mixed Tryz.func18 rfl G18_ent G18_CV G18_LV (by kernel_rfl) (by kernel_rfl) G18_hev)
end Go.Proofs.YtkeipcalbbmncaaGreat.Abs
end
