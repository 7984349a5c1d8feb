import Derived.Test.YtkeipcalbbmncaaGreatX1
noncomputable section
set_option linter.unusedVariables false
set_option maxRecDepth 100000
namespace Go.Proofs.YtkeipcalbbmncaaGreat.Abs
open Go.Shelf
abbrev T217:DTy:=(.cons (.int .i64) .nil)
abbrev E217:Type:=(Int×Unit)
abbrev T366:DTy:=(.cons (.list (.int .i64)) .nil)
abbrev E366:Type:=((List Int)×Unit)
abbrev T23:DTy:=(.cons (.int .i64) T217)
abbrev E23:Type:=(Int×E217)
abbrev T259:DTy:=(.cons (.int .i64) T366)
abbrev E259:Type:=(Int×E366)
abbrev T89:DTy:=(.cons (.int .i64) T23)
abbrev E89:Type:=(Int×E23)
abbrev T103:DTy:=(.cons (.list (.int .i64)) T366)
abbrev E103:Type:=((List Int)×E366)
abbrev T205:DTy:=(.cons (.int .i64) (.cons (.int .i64) (.cons .bool .nil)))
abbrev E205:Type:=(Int×(Int×(Bool×Unit)))
abbrev T126:DTy:=(.cons (.int .i64) T89)
abbrev E126:Type:=(Int×E89)
abbrev T178:DTy:=(.cons (.int .i64) (.cons T23 .nil))
abbrev E178:Type:=(Int×(E23×Unit))
abbrev T220:DTy:=(.cons T89 .nil)
abbrev E220:Type:=(E89×Unit)
abbrev T282:DTy:=(.cons T23 T217)
abbrev E282:Type:=(E23×E217)
abbrev T94:DTy:=(.cons (.list (.int .i64)) T103)
abbrev E94:Type:=((List Int)×E103)
abbrev T146:DTy:=(.cons (.int .i64) (.cons (.int .i64) (.cons (.list T23) .nil)))
abbrev E146:Type:=(Int×(Int×((List E23)×Unit)))
abbrev T71:DTy:=(.cons T23 T282)
abbrev E71:Type:=(E23×E282)
abbrev T118:DTy:=(.cons (.list (.int .i64)) (.cons (.list (.int .i64)) T94))
abbrev E118:Type:=((List Int)×((List Int)×E94))
abbrev T257:DTy:=(.cons (.int .i64) (.cons (.int .i64) (.cons T23 (.cons T23 .nil))))
abbrev E257:Type:=(Int×(Int×(E23×(E23×Unit))))
abbrev T25:DTy:=(.cons (.list T178) (.cons T23 .nil))
abbrev E25:Type:=((List E178)×(E23×Unit))
abbrev T73:DTy:=(.cons T23 (.cons T23 (.cons T23 .nil)))
abbrev E73:Type:=(E23×(E23×(E23×Unit)))
abbrev T35:DTy:=(.cons (.list T282) (.cons (.list T146) .nil))
abbrev E35:Type:=((List E282)×((List E146)×Unit))
abbrev T123:DTy:=(.cons T23 (.cons T23 (.cons T23 (.cons (.int .i64) (.cons (.int .i64) (.cons (.int .i64) T178))))))
abbrev E123:Type:=(E23×(E23×(E23×(Int×(Int×(Int×E178))))))
abbrev T137:DTy:=(.cons (.int .i64) (.cons (.list T126) (.cons (.list (.int .i64)) (.cons (.list (.int .i64)) (.cons (.list T23) (.cons (.list T257) .nil))))))
abbrev E137:Type:=(Int×((List E126)×((List Int)×((List Int)×((List E23)×((List E257)×Unit))))))
abbrev T40:DTy:=(.cons (.list T123) (.cons (.list T23) (.cons (.list (.list (.int .i64))) .nil)))
abbrev E40:Type:=((List E123)×((List E23)×((List (List Int))×Unit)))
abbrev T362:DTy:=(.cons T137 T217)
abbrev E362:Type:=(E137×E217)
abbrev T172:DTy:=(.cons T25 (.cons T118 (.cons (.int .i64) (.cons (.int .i64) (.cons (.int .i64) (.cons (.int .i64) (.cons (.list (.int .i64)) (.cons (.list (.int .i64)) T220))))))))
abbrev E172:Type:=(E25×(E118×(Int×(Int×(Int×(Int×((List Int)×((List Int)×E220))))))))
def G333_C:CalT:=tabC []
theorem G333_CV:CV Tryz.prog G333_C:=tabC_valid (l:=_) trivial
def G333 (a0:Int) (a1:Int):Option Bool:=(bif (!decide (a1 < 0)) then some ((IntKind.wrap .i64 ((BitVec.toNat ((BitVec.ofInt (IntKind.bits .i64) (Int.fdiv a0 (2^(min (Int.toNat a1) (IntKind.bits .i64))))) &&& (BitVec.ofInt (IntKind.bits .i64) 1)):Nat):Int))==1) else none)
def G333_E:CEnt:=pureE 333 [.dat (.int .i64),.dat (.int .i64)] (.dat .bool) fun x=>G333 x.1 x.2.1
theorem G333_LV:LV 0 Tryz.prog false (loopsOf (bodyOf Tryz.f333)) []:=by unfold LV; cases loopsOf (bodyOf Tryz.f333)<;>trivial
theorem G333_ent:Ent Tryz.prog 333:=⟨by decide,enters_of Tryz.func333 (by kernel_rfl) rfl⟩
theorem G333_hev:∀ x,fnR Tryz.prog G333_C [] Tryz.f333 (bodyOf Tryz.f333) (encs [.dat (.int .i64),.dat (.int .i64)] x) ⟨[],[],0⟩ (frzF (.dat .bool))=G333 x.1 x.2.1:=by
  intro x; kernel_rfl
theorem G333_valid:G333_E.Valid Tryz.prog:=
  pureE_valid (by kernel_rfl) (by kernel_rfl) G333_ent (frz_lcall mixed Tryz.func333 rfl G333_ent G333_CV G333_LV (by kernel_rfl) (by kernel_rfl) G333_hev)
def G226_C:CalT:=tabC [G333_E]
theorem G226_CV:CV Tryz.prog G226_C:=tabC_valid (l:=_) ⟨G333_valid,trivial⟩
def G226_l0_c:Code:=loopAt (bodyOf Tryz.f226) 0
def G226_l0_S:SPat:=⟨[.dat (.int .i64),.any,.any,.own 0 (.int .i64),.any,.dat (.int .i64),.any,.any,.any,.any,.any,.any,.any,.any,.any,.any,.any],[],1⟩
def G226_l0_step (s:((Int×((List Int)×(Int×Unit)))×Unit)):Option (Nat×((Int×((List Int)×(Int×Unit)))×Unit)):=(bif (decide (s.1.2.2.1 < 10)) then (Option.bind (G333 s.1.1 s.1.2.2.1) fun r1=>(bif r1 then (bif (decide (List.length s.1.2.1+List.length [s.1.2.2.1]≤LIM)) then some (0,((s.1.1,((s.1.2.1++[s.1.2.2.1]),((IntKind.wrap .i64 (s.1.2.2.1+1)),()))),())) else none) else some (0,((s.1.1,(s.1.2.1,((IntKind.wrap .i64 (s.1.2.2.1+1)),()))),())))) else some (1,((s.1.1,(s.1.2.1,(s.1.2.2.1,()))),())))
def G226_l0_fuel (s:((Int×((List Int)×(Int×Unit)))×Unit)):Nat:=Int.toNat (10 - s.1.2.2.1)+1
def G226_l0_run (s:((Int×((List Int)×(Int×Unit)))×Unit)):Option (Nat×((Int×((List Int)×(Int×Unit)))×Unit)):=iter G226_l0_step (G226_l0_fuel s) s
def G226_l0_L:LoopT:=loopT G226_l0_S [.exit 0] G226_l0_run
def G226 (a0:Int):Option (List Int):=(Option.bind (G226_l0_run ((a0,([],(0,()))),())) fun q2=>some q2.2.1.2.1)
def G226_E:CEnt:=pureE 226 [.dat (.int .i64)] (.dat (.list (.int .i64))) fun x=>G226 x.1
theorem G226_l0_V:LValid 0 Tryz.prog (.loop G226_l0_c) G226_l0_L false:=by
  exact loopT_valid (fuel:=G226_l0_fuel) mixed G226_CV (lvNil _) (by kernel_rfl) (by decide) rfl (by intro s; kernel_rfl) (fun s r h=>h)
theorem G226_LV:LV 0 Tryz.prog false (loopsOf (bodyOf Tryz.f226)) [G226_l0_L]:=by
  have hl:loopsOf (bodyOf Tryz.f226)=[.loop G226_l0_c]:=by kernel_rfl
  rw [hl]; exact ⟨G226_l0_V,trivial⟩
theorem G226_ent:Ent Tryz.prog 226:=⟨by decide,enters_of Tryz.func226 (by kernel_rfl) rfl⟩
theorem G226_hev:∀ x,fnR Tryz.prog G226_C [G226_l0_L] Tryz.f226 (bodyOf Tryz.f226) (encs [.dat (.int .i64)] x) ⟨[],[],0⟩ (frzF (.dat (.list (.int .i64))))=G226 x.1:=by
  intro x; kernel_rfl
theorem G226_valid:G226_E.Valid Tryz.prog:=
  pureE_valid (by kernel_rfl) (by kernel_rfl) G226_ent (frz_lcall mixed Tryz.func226 rfl G226_ent G226_CV G226_LV (by kernel_rfl) (by kernel_rfl) G226_hev)
def G410_C:CalT:=tabC []
theorem G410_CV:CV Tryz.prog G410_C:=tabC_valid (l:=_) trivial
def G410_l0_c:Code:=loopAt (bodyOf Tryz.f410) 0
def G410_l0_S:SPat:=⟨[.any,.any,.any,.dat (.int .i64),.any,.any,.dat (.list (.int .i64)),.dat (.int .i64),.dat (.int .i64),.any,.any,.any,.any,.any,.any,.any,.any],[],0⟩
def G410_l0_step (s:((Int×((List Int)×(Int×(Int×Unit))))×Unit)):Option (Nat×((Int×((List Int)×(Int×(Int×Unit))))×Unit)):=(bif (decide (s.1.2.2.2.1 < s.1.2.2.1)) then (bif (decide (0≤s.1.2.2.2.1)&&decide (s.1.2.2.2.1 < (List.length s.1.2.1:Int))) then some (0,(((IntKind.wrap .i64 (s.1.1+(List.getD s.1.2.1 (Int.toNat s.1.2.2.2.1) 0))),(s.1.2.1,(s.1.2.2.1,((IntKind.wrap .i64 (s.1.2.2.2.1+1)),())))),())) else none) else some (1,((s.1.1,(s.1.2.1,(s.1.2.2.1,(s.1.2.2.2.1,())))),())))
def G410_l0_fuel (s:((Int×((List Int)×(Int×(Int×Unit))))×Unit)):Nat:=Int.toNat (s.1.2.2.1 - s.1.2.2.2.1)+1
def G410_l0_run (s:((Int×((List Int)×(Int×(Int×Unit))))×Unit)):Option (Nat×((Int×((List Int)×(Int×(Int×Unit))))×Unit)):=iter G410_l0_step (G410_l0_fuel s) s
def G410_l0_L:LoopT:=loopT G410_l0_S [.exit 0] G410_l0_run
def G410 (a0:(List Int)):Option Int:=(Option.bind (G410_l0_run ((0,(a0,((List.length a0:Int),(0,())))),())) fun q1=>some q1.2.1.1)
def G410_E:CEnt:=pureE 410 [.dat (.list (.int .i64))] (.dat (.int .i64)) fun x=>G410 x.1
theorem G410_l0_V:LValid 0 Tryz.prog (.loop G410_l0_c) G410_l0_L false:=by
  exact loopT_valid (fuel:=G410_l0_fuel) mixed G410_CV (lvNil _) (by kernel_rfl) (by decide) rfl (by intro s; kernel_rfl) (fun s r h=>h)
theorem G410_LV:LV 0 Tryz.prog false (loopsOf (bodyOf Tryz.f410)) [G410_l0_L]:=by
  have hl:loopsOf (bodyOf Tryz.f410)=[.loop G410_l0_c]:=by kernel_rfl
  rw [hl]; exact ⟨G410_l0_V,trivial⟩
theorem G410_ent:Ent Tryz.prog 410:=⟨by decide,enters_of Tryz.func410 (by kernel_rfl) rfl⟩
theorem G410_hev:∀ x,fnR Tryz.prog G410_C [G410_l0_L] Tryz.f410 (bodyOf Tryz.f410) (encs [.dat (.list (.int .i64))] x) ⟨[],[],0⟩ (frzF (.dat (.int .i64)))=G410 x.1:=by
  intro x; kernel_rfl
theorem G410_valid:G410_E.Valid Tryz.prog:=
  pureE_valid (by kernel_rfl) (by kernel_rfl) G410_ent (frz_lcall mixed Tryz.func410 rfl G410_ent G410_CV G410_LV (by kernel_rfl) (by kernel_rfl) G410_hev)
def G347_C:CalT:=tabC []
theorem G347_CV:CV Tryz.prog G347_C:=tabC_valid (l:=_) trivial
def G347 (a0:Int):Option Bool:=some (a0 != a0)
def G347_E:CEnt:=pureE 347 [.dat (.int .i64)] (.dat .bool) fun x=>G347 x.1
theorem G347_LV:LV 0 Tryz.prog false (loopsOf (bodyOf Tryz.f347)) []:=by unfold LV; cases loopsOf (bodyOf Tryz.f347)<;>trivial
theorem G347_ent:Ent Tryz.prog 347:=⟨by decide,enters_of Tryz.func347 (by kernel_rfl) rfl⟩
theorem G347_hev:∀ x,fnR Tryz.prog G347_C [] Tryz.f347 (bodyOf Tryz.f347) (encs [.dat (.int .i64)] x) ⟨[],[],0⟩ (frzF (.dat .bool))=G347 x.1:=by
  intro x; kernel_rfl
theorem G347_valid:G347_E.Valid Tryz.prog:=
  pureE_valid (by kernel_rfl) (by kernel_rfl) G347_ent (frz_lcall mixed Tryz.func347 rfl G347_ent G347_CV G347_LV (by kernel_rfl) (by kernel_rfl) G347_hev)
def G250_C:CalT:=tabC [G347_E]
theorem G250_CV:CV Tryz.prog G250_C:=tabC_valid (l:=_) ⟨G347_valid,trivial⟩
def G250 (a0:Int) (a1:Int):Option Int:=(Option.bind (G347 a0) fun r1=>(Option.bind (G347 a1) fun r2=>(bif r1 then (bif r2 then some 0 else some (-1)) else (bif r2 then some 1 else (bif (decide (a0 < a1)) then some (-1) else (bif (decide (a0 > a1)) then some 1 else some 0))))))
def G250_E:CEnt:=pureE 250 [.dat (.int .i64),.dat (.int .i64)] (.dat (.int .i64)) fun x=>G250 x.1 x.2.1
theorem G250_LV:LV 0 Tryz.prog false (loopsOf (bodyOf Tryz.f250)) []:=by unfold LV; cases loopsOf (bodyOf Tryz.f250)<;>trivial
theorem G250_ent:Ent Tryz.prog 250:=⟨by decide,enters_of Tryz.func250 (by kernel_rfl) rfl⟩
theorem G250_hev:∀ x,fnR Tryz.prog G250_C [] Tryz.f250 (bodyOf Tryz.f250) (encs [.dat (.int .i64),.dat (.int .i64)] x) ⟨[],[],0⟩ (frzF (.dat (.int .i64)))=G250 x.1 x.2.1:=by
  intro x; kernel_rfl
theorem G250_valid:G250_E.Valid Tryz.prog:=
  pureE_valid (by kernel_rfl) (by kernel_rfl) G250_ent (frz_lcall mixed Tryz.func250 rfl G250_ent G250_CV G250_LV (by kernel_rfl) (by kernel_rfl) G250_hev)
def G334_C:CalT:=tabC [G250_E]
theorem G334_CV:CV Tryz.prog G334_C:=tabC_valid (l:=_) ⟨G250_valid,trivial⟩
def G334 (a0:E259) (a1:E259):Option Int:=(Option.bind (G250 a0.1 a1.1) fun r1=>some r1)
def G334_E:CEnt:=pureE 334 [.dat T259,.dat T259] (.dat (.int .i64)) fun x=>G334 x.1 x.2.1
theorem G334_LV:LV 0 Tryz.prog false (loopsOf (bodyOf Tryz.f334)) []:=by unfold LV; cases loopsOf (bodyOf Tryz.f334)<;>trivial
theorem G334_ent:Ent Tryz.prog 334:=⟨by decide,enters_of Tryz.func334 (by kernel_rfl) rfl⟩
theorem G334_hev:∀ x,fnR Tryz.prog G334_C [] Tryz.f334 (bodyOf Tryz.f334) (encs [.dat T259,.dat T259] x) ⟨[],[],0⟩ (frzF (.dat (.int .i64)))=G334 x.1 x.2.1:=by
  intro x; kernel_rfl
theorem G334_valid:G334_E.Valid Tryz.prog:=
  pureE_valid (by kernel_rfl) (by kernel_rfl) G334_ent (frz_lcall mixed Tryz.func334 rfl G334_ent G334_CV G334_LV (by kernel_rfl) (by kernel_rfl) G334_hev)
def G335_C:CalT:=tabC [G250_E]
theorem G335_CV:CV Tryz.prog G335_C:=tabC_valid (l:=_) ⟨G250_valid,trivial⟩
def G335 (a0:E259) (a1:E259):Option Int:=(Option.bind (G250 (List.length a0.2.1:Int) (List.length a1.2.1:Int)) fun r1=>some r1)
def G335_E:CEnt:=pureE 335 [.dat T259,.dat T259] (.dat (.int .i64)) fun x=>G335 x.1 x.2.1
theorem G335_LV:LV 0 Tryz.prog false (loopsOf (bodyOf Tryz.f335)) []:=by unfold LV; cases loopsOf (bodyOf Tryz.f335)<;>trivial
theorem G335_ent:Ent Tryz.prog 335:=⟨by decide,enters_of Tryz.func335 (by kernel_rfl) rfl⟩
theorem G335_hev:∀ x,fnR Tryz.prog G335_C [] Tryz.f335 (bodyOf Tryz.f335) (encs [.dat T259,.dat T259] x) ⟨[],[],0⟩ (frzF (.dat (.int .i64)))=G335 x.1 x.2.1:=by
  intro x; kernel_rfl
theorem G335_valid:G335_E.Valid Tryz.prog:=
  pureE_valid (by kernel_rfl) (by kernel_rfl) G335_ent (frz_lcall mixed Tryz.func335 rfl G335_ent G335_CV G335_LV (by kernel_rfl) (by kernel_rfl) G335_hev)
def G251_C:CalT:=tabC [G250_E]
theorem G251_CV:CV Tryz.prog G251_C:=tabC_valid (l:=_) ⟨G250_valid,trivial⟩
def G251_l0_c:Code:=loopAt (bodyOf Tryz.f251) 0
def G251_l0_S:SPat:=⟨[.dat (.list (.int .i64)),.dat (.list (.int .i64)),.any,.any,.dat (.int .i64),.any,.any,.any,.any,.dat (.list (.int .i64)),.dat (.int .i64),.dat (.int .i64)]++List.replicate 24 PTy.any,[],0⟩
abbrev TY0:Type:=(((List Int)×((List Int)×(Int×((List Int)×(Int×(Int×Unit))))))×Unit)
abbrev TY1:Type:=(Nat×(((List Int)×((List Int)×(Int×((List Int)×(Int×(Int×Unit))))))×Unit))
def G251_l0_step (s:TY0):Option TY1:=(bif (decide (s.1.2.2.2.2.2.1 < s.1.2.2.2.2.1)) then (bif (decide (0≤s.1.2.2.2.2.2.1)&&decide (s.1.2.2.2.2.2.1 < (List.length s.1.2.2.2.1:Int))) then (bif (decide (s.1.2.2.2.2.2.1≥(List.length s.1.2.1:Int))) then some (1,((s.1.1,(s.1.2.1,(1,(s.1.2.2.2.1,(s.1.2.2.2.2.1,(s.1.2.2.2.2.2.1,())))))),())) else (bif (decide (0≤s.1.2.2.2.2.2.1)&&decide (s.1.2.2.2.2.2.1 < (List.length s.1.2.1:Int))) then (Option.bind (G250 (List.getD s.1.2.2.2.1 (Int.toNat s.1.2.2.2.2.2.1) 0) (List.getD s.1.2.1 (Int.toNat s.1.2.2.2.2.2.1) 0)) fun r1=>(bif (r1 != 0) then some (1,((s.1.1,(s.1.2.1,(r1,(s.1.2.2.2.1,(s.1.2.2.2.2.1,(s.1.2.2.2.2.2.1,())))))),())) else some (0,((s.1.1,(s.1.2.1,(s.1.2.2.1,(s.1.2.2.2.1,(s.1.2.2.2.2.1,((IntKind.wrap .i64 (s.1.2.2.2.2.2.1+1)),())))))),())))) else none)) else none) else some (2,((s.1.1,(s.1.2.1,(s.1.2.2.1,(s.1.2.2.2.1,(s.1.2.2.2.2.1,(s.1.2.2.2.2.2.1,())))))),())))
def G251_l0_fuel (s:TY0):Nat:=Int.toNat (s.1.2.2.2.2.1 - s.1.2.2.2.2.2.1)+1
def G251_l0_run (s:TY0):Option TY1:=iter G251_l0_step (G251_l0_fuel s) s
def G251_l0_L:LoopT:=loopT G251_l0_S [.ret,.exit 0] G251_l0_run
def G251 (a0:(List Int)) (a1:(List Int)):Option Int:=(Option.bind (G251_l0_run ((a0,(a1,(0,(a0,((List.length a0:Int),(0,())))))),())) fun q2=>(natK q2.1 (some q2.2.1.2.2.1) (fun _=>(bif (decide ((List.length q2.2.1.1:Int) < (List.length q2.2.1.2.1:Int))) then some (-1) else some 0))))
def G251_E:CEnt:=pureE 251 [.dat (.list (.int .i64)),.dat (.list (.int .i64))] (.dat (.int .i64)) fun x=>G251 x.1 x.2.1
theorem G251_l0_V:LValid 0 Tryz.prog (.loop G251_l0_c) G251_l0_L false:=by
  exact loopT_valid (fuel:=G251_l0_fuel) mixed G251_CV (lvNil _) (by kernel_rfl) (by decide) rfl (by intro s; kernel_rfl) (fun s r h=>h)
theorem G251_LV:LV 0 Tryz.prog false (loopsOf (bodyOf Tryz.f251)) [G251_l0_L]:=by
  have hl:loopsOf (bodyOf Tryz.f251)=[.loop G251_l0_c]:=by kernel_rfl
  rw [hl]; exact ⟨G251_l0_V,trivial⟩
theorem G251_ent:Ent Tryz.prog 251:=⟨by decide,enters_of Tryz.func251 (by kernel_rfl) rfl⟩
theorem G251_hev:∀ x,fnR Tryz.prog G251_C [G251_l0_L] Tryz.f251 (bodyOf Tryz.f251) (encs [.dat (.list (.int .i64)),.dat (.list (.int .i64))] x) ⟨[],[],0⟩ (frzF (.dat (.int .i64)))=G251 x.1 x.2.1:=by
  intro x; kernel_rfl
theorem G251_valid:G251_E.Valid Tryz.prog:=
  pureE_valid (by kernel_rfl) (by kernel_rfl) G251_ent (frz_lcall mixed Tryz.func251 rfl G251_ent G251_CV G251_LV (by kernel_rfl) (by kernel_rfl) G251_hev)
def G336_C:CalT:=tabC [G251_E]
theorem G336_CV:CV Tryz.prog G336_C:=tabC_valid (l:=_) ⟨G251_valid,trivial⟩
def G336 (a0:E259) (a1:E259):Option Int:=(Option.bind (G251 a0.2.1 a1.2.1) fun r1=>some r1)
def G336_E:CEnt:=pureE 336 [.dat T259,.dat T259] (.dat (.int .i64)) fun x=>G336 x.1 x.2.1
theorem G336_LV:LV 0 Tryz.prog false (loopsOf (bodyOf Tryz.f336)) []:=by unfold LV; cases loopsOf (bodyOf Tryz.f336)<;>trivial
theorem G336_ent:Ent Tryz.prog 336:=⟨by decide,enters_of Tryz.func336 (by kernel_rfl) rfl⟩
theorem G336_hev:∀ x,fnR Tryz.prog G336_C [] Tryz.f336 (bodyOf Tryz.f336) (encs [.dat T259,.dat T259] x) ⟨[],[],0⟩ (frzF (.dat (.int .i64)))=G336 x.1 x.2.1:=by
  intro x; kernel_rfl
theorem G336_valid:G336_E.Valid Tryz.prog:=
  pureE_valid (by kernel_rfl) (by kernel_rfl) G336_ent (frz_lcall mixed Tryz.func336 rfl G336_ent G336_CV G336_LV (by kernel_rfl) (by kernel_rfl) G336_hev)
def G227_C:CalT:=tabC [G334_E,G335_E,G336_E]
theorem G227_CV:CV Tryz.prog G227_C:=tabC_valid (l:=_) ⟨G334_valid,G335_valid,G336_valid,trivial⟩
def G227_l0_c:Code:=loopAt (bodyOf Tryz.f227) 0
def G227_l0_S:SPat:=⟨[.any,.any,.any,.fix (.bptr 1 []),.dat .bool,.any,.any,.any,.any,.any,.any,.any,.any,.any,.cons (.fnp (.func 334) (.cons (.dat T259) (.nil)) (.nil)) (.cons (.fnp (.func 335) (.cons (.dat T259) (.nil)) (.nil)) (.cons (.fnp (.func 336) (.cons (.dat T259) (.nil)) (.nil)) (.nil))),.dat (.int .i64),.any,.any,.any,.any,.any,.any,.any,.any,.any,.any],[.dat T259,.dat T259],0⟩
abbrev TY2:Type:=((((E259×Unit)×Unit)×(((E259×Unit)×Unit)×(((E259×Unit)×Unit)×Unit)))×(Int×Unit))
abbrev TY3:Type:=(Nat×((Bool×((((E259×Unit)×Unit)×(((E259×Unit)×Unit)×(((E259×Unit)×Unit)×Unit)))×(Int×Unit)))×(E259×(E259×Unit))))
def G227_l0_step (s:((Bool×TY2)×(E259×(E259×Unit)))):Option TY3:=(bif (decide (s.1.2.2.1 < 3)) then (bif (decide (s.1.2.2.1=(0:Int))) then (Option.bind (G334 s.1.2.1.1.1.1 s.2.2.1) fun r1=>(bif (r1 != 0) then some (1,(((decide (r1 < 0)),((((s.1.2.1.1.1.1,()),()),(((s.1.2.1.2.1.1.1,()),()),(((s.1.2.1.2.2.1.1.1,()),()),s.1.2.1.2.2.2))),(s.1.2.2.1,()))),(s.2.1,(s.2.2.1,())))) else some (0,((s.1.1,((((s.1.2.1.1.1.1,()),()),(((s.1.2.1.2.1.1.1,()),()),(((s.1.2.1.2.2.1.1.1,()),()),s.1.2.1.2.2.2))),((IntKind.wrap .i64 (s.1.2.2.1+1)),()))),(s.2.1,(s.2.2.1,())))))) else (bif (decide (s.1.2.2.1=(1:Int))) then (Option.bind (G335 s.1.2.1.2.1.1.1 s.2.2.1) fun r2=>(bif (r2 != 0) then some (1,(((decide (r2 < 0)),((((s.1.2.1.1.1.1,()),()),(((s.1.2.1.2.1.1.1,()),()),(((s.1.2.1.2.2.1.1.1,()),()),s.1.2.1.2.2.2))),(s.1.2.2.1,()))),(s.2.1,(s.2.2.1,())))) else some (0,((s.1.1,((((s.1.2.1.1.1.1,()),()),(((s.1.2.1.2.1.1.1,()),()),(((s.1.2.1.2.2.1.1.1,()),()),s.1.2.1.2.2.2))),((IntKind.wrap .i64 (s.1.2.2.1+1)),()))),(s.2.1,(s.2.2.1,())))))) else (bif (decide (s.1.2.2.1=(2:Int))) then (Option.bind (G336 s.1.2.1.2.2.1.1.1 s.2.2.1) fun r3=>(bif (r3 != 0) then some (1,(((decide (r3 < 0)),((((s.1.2.1.1.1.1,()),()),(((s.1.2.1.2.1.1.1,()),()),(((s.1.2.1.2.2.1.1.1,()),()),s.1.2.1.2.2.2))),(s.1.2.2.1,()))),(s.2.1,(s.2.2.1,())))) else some (0,((s.1.1,((((s.1.2.1.1.1.1,()),()),(((s.1.2.1.2.1.1.1,()),()),(((s.1.2.1.2.2.1.1.1,()),()),s.1.2.1.2.2.2))),((IntKind.wrap .i64 (s.1.2.2.1+1)),()))),(s.2.1,(s.2.2.1,())))))) else none))) else some (2,((s.1.1,((((s.1.2.1.1.1.1,()),()),(((s.1.2.1.2.1.1.1,()),()),(((s.1.2.1.2.2.1.1.1,()),()),s.1.2.1.2.2.2))),(s.1.2.2.1,()))),(s.2.1,(s.2.2.1,())))))
def G227_l0_fuel (s:((Bool×TY2)×(E259×(E259×Unit)))):Nat:=Int.toNat (3 - s.1.2.2.1)+1
def G227_l0_run (s:((Bool×TY2)×(E259×(E259×Unit)))):Option TY3:=iter G227_l0_step (G227_l0_fuel s) s
def G227_l0_L:LoopT:=loopT G227_l0_S [.ret,.exit 0] G227_l0_run
def G227 (a0:E259) (a1:E259):Option Bool:=(Option.bind (G227_l0_run ((false,((((a0,()),()),(((a0,()),()),(((a0,()),()),()))),(0,()))),(a0,(a1,())))) fun q4=>(natK q4.1 (some q4.2.1.1) (fun _=>some false)))
def G227_E:CEnt:=pureE 227 [.dat T259,.dat T259] (.dat .bool) fun x=>G227 x.1 x.2.1
theorem G227_l0_V:LValid 0 Tryz.prog (.loop G227_l0_c) G227_l0_L false:=by
  exact loopT_valid (fuel:=G227_l0_fuel) mixed G227_CV (lvNil _) (by kernel_rfl) (by decide) rfl (by intro s; kernel_rfl) (fun s r h=>h)
theorem G227_LV:LV 0 Tryz.prog false (loopsOf (bodyOf Tryz.f227)) [G227_l0_L]:=by
  have hl:loopsOf (bodyOf Tryz.f227)=[.loop G227_l0_c]:=by kernel_rfl
  rw [hl]; exact ⟨G227_l0_V,trivial⟩
theorem G227_ent:Ent Tryz.prog 227:=⟨by decide,enters_of Tryz.func227 (by kernel_rfl) rfl⟩
theorem G227_hev:∀ x,fnR Tryz.prog G227_C [G227_l0_L] Tryz.f227 (bodyOf Tryz.f227) (encs [.dat T259,.dat T259] x) ⟨[],[],0⟩ (frzF (.dat .bool))=G227 x.1 x.2.1:=by
  intro x; kernel_rfl
theorem G227_valid:G227_E.Valid Tryz.prog:=
  pureE_valid (by kernel_rfl) (by kernel_rfl) G227_ent (frz_lcall mixed Tryz.func227 rfl G227_ent G227_CV G227_LV (by kernel_rfl) (by kernel_rfl) G227_hev)
def G326_C:CalT:=tabC []
theorem G326_CV:CV Tryz.prog G326_C:=tabC_valid (l:=_) trivial
def G326 (a0:Int) (a1:Int) (a2:Int):Option Bool:=(bif (decide (a0≥a1)) then some (decide (a0≤a2)) else some false)
def G326_E:CEnt:=pureE 326 [.dat (.int .i64),.dat (.int .i64),.dat (.int .i64)] (.dat .bool) fun x=>G326 x.1 x.2.1 x.2.2.1
theorem G326_LV:LV 0 Tryz.prog false (loopsOf (bodyOf Tryz.f326)) []:=by unfold LV; cases loopsOf (bodyOf Tryz.f326)<;>trivial
theorem G326_ent:Ent Tryz.prog 326:=⟨by decide,enters_of Tryz.func326 (by kernel_rfl) rfl⟩
theorem G326_hev:∀ x,fnR Tryz.prog G326_C [] Tryz.f326 (bodyOf Tryz.f326) (encs [.dat (.int .i64),.dat (.int .i64),.dat (.int .i64)] x) ⟨[],[],0⟩ (frzF (.dat .bool))=G326 x.1 x.2.1 x.2.2.1:=by
  intro x; kernel_rfl
theorem G326_valid:G326_E.Valid Tryz.prog:=
  pureE_valid (by kernel_rfl) (by kernel_rfl) G326_ent (frz_lcall mixed Tryz.func326 rfl G326_ent G326_CV G326_LV (by kernel_rfl) (by kernel_rfl) G326_hev)
def G329_C:CalT:=tabC []
theorem G329_CV:CV Tryz.prog G329_C:=tabC_valid (l:=_) trivial
def G329 (a0:E23):Option Bool:=(bif (decide (a0.1≥0)) then (bif (decide (a0.1≤a0.2.1)) then some (decide (a0.2.1≤1000000)) else some false) else some false)
def G329_E:CEnt:=pureE 329 [.dat T23] (.dat .bool) fun x=>G329 x.1
theorem G329_LV:LV 0 Tryz.prog false (loopsOf (bodyOf Tryz.f329)) []:=by unfold LV; cases loopsOf (bodyOf Tryz.f329)<;>trivial
theorem G329_ent:Ent Tryz.prog 329:=⟨by decide,enters_of Tryz.func329 (by kernel_rfl) rfl⟩
theorem G329_hev:∀ x,fnR Tryz.prog G329_C [] Tryz.f329 (bodyOf Tryz.f329) (encs [.dat T23] x) ⟨[],[],0⟩ (frzF (.dat .bool))=G329 x.1:=by
  intro x; kernel_rfl
theorem G329_valid:G329_E.Valid Tryz.prog:=
  pureE_valid (by kernel_rfl) (by kernel_rfl) G329_ent (frz_lcall mixed Tryz.func329 rfl G329_ent G329_CV G329_LV (by kernel_rfl) (by kernel_rfl) G329_hev)
def G328_C:CalT:=tabC [G329_E,G326_E]
theorem G328_CV:CV Tryz.prog G328_C:=tabC_valid (l:=_) ⟨G329_valid,G326_valid,trivial⟩
def G328 (a0:E282):Option Bool:=(Option.bind (G329 a0.1) fun r1=>(bif (!r1) then some true else (Option.bind (G326 a0.2.1 0 100) fun r2=>some (!r2))))
def G328_E:CEnt:=pureE 328 [.dat T282] (.dat .bool) fun x=>G328 x.1
theorem G328_LV:LV 0 Tryz.prog false (loopsOf (bodyOf Tryz.f328)) []:=by unfold LV; cases loopsOf (bodyOf Tryz.f328)<;>trivial
theorem G328_ent:Ent Tryz.prog 328:=⟨by decide,enters_of Tryz.func328 (by kernel_rfl) rfl⟩
theorem G328_hev:∀ x,fnR Tryz.prog G328_C [] Tryz.f328 (bodyOf Tryz.f328) (encs [.dat T282] x) ⟨[],[],0⟩ (frzF (.dat .bool))=G328 x.1:=by
  intro x; kernel_rfl
theorem G328_valid:G328_E.Valid Tryz.prog:=
  pureE_valid (by kernel_rfl) (by kernel_rfl) G328_ent (frz_lcall mixed Tryz.func328 rfl G328_ent G328_CV G328_LV (by kernel_rfl) (by kernel_rfl) G328_hev)
def G386_C:CalT:=tabC [G328_E]
theorem G386_CV:CV Tryz.prog G386_C:=tabC_valid (l:=_) ⟨G328_valid,trivial⟩
def G386_l0_c:Code:=loopAt (bodyOf Tryz.f386) 0
def G386_l0_S:SPat:=⟨[.dat (.list T282),.fix (.func (.func 328) .nil .nil),.any,.any,.dat (.int .i64),.any,.any,.dat (.int .i64),.dat (.int .i64),.any,.any,.any,.any,.any,.any,.any,.any,.any,.any],[],0⟩
def G386_l0_step (s:(((List E282)×(Int×(Int×(Int×Unit))))×Unit)):Option (Nat×(((List E282)×(Int×(Int×(Int×Unit))))×Unit)):=(bif (decide (s.1.2.2.2.1 < s.1.2.2.1)) then (bif (decide (0≤s.1.2.2.2.1)&&decide (s.1.2.2.2.1 < (List.length s.1.1:Int))) then (Option.bind (G328 (List.getD s.1.1 (Int.toNat s.1.2.2.2.1) ((0,(0,())),(0,())))) fun r1=>(bif r1 then some (1,((s.1.1,(s.1.2.2.2.1,(s.1.2.2.1,(s.1.2.2.2.1,())))),())) else some (0,((s.1.1,(s.1.2.1,(s.1.2.2.1,((IntKind.wrap .i64 (s.1.2.2.2.1+1)),())))),())))) else none) else some (2,((s.1.1,(s.1.2.1,(s.1.2.2.1,(s.1.2.2.2.1,())))),())))
def G386_l0_fuel (s:(((List E282)×(Int×(Int×(Int×Unit))))×Unit)):Nat:=Int.toNat (s.1.2.2.1 - s.1.2.2.2.1)+1
def G386_l0_run (s:(((List E282)×(Int×(Int×(Int×Unit))))×Unit)):Option (Nat×(((List E282)×(Int×(Int×(Int×Unit))))×Unit)):=iter G386_l0_step (G386_l0_fuel s) s
def G386_l0_L:LoopT:=loopT G386_l0_S [.ret,.exit 0] G386_l0_run
def G386 (a0:(List E282)):Option Int:=(Option.bind (G386_l0_run ((a0,(0,((List.length a0:Int),(0,())))),())) fun q2=>(natK q2.1 (some q2.2.1.2.1) (fun _=>some (-1))))
def G386_E:CEnt:=pureE 386 [.dat (.list T282),.fix (.func (.func 328) .nil .nil)] (.dat (.int .i64)) fun x=>G386 x.1
theorem G386_l0_V:LValid 0 Tryz.prog (.loop G386_l0_c) G386_l0_L false:=by
  exact loopT_valid (fuel:=G386_l0_fuel) mixed G386_CV (lvNil _) (by kernel_rfl) (by decide) rfl (by intro s; kernel_rfl) (fun s r h=>h)
theorem G386_LV:LV 0 Tryz.prog false (loopsOf (bodyOf Tryz.f386)) [G386_l0_L]:=by
  have hl:loopsOf (bodyOf Tryz.f386)=[.loop G386_l0_c]:=by kernel_rfl
  rw [hl]; exact ⟨G386_l0_V,trivial⟩
theorem G386_ent:Ent Tryz.prog 386:=⟨by decide,enters_of Tryz.func386 (by kernel_rfl) rfl⟩
theorem G386_hev:∀ x,fnR Tryz.prog G386_C [G386_l0_L] Tryz.f386 (bodyOf Tryz.f386) (encs [.dat (.list T282),.fix (.func (.func 328) .nil .nil)] x) ⟨[],[],0⟩ (frzF (.dat (.int .i64)))=G386 x.1:=by
  intro x; kernel_rfl
theorem G386_valid:G386_E.Valid Tryz.prog:=
  pureE_valid (by kernel_rfl) (by kernel_rfl) G386_ent (frz_lcall mixed Tryz.func386 rfl G386_ent G386_CV G386_LV (by kernel_rfl) (by kernel_rfl) G386_hev)
def G327_C:CalT:=tabC [G386_E]
theorem G327_CV:CV Tryz.prog G327_C:=tabC_valid (l:=_) ⟨G386_valid,trivial⟩
def G327 (a0:(List E282)):Option Bool:=(Option.bind (G386 a0) fun r1=>some (decide (r1≥0)))
def G327_E:CEnt:=pureE 327 [.dat (.list T282),.fix (.func (.func 328) .nil .nil)] (.dat .bool) fun x=>G327 x.1
theorem G327_LV:LV 0 Tryz.prog false (loopsOf (bodyOf Tryz.f327)) []:=by unfold LV; cases loopsOf (bodyOf Tryz.f327)<;>trivial
theorem G327_ent:Ent Tryz.prog 327:=⟨by decide,enters_of Tryz.func327 (by kernel_rfl) rfl⟩
theorem G327_hev:∀ x,fnR Tryz.prog G327_C [] Tryz.f327 (bodyOf Tryz.f327) (encs [.dat (.list T282),.fix (.func (.func 328) .nil .nil)] x) ⟨[],[],0⟩ (frzF (.dat .bool))=G327 x.1:=by
  intro x; kernel_rfl
theorem G327_valid:G327_E.Valid Tryz.prog:=
  pureE_valid (by kernel_rfl) (by kernel_rfl) G327_ent (frz_lcall mixed Tryz.func327 rfl G327_ent G327_CV G327_LV (by kernel_rfl) (by kernel_rfl) G327_hev)
def G332_C:CalT:=tabC [G329_E]
theorem G332_CV:CV Tryz.prog G332_C:=tabC_valid (l:=_) ⟨G329_valid,trivial⟩
def G332 (a0:E23):Option Bool:=(Option.bind (G329 a0) fun r1=>some (!r1))
def G332_E:CEnt:=pureE 332 [.dat T23] (.dat .bool) fun x=>G332 x.1
theorem G332_LV:LV 0 Tryz.prog false (loopsOf (bodyOf Tryz.f332)) []:=by unfold LV; cases loopsOf (bodyOf Tryz.f332)<;>trivial
theorem G332_ent:Ent Tryz.prog 332:=⟨by decide,enters_of Tryz.func332 (by kernel_rfl) rfl⟩
theorem G332_hev:∀ x,fnR Tryz.prog G332_C [] Tryz.f332 (bodyOf Tryz.f332) (encs [.dat T23] x) ⟨[],[],0⟩ (frzF (.dat .bool))=G332 x.1:=by
  intro x; kernel_rfl
theorem G332_valid:G332_E.Valid Tryz.prog:=
  pureE_valid (by kernel_rfl) (by kernel_rfl) G332_ent (frz_lcall mixed Tryz.func332 rfl G332_ent G332_CV G332_LV (by kernel_rfl) (by kernel_rfl) G332_hev)
def G315_C:CalT:=tabC [G332_E]
theorem G315_CV:CV Tryz.prog G315_C:=tabC_valid (l:=_) ⟨G332_valid,trivial⟩
def G315_l0_c:Code:=loopAt (bodyOf Tryz.f315) 0
def G315_l0_S:SPat:=⟨[.dat (.list T23),.fix (.func (.func 332) .nil .nil),.any,.any,.dat (.int .i64),.any,.any,.dat (.int .i64),.dat (.int .i64),.any,.any,.any,.any,.any,.any,.any,.any,.any,.any],[],0⟩
def G315_l0_step (s:(((List E23)×(Int×(Int×(Int×Unit))))×Unit)):Option (Nat×(((List E23)×(Int×(Int×(Int×Unit))))×Unit)):=(bif (decide (s.1.2.2.2.1 < s.1.2.2.1)) then (bif (decide (0≤s.1.2.2.2.1)&&decide (s.1.2.2.2.1 < (List.length s.1.1:Int))) then (Option.bind (G332 (List.getD s.1.1 (Int.toNat s.1.2.2.2.1) (0,(0,())))) fun r1=>(bif r1 then some (1,((s.1.1,(s.1.2.2.2.1,(s.1.2.2.1,(s.1.2.2.2.1,())))),())) else some (0,((s.1.1,(s.1.2.1,(s.1.2.2.1,((IntKind.wrap .i64 (s.1.2.2.2.1+1)),())))),())))) else none) else some (2,((s.1.1,(s.1.2.1,(s.1.2.2.1,(s.1.2.2.2.1,())))),())))
def G315_l0_fuel (s:(((List E23)×(Int×(Int×(Int×Unit))))×Unit)):Nat:=Int.toNat (s.1.2.2.1 - s.1.2.2.2.1)+1
def G315_l0_run (s:(((List E23)×(Int×(Int×(Int×Unit))))×Unit)):Option (Nat×(((List E23)×(Int×(Int×(Int×Unit))))×Unit)):=iter G315_l0_step (G315_l0_fuel s) s
def G315_l0_L:LoopT:=loopT G315_l0_S [.ret,.exit 0] G315_l0_run
def G315 (a0:(List E23)):Option Int:=(Option.bind (G315_l0_run ((a0,(0,((List.length a0:Int),(0,())))),())) fun q2=>(natK q2.1 (some q2.2.1.2.1) (fun _=>some (-1))))
def G315_E:CEnt:=pureE 315 [.dat (.list T23),.fix (.func (.func 332) .nil .nil)] (.dat (.int .i64)) fun x=>G315 x.1
theorem G315_l0_V:LValid 0 Tryz.prog (.loop G315_l0_c) G315_l0_L false:=by
  exact loopT_valid (fuel:=G315_l0_fuel) mixed G315_CV (lvNil _) (by kernel_rfl) (by decide) rfl (by intro s; kernel_rfl) (fun s r h=>h)
theorem G315_LV:LV 0 Tryz.prog false (loopsOf (bodyOf Tryz.f315)) [G315_l0_L]:=by
  have hl:loopsOf (bodyOf Tryz.f315)=[.loop G315_l0_c]:=by kernel_rfl
  rw [hl]; exact ⟨G315_l0_V,trivial⟩
theorem G315_ent:Ent Tryz.prog 315:=⟨by decide,enters_of Tryz.func315 (by kernel_rfl) rfl⟩
theorem G315_hev:∀ x,fnR Tryz.prog G315_C [G315_l0_L] Tryz.f315 (bodyOf Tryz.f315) (encs [.dat (.list T23),.fix (.func (.func 332) .nil .nil)] x) ⟨[],[],0⟩ (frzF (.dat (.int .i64)))=G315 x.1:=by
  intro x; kernel_rfl
theorem G315_valid:G315_E.Valid Tryz.prog:=
  pureE_valid (by kernel_rfl) (by kernel_rfl) G315_ent (frz_lcall mixed Tryz.func315 rfl G315_ent G315_CV G315_LV (by kernel_rfl) (by kernel_rfl) G315_hev)
def G193_C:CalT:=tabC [G315_E]
theorem G193_CV:CV Tryz.prog G193_C:=tabC_valid (l:=_) ⟨G315_valid,trivial⟩
def G193 (a0:(List E23)):Option Bool:=(Option.bind (G315 a0) fun r1=>some (decide (r1≥0)))
def G193_E:CEnt:=pureE 193 [.dat (.list T23),.fix (.func (.func 332) .nil .nil)] (.dat .bool) fun x=>G193 x.1
theorem G193_LV:LV 0 Tryz.prog false (loopsOf (bodyOf Tryz.f193)) []:=by unfold LV; cases loopsOf (bodyOf Tryz.f193)<;>trivial
theorem G193_ent:Ent Tryz.prog 193:=⟨by decide,enters_of Tryz.func193 (by kernel_rfl) rfl⟩
theorem G193_hev:∀ x,fnR Tryz.prog G193_C [] Tryz.f193 (bodyOf Tryz.f193) (encs [.dat (.list T23),.fix (.func (.func 332) .nil .nil)] x) ⟨[],[],0⟩ (frzF (.dat .bool))=G193 x.1:=by
  intro x; kernel_rfl
theorem G193_valid:G193_E.Valid Tryz.prog:=
  pureE_valid (by kernel_rfl) (by kernel_rfl) G193_ent (frz_lcall mixed Tryz.func193 rfl G193_ent G193_CV G193_LV (by kernel_rfl) (by kernel_rfl) G193_hev)
def G331_C:CalT:=tabC [G326_E,G193_E]
theorem G331_CV:CV Tryz.prog G331_C:=tabC_valid (l:=_) ⟨G326_valid,G193_valid,trivial⟩
def G331 (a0:E146) (b1:E35):Option (Bool×(E35×Unit)):=(Option.bind (G326 a0.1 0 1000000) fun r1=>(bif (!r1) then some (true,(b1,())) else (Option.bind (G326 a0.2.1 1 100) fun r2=>(bif (!r2) then some (true,(b1,())) else (bif ((List.length a0.2.2.1:Int) != (List.length b1.1:Int)) then some (true,(b1,())) else (Option.bind (G193 a0.2.2.1) fun r3=>some (r3,(b1,()))))))))
abbrev G331_CS:CSpec:=⟨[.dat T146,.fix (.bptr 0 [])],[.dat T35],0,[.dat T35],0,.dat .bool⟩
def G331_E:CEnt:=boxE 331 G331_CS fun x=>G331 x.1.1 x.2.1
theorem G331_LV:LV 1 Tryz.prog false (loopsOf (bodyOf Tryz.f331)) []:=by unfold LV; cases loopsOf (bodyOf Tryz.f331)<;>trivial
theorem G331_ent:Ent Tryz.prog 331:=⟨by decide,enters_of Tryz.func331 (by kernel_rfl) rfl⟩
theorem G331_hev:∀ x:G331_CS.In,fnR Tryz.prog G331_C [] Tryz.f331 (bodyOf Tryz.f331) (encs G331_CS.A x.1) ⟨encs G331_CS.I x.2,[],G331_CS.nt⟩ (finK G331_CS)=G331 x.1.1 x.2.1:=by
  intro x; kernel_rfl
theorem G331_valid:G331_E.Valid Tryz.prog:=
  boxE_valid (S:=G331_CS) (by kernel_rfl) (.inr G331_ent) (fn_lcall (S:=G331_CS) mixed Tryz.func331 rfl G331_ent G331_CV G331_LV (by kernel_rfl) (by kernel_rfl) G331_hev)
def G387_C:CalT:=tabC [G331_E]
theorem G387_CV:CV Tryz.prog G387_C:=tabC_valid (l:=_) ⟨G331_valid,trivial⟩
def G387_l0_c:Code:=loopAt (bodyOf Tryz.f387) 0
def G387_l0_S:SPat:=⟨[.dat (.list T146),.fix (.func (.func 331) .nil (.cons (.bptr 0 []) .nil)),.any,.any,.dat (.int .i64),.any,.any,.dat (.int .i64),.dat (.int .i64),.any,.any,.any,.any,.any,.any,.any,.any,.any,.any],[.dat T35],0⟩
def G387_l0_step (s:(((List E146)×(Int×(Int×(Int×Unit))))×(E35×Unit))):Option (Nat×(((List E146)×(Int×(Int×(Int×Unit))))×(E35×Unit))):=(bif (decide (s.1.2.2.2.1 < s.1.2.2.1)) then (bif (decide (0≤s.1.2.2.2.1)&&decide (s.1.2.2.2.1 < (List.length s.1.1:Int))) then (Option.bind (G331 (List.getD s.1.1 (Int.toNat s.1.2.2.2.1) (0,(0,([],())))) s.2.1) fun r1=>(bif r1.1 then some (1,((s.1.1,(s.1.2.2.2.1,(s.1.2.2.1,(s.1.2.2.2.1,())))),(r1.2.1,()))) else some (0,((s.1.1,(s.1.2.1,(s.1.2.2.1,((IntKind.wrap .i64 (s.1.2.2.2.1+1)),())))),(r1.2.1,()))))) else none) else some (2,((s.1.1,(s.1.2.1,(s.1.2.2.1,(s.1.2.2.2.1,())))),(s.2.1,()))))
def G387_l0_fuel (s:(((List E146)×(Int×(Int×(Int×Unit))))×(E35×Unit))):Nat:=Int.toNat (s.1.2.2.1 - s.1.2.2.2.1)+1
def G387_l0_run (s:(((List E146)×(Int×(Int×(Int×Unit))))×(E35×Unit))):Option (Nat×(((List E146)×(Int×(Int×(Int×Unit))))×(E35×Unit))):=iter G387_l0_step (G387_l0_fuel s) s
def G387_l0_L:LoopT:=loopT G387_l0_S [.ret,.exit 0] G387_l0_run
def G387 (a0:(List E146)) (b1:E35):Option (Int×(E35×Unit)):=(Option.bind (G387_l0_run ((a0,(0,((List.length a0:Int),(0,())))),(b1,()))) fun q2=>(natK q2.1 (some (q2.2.1.2.1,(q2.2.2.1,()))) (fun _=>some ((-1),(q2.2.2.1,())))))
abbrev G387_CS:CSpec:=⟨[.dat (.list T146),.fix (.func (.func 331) .nil (.cons (.bptr 0 []) .nil))],[.dat T35],0,[.dat T35],0,.dat (.int .i64)⟩
def G387_E:CEnt:=boxE 387 G387_CS fun x=>G387 x.1.1 x.2.1
theorem G387_l0_V:LValid 1 Tryz.prog (.loop G387_l0_c) G387_l0_L false:=by
  have hb:∀ s,codeR Tryz.prog G387_C G387_l0_c [] (G387_l0_S.encE s) (G387_l0_S.encB s) (kst G387_l0_S [.ret,.exit 0])=G387_l0_step s:=by
    intro s; kernel_rfl
  have hL:LV 1 Tryz.prog false (loopsOf G387_l0_c) []:=by unfold LV; cases loopsOf G387_l0_c<;>trivial
  exact loopT_valid (fuel:=G387_l0_fuel) mixed G387_CV hL (by kernel_rfl) (by decide) rfl hb (fun s r h=>h)
theorem G387_LV:LV 1 Tryz.prog false (loopsOf (bodyOf Tryz.f387)) [G387_l0_L]:=by
  have hl:loopsOf (bodyOf Tryz.f387)=[.loop G387_l0_c]:=by kernel_rfl
  rw [hl]; exact ⟨G387_l0_V,trivial⟩
theorem G387_ent:Ent Tryz.prog 387:=⟨by decide,enters_of Tryz.func387 (by kernel_rfl) rfl⟩
theorem G387_hev:∀ x:G387_CS.In,fnR Tryz.prog G387_C [G387_l0_L] Tryz.f387 (bodyOf Tryz.f387) (encs G387_CS.A x.1) ⟨encs G387_CS.I x.2,[],G387_CS.nt⟩ (finK G387_CS)=G387 x.1.1 x.2.1:=by
  intro x; kernel_rfl
theorem G387_valid:G387_E.Valid Tryz.prog:=
  boxE_valid (S:=G387_CS) (by kernel_rfl) (.inr G387_ent) (fn_lcall (S:=G387_CS) mixed Tryz.func387 rfl G387_ent G387_CV G387_LV (by kernel_rfl) (by kernel_rfl) G387_hev)
def G330_C:CalT:=tabC [G387_E]
theorem G330_CV:CV Tryz.prog G330_C:=tabC_valid (l:=_) ⟨G387_valid,trivial⟩
def G330 (a0:(List E146)) (b1:E35):Option (Bool×(E35×Unit)):=(Option.bind (G387 a0 b1) fun r1=>some ((decide (r1.1≥0)),(r1.2.1,())))
abbrev G330_CS:CSpec:=⟨[.dat (.list T146),.fix (.func (.func 331) .nil (.cons (.bptr 0 []) .nil))],[.dat T35],0,[.dat T35],0,.dat .bool⟩
def G330_E:CEnt:=boxE 330 G330_CS fun x=>G330 x.1.1 x.2.1
theorem G330_LV:LV 1 Tryz.prog false (loopsOf (bodyOf Tryz.f330)) []:=by unfold LV; cases loopsOf (bodyOf Tryz.f330)<;>trivial
theorem G330_ent:Ent Tryz.prog 330:=⟨by decide,enters_of Tryz.func330 (by kernel_rfl) rfl⟩
theorem G330_hev:∀ x:G330_CS.In,fnR Tryz.prog G330_C [] Tryz.f330 (bodyOf Tryz.f330) (encs G330_CS.A x.1) ⟨encs G330_CS.I x.2,[],G330_CS.nt⟩ (finK G330_CS)=G330 x.1.1 x.2.1:=by
  intro x; kernel_rfl
theorem G330_valid:G330_E.Valid Tryz.prog:=
  boxE_valid (S:=G330_CS) (by kernel_rfl) (.inr G330_ent) (fn_lcall (S:=G330_CS) mixed Tryz.func330 rfl G330_ent G330_CV G330_LV (by kernel_rfl) (by kernel_rfl) G330_hev)
def G224_C:CalT:=tabC [G326_E,G327_E,G330_E]
theorem G224_CV:CV Tryz.prog G224_C:=tabC_valid (l:=_) ⟨G326_valid,G327_valid,G330_valid,trivial⟩
def G224 (a0:E35):Option Bool:=(Option.bind (G326 (List.length a0.1:Int) 1 6) fun r1=>(bif r1 then (Option.bind (G326 (List.length a0.2.1:Int) 1 10) fun r2=>(bif r2 then (Option.bind (G327 a0.1) fun r3=>(bif (!r3) then (Option.bind (G330 a0.2.1 a0) fun r4=>some (!r4.1)) else some false)) else some false)) else some false))
def G224_E:CEnt:=pureE 224 [.dat T35] (.dat .bool) fun x=>G224 x.1
theorem G224_LV:LV 0 Tryz.prog false (loopsOf (bodyOf Tryz.f224)) []:=by unfold LV; cases loopsOf (bodyOf Tryz.f224)<;>trivial
theorem G224_ent:Ent Tryz.prog 224:=⟨by decide,enters_of Tryz.func224 (by kernel_rfl) rfl⟩
theorem G224_hev:∀ x,fnR Tryz.prog G224_C [] Tryz.f224 (bodyOf Tryz.f224) (encs [.dat T35] x) ⟨[],[],0⟩ (frzF (.dat .bool))=G224 x.1:=by
  intro x; kernel_rfl
theorem G224_valid:G224_E.Valid Tryz.prog:=
  pureE_valid (by kernel_rfl) (by kernel_rfl) G224_ent (frz_lcall mixed Tryz.func224 rfl G224_ent G224_CV G224_LV (by kernel_rfl) (by kernel_rfl) G224_hev)
def G225_C:CalT:=tabC [G326_E]
theorem G225_CV:CV Tryz.prog G225_C:=tabC_valid (l:=_) ⟨G326_valid,trivial⟩
def G225 (a0:Int):Option Bool:=(Option.bind (G326 a0 0 3) fun r1=>some r1)
def G225_E:CEnt:=pureE 225 [.dat (.int .i64)] (.dat .bool) fun x=>G225 x.1
theorem G225_LV:LV 0 Tryz.prog false (loopsOf (bodyOf Tryz.f225)) []:=by unfold LV; cases loopsOf (bodyOf Tryz.f225)<;>trivial
theorem G225_ent:Ent Tryz.prog 225:=⟨by decide,enters_of Tryz.func225 (by kernel_rfl) rfl⟩
theorem G225_hev:∀ x,fnR Tryz.prog G225_C [] Tryz.f225 (bodyOf Tryz.f225) (encs [.dat (.int .i64)] x) ⟨[],[],0⟩ (frzF (.dat .bool))=G225 x.1:=by
  intro x; kernel_rfl
theorem G225_valid:G225_E.Valid Tryz.prog:=
  pureE_valid (by kernel_rfl) (by kernel_rfl) G225_ent (frz_lcall mixed Tryz.func225 rfl G225_ent G225_CV G225_LV (by kernel_rfl) (by kernel_rfl) G225_hev)
def G230_C:CalT:=tabC []
theorem G230_CV:CV Tryz.prog G230_C:=tabC_valid (l:=_) trivial
def G230 (a0:Int) (a1:Int):Option E23:=some (a0,(a1,()))
def G230_E:CEnt:=pureE 230 [.dat (.int .i64),.dat (.int .i64)] (.dat T23) fun x=>G230 x.1 x.2.1
theorem G230_LV:LV 0 Tryz.prog false (loopsOf (bodyOf Tryz.f230)) []:=by unfold LV; cases loopsOf (bodyOf Tryz.f230)<;>trivial
theorem G230_ent:Ent Tryz.prog 230:=⟨by decide,enters_of Tryz.func230 (by kernel_rfl) rfl⟩
theorem G230_hev:∀ x,fnR Tryz.prog G230_C [] Tryz.f230 (bodyOf Tryz.f230) (encs [.dat (.int .i64),.dat (.int .i64)] x) ⟨[],[],0⟩ (frzF (.dat T23))=G230 x.1 x.2.1:=by
  intro x; kernel_rfl
theorem G230_valid:G230_E.Valid Tryz.prog:=
  pureE_valid (by kernel_rfl) (by kernel_rfl) G230_ent (frz_lcall mixed Tryz.func230 rfl G230_ent G230_CV G230_LV (by kernel_rfl) (by kernel_rfl) G230_hev)
def G118_C:CalT:=tabC [G230_E]
theorem G118_CV:CV Tryz.prog G118_C:=tabC_valid (l:=_) ⟨G230_valid,trivial⟩
def G118:Option E35:=(Option.bind (G230 80 100) fun r1=>(Option.bind (G230 50 60) fun r2=>(Option.bind (G230 60 70) fun r3=>(Option.bind (G230 50 60) fun r4=>(Option.bind (G230 40 50) fun r5=>(Option.bind (G230 60 80) fun r6=>(Option.bind (G230 50 55) fun r7=>(Option.bind (G230 30 35) fun r8=>some ([(r1,(3,())),(r2,(5,()))],([(300,(2,([r3,(0,(0,()))],()))),(500,(3,([r4,r5],()))),(400,(1,([(0,(0,())),r6],()))),(450,(4,([r7,r8],())))],()))))))))))
def G118_E:CEnt:=pureE 118 [] (.dat T35) fun x=>G118
theorem G118_LV:LV 0 Tryz.prog false (loopsOf (bodyOf Tryz.f118)) []:=by unfold LV; cases loopsOf (bodyOf Tryz.f118)<;>trivial
theorem G118_ent:Ent Tryz.prog 118:=⟨by decide,enters_of Tryz.func118 (by kernel_rfl) rfl⟩
theorem G118_hev:∀ x,fnR Tryz.prog G118_C [] Tryz.f118 (bodyOf Tryz.f118) (encs [] x) ⟨[],[],0⟩ (frzF (.dat T35))=G118:=by
  intro x; kernel_rfl
theorem G118_valid:G118_E.Valid Tryz.prog:=
  pureE_valid (by kernel_rfl) (by kernel_rfl) G118_ent (frz_lcall mixed Tryz.func118 rfl G118_ent G118_CV G118_LV (by kernel_rfl) (by kernel_rfl) G118_hev)
def G231_C:CalT:=tabC []
theorem G231_CV:CV Tryz.prog G231_C:=tabC_valid (l:=_) trivial
def G231 (a0:Int) (a1:Int):Option E23:=some (a0,(a1,()))
def G231_E:CEnt:=pureE 231 [.dat (.int .i64),.dat (.int .i64)] (.dat T23) fun x=>G231 x.1 x.2.1
theorem G231_LV:LV 0 Tryz.prog false (loopsOf (bodyOf Tryz.f231)) []:=by unfold LV; cases loopsOf (bodyOf Tryz.f231)<;>trivial
theorem G231_ent:Ent Tryz.prog 231:=⟨by decide,enters_of Tryz.func231 (by kernel_rfl) rfl⟩
theorem G231_hev:∀ x,fnR Tryz.prog G231_C [] Tryz.f231 (bodyOf Tryz.f231) (encs [.dat (.int .i64),.dat (.int .i64)] x) ⟨[],[],0⟩ (frzF (.dat T23))=G231 x.1 x.2.1:=by
  intro x; kernel_rfl
theorem G231_valid:G231_E.Valid Tryz.prog:=
  pureE_valid (by kernel_rfl) (by kernel_rfl) G231_ent (frz_lcall mixed Tryz.func231 rfl G231_ent G231_CV G231_LV (by kernel_rfl) (by kernel_rfl) G231_hev)
def G119_C:CalT:=tabC [G231_E]
theorem G119_CV:CV Tryz.prog G119_C:=tabC_valid (l:=_) ⟨G231_valid,trivial⟩
def G119:Option E137:=(Option.bind (G231 500 650) fun r1=>(Option.bind (G231 550 750) fun r2=>(Option.bind (G231 600 850) fun r3=>(Option.bind (G231 650 950) fun r4=>(Option.bind (G231 100 120) fun r5=>(Option.bind (G231 10 20) fun r6=>(Option.bind (G231 200 250) fun r7=>(Option.bind (G231 90 130) fun r8=>(Option.bind (G231 400 400) fun r9=>(Option.bind (G231 300 400) fun r10=>some (5,([(0,(1,(0,(300,())))),(1,(3,(900,(500,())))),(0,(2,(600,(200,())))),(2,(3,(700,(250,())))),(2,(4,(0,((-1),())))),(1,(2,(800,(100,()))))],([0],([3],([r1,r2,r3,r4],([(1,(620,(r5,(r6,())))),(2,(5000,(r7,(r8,())))),((-1),(5000,(r9,(r10,()))))],()))))))))))))))))
def G119_E:CEnt:=pureE 119 [] (.dat T137) fun x=>G119
theorem G119_LV:LV 0 Tryz.prog false (loopsOf (bodyOf Tryz.f119)) []:=by unfold LV; cases loopsOf (bodyOf Tryz.f119)<;>trivial
theorem G119_ent:Ent Tryz.prog 119:=⟨by decide,enters_of Tryz.func119 (by kernel_rfl) rfl⟩
theorem G119_hev:∀ x,fnR Tryz.prog G119_C [] Tryz.f119 (bodyOf Tryz.f119) (encs [] x) ⟨[],[],0⟩ (frzF (.dat T137))=G119:=by
  intro x; kernel_rfl
theorem G119_valid:G119_E.Valid Tryz.prog:=
  pureE_valid (by kernel_rfl) (by kernel_rfl) G119_ent (frz_lcall mixed Tryz.func119 rfl G119_ent G119_CV G119_LV (by kernel_rfl) (by kernel_rfl) G119_hev)
def G235_C:CalT:=tabC []
theorem G235_CV:CV Tryz.prog G235_C:=tabC_valid (l:=_) trivial
def G235 (a0:Int) (a1:Int) (a2:Int):Option E126:=some (1,(a0,(a1,(a2,()))))
def G235_E:CEnt:=pureE 235 [.dat (.int .i64),.dat (.int .i64),.dat (.int .i64)] (.dat T126) fun x=>G235 x.1 x.2.1 x.2.2.1
theorem G235_LV:LV 0 Tryz.prog false (loopsOf (bodyOf Tryz.f235)) []:=by unfold LV; cases loopsOf (bodyOf Tryz.f235)<;>trivial
theorem G235_ent:Ent Tryz.prog 235:=⟨by decide,enters_of Tryz.func235 (by kernel_rfl) rfl⟩
theorem G235_hev:∀ x,fnR Tryz.prog G235_C [] Tryz.f235 (bodyOf Tryz.f235) (encs [.dat (.int .i64),.dat (.int .i64),.dat (.int .i64)] x) ⟨[],[],0⟩ (frzF (.dat T126))=G235 x.1 x.2.1 x.2.2.1:=by
  intro x; kernel_rfl
theorem G235_valid:G235_E.Valid Tryz.prog:=
  pureE_valid (by kernel_rfl) (by kernel_rfl) G235_ent (frz_lcall mixed Tryz.func235 rfl G235_ent G235_CV G235_LV (by kernel_rfl) (by kernel_rfl) G235_hev)
def G121_C:CalT:=tabC [G235_E]
theorem G121_CV:CV Tryz.prog G121_C:=tabC_valid (l:=_) ⟨G235_valid,trivial⟩
def G121:Option (List E126):=(Option.bind (G235 1 3 1) fun r1=>(Option.bind (G235 3 2 2) fun r2=>(Option.bind (G235 4 5 3) fun r3=>some ([(4,(0,(0,(0,())))),(3,(0,(0,(0,())))),r1,(2,(0,(0,(0,())))),r2,r3]))))
def G121_E:CEnt:=pureE 121 [] (.dat (.list T126)) fun x=>G121
theorem G121_LV:LV 0 Tryz.prog false (loopsOf (bodyOf Tryz.f121)) []:=by unfold LV; cases loopsOf (bodyOf Tryz.f121)<;>trivial
theorem G121_ent:Ent Tryz.prog 121:=⟨by decide,enters_of Tryz.func121 (by kernel_rfl) rfl⟩
theorem G121_hev:∀ x,fnR Tryz.prog G121_C [] Tryz.f121 (bodyOf Tryz.f121) (encs [] x) ⟨[],[],0⟩ (frzF (.dat (.list T126)))=G121:=by
  intro x; kernel_rfl
theorem G121_valid:G121_E.Valid Tryz.prog:=
  pureE_valid (by kernel_rfl) (by kernel_rfl) G121_ent (frz_lcall mixed Tryz.func121 rfl G121_ent G121_CV G121_LV (by kernel_rfl) (by kernel_rfl) G121_hev)
def G358_C:CalT:=tabC [G347_E]
theorem G358_CV:CV Tryz.prog G358_C:=tabC_valid (l:=_) ⟨G347_valid,trivial⟩
def G358 (a0:Int) (a1:Int):Option Bool:=(Option.bind (G347 a0) fun r1=>(bif r1 then (Option.bind (G347 a1) fun r2=>(bif (!r2) then some true else some (decide (a0 < a1)))) else some (decide (a0 < a1))))
def G358_E:CEnt:=pureE 358 [.dat (.int .i64),.dat (.int .i64)] (.dat .bool) fun x=>G358 x.1 x.2.1
theorem G358_LV:LV 0 Tryz.prog false (loopsOf (bodyOf Tryz.f358)) []:=by unfold LV; cases loopsOf (bodyOf Tryz.f358)<;>trivial
theorem G358_ent:Ent Tryz.prog 358:=⟨by decide,enters_of Tryz.func358 (by kernel_rfl) rfl⟩
theorem G358_hev:∀ x,fnR Tryz.prog G358_C [] Tryz.f358 (bodyOf Tryz.f358) (encs [.dat (.int .i64),.dat (.int .i64)] x) ⟨[],[],0⟩ (frzF (.dat .bool))=G358 x.1 x.2.1:=by
  intro x; kernel_rfl
theorem G358_valid:G358_E.Valid Tryz.prog:=
  pureE_valid (by kernel_rfl) (by kernel_rfl) G358_ent (frz_lcall mixed Tryz.func358 rfl G358_ent G358_CV G358_LV (by kernel_rfl) (by kernel_rfl) G358_hev)
def G427_C:CalT:=tabC []
theorem G427_CV:CV Tryz.prog G427_C:=tabC_valid (l:=_) trivial
def G427 (a0:Int):Option Int:=(bif (decide (a0≥4294967296)) then (bif (decide ((Int.fdiv a0 (2^(min (Int.toNat 32) (IntKind.bits .u64))))≥65536)) then (bif (decide ((Int.fdiv (Int.fdiv a0 (2^(min (Int.toNat 32) (IntKind.bits .u64)))) (2^(min (Int.toNat 16) (IntKind.bits .u64))))≥256)) then (bif (decide (0≤(IntKind.wrap .u8 (Int.fdiv (Int.fdiv (Int.fdiv a0 (2^(min (Int.toNat 32) (IntKind.bits .u64)))) (2^(min (Int.toNat 16) (IntKind.bits .u64)))) (2^(min (Int.toNat 8) (IntKind.bits .u64))))))&&decide ((IntKind.wrap .u8 (Int.fdiv (Int.fdiv (Int.fdiv a0 (2^(min (Int.toNat 32) (IntKind.bits .u64)))) (2^(min (Int.toNat 16) (IntKind.bits .u64)))) (2^(min (Int.toNat 8) (IntKind.bits .u64))))) < (ByteArray.size (⟨#[0,1,2,2,3,3,3,3,4,4,4,4,4,4,4,4,5,5,5,5,5,5,5,5,5,5,5,5,5,5,5,5,6,6,6,6,6,6,6,6,6,6,6,6,6,6,6,6,6,6,6,6,6,6,6,6,6,6,6,6,6,6,6,6,7,7,7,7,7,7,7,7,7,7,7,7,7,7,7,7,7,7,7,7,7,7,7,7,7,7,7,7,7,7,7,7,7,7,7,7,7,7,7,7,7,7,7,7,7,7,7,7,7,7,7,7,7,7,7,7,7,7,7,7,7,7,7,7,8,8,8,8,8,8,8,8,8,8,8,8,8,8,8,8,8,8,8,8,8,8,8,8,8,8,8,8,8,8,8,8,8,8,8,8,8,8,8,8,8,8,8,8,8,8,8,8,8,8,8,8,8,8,8,8,8,8,8,8,8,8,8,8,8,8,8,8,8,8,8,8,8,8,8,8,8,8,8,8,8,8,8,8,8,8,8,8,8,8,8,8,8,8,8,8,8,8,8,8,8,8,8,8,8,8,8,8,8,8,8,8,8,8,8,8,8,8,8,8,8,8,8,8,8,8,8,8]⟩:ByteArray):Int))) then some (IntKind.wrap .i64 ((IntKind.wrap .i64 ((IntKind.wrap .i64 ((32:Int)+16))+8))+(IntKind.wrap .i64 (bt (⟨#[0,1,2,2,3,3,3,3,4,4,4,4,4,4,4,4,5,5,5,5,5,5,5,5,5,5,5,5,5,5,5,5,6,6,6,6,6,6,6,6,6,6,6,6,6,6,6,6,6,6,6,6,6,6,6,6,6,6,6,6,6,6,6,6,7,7,7,7,7,7,7,7,7,7,7,7,7,7,7,7,7,7,7,7,7,7,7,7,7,7,7,7,7,7,7,7,7,7,7,7,7,7,7,7,7,7,7,7,7,7,7,7,7,7,7,7,7,7,7,7,7,7,7,7,7,7,7,7,8,8,8,8,8,8,8,8,8,8,8,8,8,8,8,8,8,8,8,8,8,8,8,8,8,8,8,8,8,8,8,8,8,8,8,8,8,8,8,8,8,8,8,8,8,8,8,8,8,8,8,8,8,8,8,8,8,8,8,8,8,8,8,8,8,8,8,8,8,8,8,8,8,8,8,8,8,8,8,8,8,8,8,8,8,8,8,8,8,8,8,8,8,8,8,8,8,8,8,8,8,8,8,8,8,8,8,8,8,8,8,8,8,8,8,8,8,8,8,8,8,8,8,8,8,8,8,8]⟩:ByteArray) (IntKind.wrap .u8 (Int.fdiv (Int.fdiv (Int.fdiv a0 (2^(min (Int.toNat 32) (IntKind.bits .u64)))) (2^(min (Int.toNat 16) (IntKind.bits .u64)))) (2^(min (Int.toNat 8) (IntKind.bits .u64))))))))) else none) else (bif (decide (0≤(IntKind.wrap .u8 (Int.fdiv (Int.fdiv a0 (2^(min (Int.toNat 32) (IntKind.bits .u64)))) (2^(min (Int.toNat 16) (IntKind.bits .u64))))))&&decide ((IntKind.wrap .u8 (Int.fdiv (Int.fdiv a0 (2^(min (Int.toNat 32) (IntKind.bits .u64)))) (2^(min (Int.toNat 16) (IntKind.bits .u64))))) < (ByteArray.size (⟨#[0,1,2,2,3,3,3,3,4,4,4,4,4,4,4,4,5,5,5,5,5,5,5,5,5,5,5,5,5,5,5,5,6,6,6,6,6,6,6,6,6,6,6,6,6,6,6,6,6,6,6,6,6,6,6,6,6,6,6,6,6,6,6,6,7,7,7,7,7,7,7,7,7,7,7,7,7,7,7,7,7,7,7,7,7,7,7,7,7,7,7,7,7,7,7,7,7,7,7,7,7,7,7,7,7,7,7,7,7,7,7,7,7,7,7,7,7,7,7,7,7,7,7,7,7,7,7,7,8,8,8,8,8,8,8,8,8,8,8,8,8,8,8,8,8,8,8,8,8,8,8,8,8,8,8,8,8,8,8,8,8,8,8,8,8,8,8,8,8,8,8,8,8,8,8,8,8,8,8,8,8,8,8,8,8,8,8,8,8,8,8,8,8,8,8,8,8,8,8,8,8,8,8,8,8,8,8,8,8,8,8,8,8,8,8,8,8,8,8,8,8,8,8,8,8,8,8,8,8,8,8,8,8,8,8,8,8,8,8,8,8,8,8,8,8,8,8,8,8,8,8,8,8,8,8,8]⟩:ByteArray):Int))) then some (IntKind.wrap .i64 ((IntKind.wrap .i64 ((32:Int)+16))+(IntKind.wrap .i64 (bt (⟨#[0,1,2,2,3,3,3,3,4,4,4,4,4,4,4,4,5,5,5,5,5,5,5,5,5,5,5,5,5,5,5,5,6,6,6,6,6,6,6,6,6,6,6,6,6,6,6,6,6,6,6,6,6,6,6,6,6,6,6,6,6,6,6,6,7,7,7,7,7,7,7,7,7,7,7,7,7,7,7,7,7,7,7,7,7,7,7,7,7,7,7,7,7,7,7,7,7,7,7,7,7,7,7,7,7,7,7,7,7,7,7,7,7,7,7,7,7,7,7,7,7,7,7,7,7,7,7,7,8,8,8,8,8,8,8,8,8,8,8,8,8,8,8,8,8,8,8,8,8,8,8,8,8,8,8,8,8,8,8,8,8,8,8,8,8,8,8,8,8,8,8,8,8,8,8,8,8,8,8,8,8,8,8,8,8,8,8,8,8,8,8,8,8,8,8,8,8,8,8,8,8,8,8,8,8,8,8,8,8,8,8,8,8,8,8,8,8,8,8,8,8,8,8,8,8,8,8,8,8,8,8,8,8,8,8,8,8,8,8,8,8,8,8,8,8,8,8,8,8,8,8,8,8,8,8,8]⟩:ByteArray) (IntKind.wrap .u8 (Int.fdiv (Int.fdiv a0 (2^(min (Int.toNat 32) (IntKind.bits .u64)))) (2^(min (Int.toNat 16) (IntKind.bits .u64))))))))) else none)) else (bif (decide ((Int.fdiv a0 (2^(min (Int.toNat 32) (IntKind.bits .u64))))≥256)) then (bif (decide (0≤(IntKind.wrap .u8 (Int.fdiv (Int.fdiv a0 (2^(min (Int.toNat 32) (IntKind.bits .u64)))) (2^(min (Int.toNat 8) (IntKind.bits .u64))))))&&decide ((IntKind.wrap .u8 (Int.fdiv (Int.fdiv a0 (2^(min (Int.toNat 32) (IntKind.bits .u64)))) (2^(min (Int.toNat 8) (IntKind.bits .u64))))) < (ByteArray.size (⟨#[0,1,2,2,3,3,3,3,4,4,4,4,4,4,4,4,5,5,5,5,5,5,5,5,5,5,5,5,5,5,5,5,6,6,6,6,6,6,6,6,6,6,6,6,6,6,6,6,6,6,6,6,6,6,6,6,6,6,6,6,6,6,6,6,7,7,7,7,7,7,7,7,7,7,7,7,7,7,7,7,7,7,7,7,7,7,7,7,7,7,7,7,7,7,7,7,7,7,7,7,7,7,7,7,7,7,7,7,7,7,7,7,7,7,7,7,7,7,7,7,7,7,7,7,7,7,7,7,8,8,8,8,8,8,8,8,8,8,8,8,8,8,8,8,8,8,8,8,8,8,8,8,8,8,8,8,8,8,8,8,8,8,8,8,8,8,8,8,8,8,8,8,8,8,8,8,8,8,8,8,8,8,8,8,8,8,8,8,8,8,8,8,8,8,8,8,8,8,8,8,8,8,8,8,8,8,8,8,8,8,8,8,8,8,8,8,8,8,8,8,8,8,8,8,8,8,8,8,8,8,8,8,8,8,8,8,8,8,8,8,8,8,8,8,8,8,8,8,8,8,8,8,8,8,8,8]⟩:ByteArray):Int))) then some (IntKind.wrap .i64 ((IntKind.wrap .i64 ((32:Int)+8))+(IntKind.wrap .i64 (bt (⟨#[0,1,2,2,3,3,3,3,4,4,4,4,4,4,4,4,5,5,5,5,5,5,5,5,5,5,5,5,5,5,5,5,6,6,6,6,6,6,6,6,6,6,6,6,6,6,6,6,6,6,6,6,6,6,6,6,6,6,6,6,6,6,6,6,7,7,7,7,7,7,7,7,7,7,7,7,7,7,7,7,7,7,7,7,7,7,7,7,7,7,7,7,7,7,7,7,7,7,7,7,7,7,7,7,7,7,7,7,7,7,7,7,7,7,7,7,7,7,7,7,7,7,7,7,7,7,7,7,8,8,8,8,8,8,8,8,8,8,8,8,8,8,8,8,8,8,8,8,8,8,8,8,8,8,8,8,8,8,8,8,8,8,8,8,8,8,8,8,8,8,8,8,8,8,8,8,8,8,8,8,8,8,8,8,8,8,8,8,8,8,8,8,8,8,8,8,8,8,8,8,8,8,8,8,8,8,8,8,8,8,8,8,8,8,8,8,8,8,8,8,8,8,8,8,8,8,8,8,8,8,8,8,8,8,8,8,8,8,8,8,8,8,8,8,8,8,8,8,8,8,8,8,8,8,8,8]⟩:ByteArray) (IntKind.wrap .u8 (Int.fdiv (Int.fdiv a0 (2^(min (Int.toNat 32) (IntKind.bits .u64)))) (2^(min (Int.toNat 8) (IntKind.bits .u64))))))))) else none) else (bif (decide (0≤(IntKind.wrap .u8 (Int.fdiv a0 (2^(min (Int.toNat 32) (IntKind.bits .u64))))))&&decide ((IntKind.wrap .u8 (Int.fdiv a0 (2^(min (Int.toNat 32) (IntKind.bits .u64))))) < (ByteArray.size (⟨#[0,1,2,2,3,3,3,3,4,4,4,4,4,4,4,4,5,5,5,5,5,5,5,5,5,5,5,5,5,5,5,5,6,6,6,6,6,6,6,6,6,6,6,6,6,6,6,6,6,6,6,6,6,6,6,6,6,6,6,6,6,6,6,6,7,7,7,7,7,7,7,7,7,7,7,7,7,7,7,7,7,7,7,7,7,7,7,7,7,7,7,7,7,7,7,7,7,7,7,7,7,7,7,7,7,7,7,7,7,7,7,7,7,7,7,7,7,7,7,7,7,7,7,7,7,7,7,7,8,8,8,8,8,8,8,8,8,8,8,8,8,8,8,8,8,8,8,8,8,8,8,8,8,8,8,8,8,8,8,8,8,8,8,8,8,8,8,8,8,8,8,8,8,8,8,8,8,8,8,8,8,8,8,8,8,8,8,8,8,8,8,8,8,8,8,8,8,8,8,8,8,8,8,8,8,8,8,8,8,8,8,8,8,8,8,8,8,8,8,8,8,8,8,8,8,8,8,8,8,8,8,8,8,8,8,8,8,8,8,8,8,8,8,8,8,8,8,8,8,8,8,8,8,8,8,8]⟩:ByteArray):Int))) then some (IntKind.wrap .i64 ((32:Int)+(IntKind.wrap .i64 (bt (⟨#[0,1,2,2,3,3,3,3,4,4,4,4,4,4,4,4,5,5,5,5,5,5,5,5,5,5,5,5,5,5,5,5,6,6,6,6,6,6,6,6,6,6,6,6,6,6,6,6,6,6,6,6,6,6,6,6,6,6,6,6,6,6,6,6,7,7,7,7,7,7,7,7,7,7,7,7,7,7,7,7,7,7,7,7,7,7,7,7,7,7,7,7,7,7,7,7,7,7,7,7,7,7,7,7,7,7,7,7,7,7,7,7,7,7,7,7,7,7,7,7,7,7,7,7,7,7,7,7,8,8,8,8,8,8,8,8,8,8,8,8,8,8,8,8,8,8,8,8,8,8,8,8,8,8,8,8,8,8,8,8,8,8,8,8,8,8,8,8,8,8,8,8,8,8,8,8,8,8,8,8,8,8,8,8,8,8,8,8,8,8,8,8,8,8,8,8,8,8,8,8,8,8,8,8,8,8,8,8,8,8,8,8,8,8,8,8,8,8,8,8,8,8,8,8,8,8,8,8,8,8,8,8,8,8,8,8,8,8,8,8,8,8,8,8,8,8,8,8,8,8,8,8,8,8,8,8]⟩:ByteArray) (IntKind.wrap .u8 (Int.fdiv a0 (2^(min (Int.toNat 32) (IntKind.bits .u64))))))))) else none))) else (bif (decide (a0≥65536)) then (bif (decide ((Int.fdiv a0 (2^(min (Int.toNat 16) (IntKind.bits .u64))))≥256)) then (bif (decide (0≤(IntKind.wrap .u8 (Int.fdiv (Int.fdiv a0 (2^(min (Int.toNat 16) (IntKind.bits .u64)))) (2^(min (Int.toNat 8) (IntKind.bits .u64))))))&&decide ((IntKind.wrap .u8 (Int.fdiv (Int.fdiv a0 (2^(min (Int.toNat 16) (IntKind.bits .u64)))) (2^(min (Int.toNat 8) (IntKind.bits .u64))))) < (ByteArray.size (⟨#[0,1,2,2,3,3,3,3,4,4,4,4,4,4,4,4,5,5,5,5,5,5,5,5,5,5,5,5,5,5,5,5,6,6,6,6,6,6,6,6,6,6,6,6,6,6,6,6,6,6,6,6,6,6,6,6,6,6,6,6,6,6,6,6,7,7,7,7,7,7,7,7,7,7,7,7,7,7,7,7,7,7,7,7,7,7,7,7,7,7,7,7,7,7,7,7,7,7,7,7,7,7,7,7,7,7,7,7,7,7,7,7,7,7,7,7,7,7,7,7,7,7,7,7,7,7,7,7,8,8,8,8,8,8,8,8,8,8,8,8,8,8,8,8,8,8,8,8,8,8,8,8,8,8,8,8,8,8,8,8,8,8,8,8,8,8,8,8,8,8,8,8,8,8,8,8,8,8,8,8,8,8,8,8,8,8,8,8,8,8,8,8,8,8,8,8,8,8,8,8,8,8,8,8,8,8,8,8,8,8,8,8,8,8,8,8,8,8,8,8,8,8,8,8,8,8,8,8,8,8,8,8,8,8,8,8,8,8,8,8,8,8,8,8,8,8,8,8,8,8,8,8,8,8,8,8]⟩:ByteArray):Int))) then some (IntKind.wrap .i64 ((IntKind.wrap .i64 ((IntKind.wrap .i64 ((0:Int)+16))+8))+(IntKind.wrap .i64 (bt (⟨#[0,1,2,2,3,3,3,3,4,4,4,4,4,4,4,4,5,5,5,5,5,5,5,5,5,5,5,5,5,5,5,5,6,6,6,6,6,6,6,6,6,6,6,6,6,6,6,6,6,6,6,6,6,6,6,6,6,6,6,6,6,6,6,6,7,7,7,7,7,7,7,7,7,7,7,7,7,7,7,7,7,7,7,7,7,7,7,7,7,7,7,7,7,7,7,7,7,7,7,7,7,7,7,7,7,7,7,7,7,7,7,7,7,7,7,7,7,7,7,7,7,7,7,7,7,7,7,7,8,8,8,8,8,8,8,8,8,8,8,8,8,8,8,8,8,8,8,8,8,8,8,8,8,8,8,8,8,8,8,8,8,8,8,8,8,8,8,8,8,8,8,8,8,8,8,8,8,8,8,8,8,8,8,8,8,8,8,8,8,8,8,8,8,8,8,8,8,8,8,8,8,8,8,8,8,8,8,8,8,8,8,8,8,8,8,8,8,8,8,8,8,8,8,8,8,8,8,8,8,8,8,8,8,8,8,8,8,8,8,8,8,8,8,8,8,8,8,8,8,8,8,8,8,8,8,8]⟩:ByteArray) (IntKind.wrap .u8 (Int.fdiv (Int.fdiv a0 (2^(min (Int.toNat 16) (IntKind.bits .u64)))) (2^(min (Int.toNat 8) (IntKind.bits .u64))))))))) else none) else (bif (decide (0≤(IntKind.wrap .u8 (Int.fdiv a0 (2^(min (Int.toNat 16) (IntKind.bits .u64))))))&&decide ((IntKind.wrap .u8 (Int.fdiv a0 (2^(min (Int.toNat 16) (IntKind.bits .u64))))) < (ByteArray.size (⟨#[0,1,2,2,3,3,3,3,4,4,4,4,4,4,4,4,5,5,5,5,5,5,5,5,5,5,5,5,5,5,5,5,6,6,6,6,6,6,6,6,6,6,6,6,6,6,6,6,6,6,6,6,6,6,6,6,6,6,6,6,6,6,6,6,7,7,7,7,7,7,7,7,7,7,7,7,7,7,7,7,7,7,7,7,7,7,7,7,7,7,7,7,7,7,7,7,7,7,7,7,7,7,7,7,7,7,7,7,7,7,7,7,7,7,7,7,7,7,7,7,7,7,7,7,7,7,7,7,8,8,8,8,8,8,8,8,8,8,8,8,8,8,8,8,8,8,8,8,8,8,8,8,8,8,8,8,8,8,8,8,8,8,8,8,8,8,8,8,8,8,8,8,8,8,8,8,8,8,8,8,8,8,8,8,8,8,8,8,8,8,8,8,8,8,8,8,8,8,8,8,8,8,8,8,8,8,8,8,8,8,8,8,8,8,8,8,8,8,8,8,8,8,8,8,8,8,8,8,8,8,8,8,8,8,8,8,8,8,8,8,8,8,8,8,8,8,8,8,8,8,8,8,8,8,8,8]⟩:ByteArray):Int))) then some (IntKind.wrap .i64 ((IntKind.wrap .i64 ((0:Int)+16))+(IntKind.wrap .i64 (bt (⟨#[0,1,2,2,3,3,3,3,4,4,4,4,4,4,4,4,5,5,5,5,5,5,5,5,5,5,5,5,5,5,5,5,6,6,6,6,6,6,6,6,6,6,6,6,6,6,6,6,6,6,6,6,6,6,6,6,6,6,6,6,6,6,6,6,7,7,7,7,7,7,7,7,7,7,7,7,7,7,7,7,7,7,7,7,7,7,7,7,7,7,7,7,7,7,7,7,7,7,7,7,7,7,7,7,7,7,7,7,7,7,7,7,7,7,7,7,7,7,7,7,7,7,7,7,7,7,7,7,8,8,8,8,8,8,8,8,8,8,8,8,8,8,8,8,8,8,8,8,8,8,8,8,8,8,8,8,8,8,8,8,8,8,8,8,8,8,8,8,8,8,8,8,8,8,8,8,8,8,8,8,8,8,8,8,8,8,8,8,8,8,8,8,8,8,8,8,8,8,8,8,8,8,8,8,8,8,8,8,8,8,8,8,8,8,8,8,8,8,8,8,8,8,8,8,8,8,8,8,8,8,8,8,8,8,8,8,8,8,8,8,8,8,8,8,8,8,8,8,8,8,8,8,8,8,8,8]⟩:ByteArray) (IntKind.wrap .u8 (Int.fdiv a0 (2^(min (Int.toNat 16) (IntKind.bits .u64))))))))) else none)) else (bif (decide (a0≥256)) then (bif (decide (0≤(IntKind.wrap .u8 (Int.fdiv a0 (2^(min (Int.toNat 8) (IntKind.bits .u64))))))&&decide ((IntKind.wrap .u8 (Int.fdiv a0 (2^(min (Int.toNat 8) (IntKind.bits .u64))))) < (ByteArray.size (⟨#[0,1,2,2,3,3,3,3,4,4,4,4,4,4,4,4,5,5,5,5,5,5,5,5,5,5,5,5,5,5,5,5,6,6,6,6,6,6,6,6,6,6,6,6,6,6,6,6,6,6,6,6,6,6,6,6,6,6,6,6,6,6,6,6,7,7,7,7,7,7,7,7,7,7,7,7,7,7,7,7,7,7,7,7,7,7,7,7,7,7,7,7,7,7,7,7,7,7,7,7,7,7,7,7,7,7,7,7,7,7,7,7,7,7,7,7,7,7,7,7,7,7,7,7,7,7,7,7,8,8,8,8,8,8,8,8,8,8,8,8,8,8,8,8,8,8,8,8,8,8,8,8,8,8,8,8,8,8,8,8,8,8,8,8,8,8,8,8,8,8,8,8,8,8,8,8,8,8,8,8,8,8,8,8,8,8,8,8,8,8,8,8,8,8,8,8,8,8,8,8,8,8,8,8,8,8,8,8,8,8,8,8,8,8,8,8,8,8,8,8,8,8,8,8,8,8,8,8,8,8,8,8,8,8,8,8,8,8,8,8,8,8,8,8,8,8,8,8,8,8,8,8,8,8,8,8]⟩:ByteArray):Int))) then some (IntKind.wrap .i64 ((IntKind.wrap .i64 ((0:Int)+8))+(IntKind.wrap .i64 (bt (⟨#[0,1,2,2,3,3,3,3,4,4,4,4,4,4,4,4,5,5,5,5,5,5,5,5,5,5,5,5,5,5,5,5,6,6,6,6,6,6,6,6,6,6,6,6,6,6,6,6,6,6,6,6,6,6,6,6,6,6,6,6,6,6,6,6,7,7,7,7,7,7,7,7,7,7,7,7,7,7,7,7,7,7,7,7,7,7,7,7,7,7,7,7,7,7,7,7,7,7,7,7,7,7,7,7,7,7,7,7,7,7,7,7,7,7,7,7,7,7,7,7,7,7,7,7,7,7,7,7,8,8,8,8,8,8,8,8,8,8,8,8,8,8,8,8,8,8,8,8,8,8,8,8,8,8,8,8,8,8,8,8,8,8,8,8,8,8,8,8,8,8,8,8,8,8,8,8,8,8,8,8,8,8,8,8,8,8,8,8,8,8,8,8,8,8,8,8,8,8,8,8,8,8,8,8,8,8,8,8,8,8,8,8,8,8,8,8,8,8,8,8,8,8,8,8,8,8,8,8,8,8,8,8,8,8,8,8,8,8,8,8,8,8,8,8,8,8,8,8,8,8,8,8,8,8,8,8]⟩:ByteArray) (IntKind.wrap .u8 (Int.fdiv a0 (2^(min (Int.toNat 8) (IntKind.bits .u64))))))))) else none) else (bif (decide (0≤(IntKind.wrap .u8 a0))&&decide ((IntKind.wrap .u8 a0) < (ByteArray.size (⟨#[0,1,2,2,3,3,3,3,4,4,4,4,4,4,4,4,5,5,5,5,5,5,5,5,5,5,5,5,5,5,5,5,6,6,6,6,6,6,6,6,6,6,6,6,6,6,6,6,6,6,6,6,6,6,6,6,6,6,6,6,6,6,6,6,7,7,7,7,7,7,7,7,7,7,7,7,7,7,7,7,7,7,7,7,7,7,7,7,7,7,7,7,7,7,7,7,7,7,7,7,7,7,7,7,7,7,7,7,7,7,7,7,7,7,7,7,7,7,7,7,7,7,7,7,7,7,7,7,8,8,8,8,8,8,8,8,8,8,8,8,8,8,8,8,8,8,8,8,8,8,8,8,8,8,8,8,8,8,8,8,8,8,8,8,8,8,8,8,8,8,8,8,8,8,8,8,8,8,8,8,8,8,8,8,8,8,8,8,8,8,8,8,8,8,8,8,8,8,8,8,8,8,8,8,8,8,8,8,8,8,8,8,8,8,8,8,8,8,8,8,8,8,8,8,8,8,8,8,8,8,8,8,8,8,8,8,8,8,8,8,8,8,8,8,8,8,8,8,8,8,8,8,8,8,8,8]⟩:ByteArray):Int))) then some (IntKind.wrap .i64 ((0:Int)+(IntKind.wrap .i64 (bt (⟨#[0,1,2,2,3,3,3,3,4,4,4,4,4,4,4,4,5,5,5,5,5,5,5,5,5,5,5,5,5,5,5,5,6,6,6,6,6,6,6,6,6,6,6,6,6,6,6,6,6,6,6,6,6,6,6,6,6,6,6,6,6,6,6,6,7,7,7,7,7,7,7,7,7,7,7,7,7,7,7,7,7,7,7,7,7,7,7,7,7,7,7,7,7,7,7,7,7,7,7,7,7,7,7,7,7,7,7,7,7,7,7,7,7,7,7,7,7,7,7,7,7,7,7,7,7,7,7,7,8,8,8,8,8,8,8,8,8,8,8,8,8,8,8,8,8,8,8,8,8,8,8,8,8,8,8,8,8,8,8,8,8,8,8,8,8,8,8,8,8,8,8,8,8,8,8,8,8,8,8,8,8,8,8,8,8,8,8,8,8,8,8,8,8,8,8,8,8,8,8,8,8,8,8,8,8,8,8,8,8,8,8,8,8,8,8,8,8,8,8,8,8,8,8,8,8,8,8,8,8,8,8,8,8,8,8,8,8,8,8,8,8,8,8,8,8,8,8,8,8,8,8,8,8,8,8,8]⟩:ByteArray) (IntKind.wrap .u8 a0))))) else none))))
def G427_E:CEnt:=pureE 427 [.dat (.int .u64)] (.dat (.int .i64)) fun x=>G427 x.1
theorem G427_LV:LV 0 Tryz.prog false (loopsOf (bodyOf Tryz.f427)) []:=by unfold LV; cases loopsOf (bodyOf Tryz.f427)<;>trivial
theorem G427_ent:Ent Tryz.prog 427:=⟨by decide,enters_of Tryz.func427 (by kernel_rfl) rfl⟩
theorem G427_hev:∀ x,fnR Tryz.prog G427_C [] Tryz.f427 (bodyOf Tryz.f427) (encs [.dat (.int .u64)] x) ⟨[],[],0⟩ (frzF (.dat (.int .i64)))=G427 x.1:=by
  intro x; kernel_rfl
theorem G427_valid:G427_E.Valid Tryz.prog:=
  pureE_valid (by kernel_rfl) (by kernel_rfl) G427_ent (frz_lcall mixed Tryz.func427 rfl G427_ent G427_CV G427_LV (by kernel_rfl) (by kernel_rfl) G427_hev)
def G417_C:CalT:=tabC [G427_E]
theorem G417_CV:CV Tryz.prog G417_C:=tabC_valid (l:=_) ⟨G427_valid,trivial⟩
def G417 (a0:Int):Option Int:=(Option.bind (G427 a0) fun r1=>some r1)
def G417_E:CEnt:=pureE 417 [.dat (.int .u64)] (.dat (.int .i64)) fun x=>G417 x.1
theorem G417_LV:LV 0 Tryz.prog false (loopsOf (bodyOf Tryz.f417)) []:=by unfold LV; cases loopsOf (bodyOf Tryz.f417)<;>trivial
theorem G417_ent:Ent Tryz.prog 417:=⟨by decide,enters_of Tryz.func417 (by kernel_rfl) rfl⟩
theorem G417_hev:∀ x,fnR Tryz.prog G417_C [] Tryz.f417 (bodyOf Tryz.f417) (encs [.dat (.int .u64)] x) ⟨[],[],0⟩ (frzF (.dat (.int .i64)))=G417 x.1:=by
  intro x; kernel_rfl
theorem G417_valid:G417_E.Valid Tryz.prog:=
  pureE_valid (by kernel_rfl) (by kernel_rfl) G417_ent (frz_lcall mixed Tryz.func417 rfl G417_ent G417_CV G417_LV (by kernel_rfl) (by kernel_rfl) G417_hev)
def G415_C:CalT:=tabC [G250_E]
theorem G415_CV:CV Tryz.prog G415_C:=tabC_valid (l:=_) ⟨G250_valid,trivial⟩
def G415 (a0:Int) (a1:Int):Option Int:=(Option.bind (G250 a1 a0) fun r1=>some r1)
def G415_E:CEnt:=pureE 415 [.dat (.int .i64),.dat (.int .i64)] (.dat (.int .i64)) fun x=>G415 x.1 x.2.1
theorem G415_LV:LV 0 Tryz.prog false (loopsOf (bodyOf Tryz.f415)) []:=by unfold LV; cases loopsOf (bodyOf Tryz.f415)<;>trivial
theorem G415_ent:Ent Tryz.prog 415:=⟨by decide,enters_of Tryz.func415 (by kernel_rfl) rfl⟩
theorem G415_hev:∀ x,fnR Tryz.prog G415_C [] Tryz.f415 (bodyOf Tryz.f415) (encs [.dat (.int .i64),.dat (.int .i64)] x) ⟨[],[],0⟩ (frzF (.dat (.int .i64)))=G415 x.1 x.2.1:=by
  intro x; kernel_rfl
theorem G415_valid:G415_E.Valid Tryz.prog:=
  pureE_valid (by kernel_rfl) (by kernel_rfl) G415_ent (frz_lcall mixed Tryz.func415 rfl G415_ent G415_CV G415_LV (by kernel_rfl) (by kernel_rfl) G415_hev)
def G344_C:CalT:=tabC []
theorem G344_CV:CV Tryz.prog G344_C:=tabC_valid (l:=_) trivial
def G344 (a0:Int) (a1:Int) (a2:Int):Option Bool:=(bif (decide (a0≥a1)) then some (decide (a0≤a2)) else some false)
def G344_E:CEnt:=pureE 344 [.dat (.int .i64),.dat (.int .i64),.dat (.int .i64)] (.dat .bool) fun x=>G344 x.1 x.2.1 x.2.2.1
theorem G344_LV:LV 0 Tryz.prog false (loopsOf (bodyOf Tryz.f344)) []:=by unfold LV; cases loopsOf (bodyOf Tryz.f344)<;>trivial
theorem G344_ent:Ent Tryz.prog 344:=⟨by decide,enters_of Tryz.func344 (by kernel_rfl) rfl⟩
theorem G344_hev:∀ x,fnR Tryz.prog G344_C [] Tryz.f344 (bodyOf Tryz.f344) (encs [.dat (.int .i64),.dat (.int .i64),.dat (.int .i64)] x) ⟨[],[],0⟩ (frzF (.dat .bool))=G344 x.1 x.2.1 x.2.2.1:=by
  intro x; kernel_rfl
theorem G344_valid:G344_E.Valid Tryz.prog:=
  pureE_valid (by kernel_rfl) (by kernel_rfl) G344_ent (frz_lcall mixed Tryz.func344 rfl G344_ent G344_CV G344_LV (by kernel_rfl) (by kernel_rfl) G344_hev)
def G390_C:CalT:=tabC [G344_E]
theorem G390_CV:CV Tryz.prog G390_C:=tabC_valid (l:=_) ⟨G344_valid,trivial⟩
def G390 (a0:E89):Option Bool:=(Option.bind (G344 a0.1 1 4) fun r1=>(bif r1 then (Option.bind (G344 a0.2.2.1 1 4) fun r2=>(bif r2 then (Option.bind (G344 a0.2.1 1 99) fun r3=>some r3) else some false)) else some false))
def G390_E:CEnt:=pureE 390 [.dat T89] (.dat .bool) fun x=>G390 x.1
theorem G390_LV:LV 0 Tryz.prog false (loopsOf (bodyOf Tryz.f390)) []:=by unfold LV; cases loopsOf (bodyOf Tryz.f390)<;>trivial
theorem G390_ent:Ent Tryz.prog 390:=⟨by decide,enters_of Tryz.func390 (by kernel_rfl) rfl⟩
theorem G390_hev:∀ x,fnR Tryz.prog G390_C [] Tryz.f390 (bodyOf Tryz.f390) (encs [.dat T89] x) ⟨[],[],0⟩ (frzF (.dat .bool))=G390 x.1:=by
  intro x; kernel_rfl
theorem G390_valid:G390_E.Valid Tryz.prog:=
  pureE_valid (by kernel_rfl) (by kernel_rfl) G390_ent (frz_lcall mixed Tryz.func390 rfl G390_ent G390_CV G390_LV (by kernel_rfl) (by kernel_rfl) G390_hev)
def G233_C:CalT:=tabC [G344_E]
theorem G233_CV:CV Tryz.prog G233_C:=tabC_valid (l:=_) ⟨G344_valid,trivial⟩
def G233 (a0:Int):Option Bool:=(Option.bind (G344 a0 0 2) fun r1=>some r1)
def G233_E:CEnt:=pureE 233 [.dat (.int .i64)] (.dat .bool) fun x=>G233 x.1
theorem G233_LV:LV 0 Tryz.prog false (loopsOf (bodyOf Tryz.f233)) []:=by unfold LV; cases loopsOf (bodyOf Tryz.f233)<;>trivial
theorem G233_ent:Ent Tryz.prog 233:=⟨by decide,enters_of Tryz.func233 (by kernel_rfl) rfl⟩
theorem G233_hev:∀ x,fnR Tryz.prog G233_C [] Tryz.f233 (bodyOf Tryz.f233) (encs [.dat (.int .i64)] x) ⟨[],[],0⟩ (frzF (.dat .bool))=G233 x.1:=by
  intro x; kernel_rfl
theorem G233_valid:G233_E.Valid Tryz.prog:=
  pureE_valid (by kernel_rfl) (by kernel_rfl) G233_ent (frz_lcall mixed Tryz.func233 rfl G233_ent G233_CV G233_LV (by kernel_rfl) (by kernel_rfl) G233_hev)
def G177_C:CalT:=tabC []
theorem G177_CV:CV Tryz.prog G177_C:=tabC_valid (l:=_) trivial
def G177 (a0:Int) (a1:Int) (a2:Int):Option Bool:=(bif (decide (a0≥a1)) then some (decide (a0≤a2)) else some false)
def G177_E:CEnt:=pureE 177 [.dat (.int .i64),.dat (.int .i64),.dat (.int .i64)] (.dat .bool) fun x=>G177 x.1 x.2.1 x.2.2.1
theorem G177_LV:LV 0 Tryz.prog false (loopsOf (bodyOf Tryz.f177)) []:=by unfold LV; cases loopsOf (bodyOf Tryz.f177)<;>trivial
theorem G177_ent:Ent Tryz.prog 177:=⟨by decide,enters_of Tryz.func177 (by kernel_rfl) rfl⟩
theorem G177_hev:∀ x,fnR Tryz.prog G177_C [] Tryz.f177 (bodyOf Tryz.f177) (encs [.dat (.int .i64),.dat (.int .i64),.dat (.int .i64)] x) ⟨[],[],0⟩ (frzF (.dat .bool))=G177 x.1 x.2.1 x.2.2.1:=by
  intro x; kernel_rfl
theorem G177_valid:G177_E.Valid Tryz.prog:=
  pureE_valid (by kernel_rfl) (by kernel_rfl) G177_ent (frz_lcall mixed Tryz.func177 rfl G177_ent G177_CV G177_LV (by kernel_rfl) (by kernel_rfl) G177_hev)
def G64_C:CalT:=tabC [G177_E]
theorem G64_CV:CV Tryz.prog G64_C:=tabC_valid (l:=_) ⟨G177_valid,trivial⟩
def G64 (a0:Int):Option Bool:=(Option.bind (G177 a0 0 2000000) fun r1=>some r1)
def G64_E:CEnt:=pureE 64 [.dat (.int .i64)] (.dat .bool) fun x=>G64 x.1
theorem G64_LV:LV 0 Tryz.prog false (loopsOf (bodyOf Tryz.f64)) []:=by unfold LV; cases loopsOf (bodyOf Tryz.f64)<;>trivial
theorem G64_ent:Ent Tryz.prog 64:=⟨by decide,enters_of Tryz.func64 (by kernel_rfl) rfl⟩
theorem G64_hev:∀ x,fnR Tryz.prog G64_C [] Tryz.f64 (bodyOf Tryz.f64) (encs [.dat (.int .i64)] x) ⟨[],[],0⟩ (frzF (.dat .bool))=G64 x.1:=by
  intro x; kernel_rfl
theorem G64_valid:G64_E.Valid Tryz.prog:=
  pureE_valid (by kernel_rfl) (by kernel_rfl) G64_ent (frz_lcall mixed Tryz.func64 rfl G64_ent G64_CV G64_LV (by kernel_rfl) (by kernel_rfl) G64_hev)
def G176_C:CalT:=tabC []
theorem G176_CV:CV Tryz.prog G176_C:=tabC_valid (l:=_) trivial
def G176 (a0:E23) (a1:Int) (a2:Int):Option Bool:=(bif (decide (a0.1≥a1)) then (bif (decide (a0.1≤a0.2.1)) then some (decide (a0.2.1≤a2)) else some false) else some false)
def G176_E:CEnt:=pureE 176 [.dat T23,.dat (.int .i64),.dat (.int .i64)] (.dat .bool) fun x=>G176 x.1 x.2.1 x.2.2.1
theorem G176_LV:LV 0 Tryz.prog false (loopsOf (bodyOf Tryz.f176)) []:=by unfold LV; cases loopsOf (bodyOf Tryz.f176)<;>trivial
theorem G176_ent:Ent Tryz.prog 176:=⟨by decide,enters_of Tryz.func176 (by kernel_rfl) rfl⟩
theorem G176_hev:∀ x,fnR Tryz.prog G176_C [] Tryz.f176 (bodyOf Tryz.f176) (encs [.dat T23,.dat (.int .i64),.dat (.int .i64)] x) ⟨[],[],0⟩ (frzF (.dat .bool))=G176 x.1 x.2.1 x.2.2.1:=by
  intro x; kernel_rfl
theorem G176_valid:G176_E.Valid Tryz.prog:=
  pureE_valid (by kernel_rfl) (by kernel_rfl) G176_ent (frz_lcall mixed Tryz.func176 rfl G176_ent G176_CV G176_LV (by kernel_rfl) (by kernel_rfl) G176_hev)
end Go.Proofs.YtkeipcalbbmncaaGreat.Abs
set_option linter.unusedVariables false
set_option maxRecDepth 100000
namespace Go.Proofs.YtkeipcalbbmncaaGreat.Abs
open Go.Shelf
def G279_C:CalT:=tabC [G177_E,G176_E]
theorem G279_CV:CV Tryz.prog G279_C:=tabC_valid (l:=_) ⟨G177_valid,G176_valid,trivial⟩
def G279 (a0:E178):Option Bool:=(Option.bind (G177 a0.1 1 20000) fun r1=>(bif (!r1) then some true else (Option.bind (G176 a0.2.1 1 1000) fun r2=>some (!r2))))
def G279_E:CEnt:=pureE 279 [.dat T178] (.dat .bool) fun x=>G279 x.1
theorem G279_LV:LV 0 Tryz.prog false (loopsOf (bodyOf Tryz.f279)) []:=by unfold LV; cases loopsOf (bodyOf Tryz.f279)<;>trivial
theorem G279_ent:Ent Tryz.prog 279:=⟨by decide,enters_of Tryz.func279 (by kernel_rfl) rfl⟩
theorem G279_hev:∀ x,fnR Tryz.prog G279_C [] Tryz.f279 (bodyOf Tryz.f279) (encs [.dat T178] x) ⟨[],[],0⟩ (frzF (.dat .bool))=G279 x.1:=by
  intro x; kernel_rfl
theorem G279_valid:G279_E.Valid Tryz.prog:=
  pureE_valid (by kernel_rfl) (by kernel_rfl) G279_ent (frz_lcall mixed Tryz.func279 rfl G279_ent G279_CV G279_LV (by kernel_rfl) (by kernel_rfl) G279_hev)
def G367_C:CalT:=tabC [G279_E]
theorem G367_CV:CV Tryz.prog G367_C:=tabC_valid (l:=_) ⟨G279_valid,trivial⟩
def G367_l0_c:Code:=loopAt (bodyOf Tryz.f367) 0
def G367_l0_S:SPat:=⟨[.dat (.list T178),.fix (.func (.func 279) .nil .nil),.any,.any,.dat (.int .i64),.any,.any,.dat (.int .i64),.dat (.int .i64),.any,.any,.any,.any,.any,.any,.any,.any,.any,.any],[],0⟩
def G367_l0_step (s:(((List E178)×(Int×(Int×(Int×Unit))))×Unit)):Option (Nat×(((List E178)×(Int×(Int×(Int×Unit))))×Unit)):=(bif (decide (s.1.2.2.2.1 < s.1.2.2.1)) then (bif (decide (0≤s.1.2.2.2.1)&&decide (s.1.2.2.2.1 < (List.length s.1.1:Int))) then (Option.bind (G279 (List.getD s.1.1 (Int.toNat s.1.2.2.2.1) (0,((0,(0,())),())))) fun r1=>(bif r1 then some (1,((s.1.1,(s.1.2.2.2.1,(s.1.2.2.1,(s.1.2.2.2.1,())))),())) else some (0,((s.1.1,(s.1.2.1,(s.1.2.2.1,((IntKind.wrap .i64 (s.1.2.2.2.1+1)),())))),())))) else none) else some (2,((s.1.1,(s.1.2.1,(s.1.2.2.1,(s.1.2.2.2.1,())))),())))
def G367_l0_fuel (s:(((List E178)×(Int×(Int×(Int×Unit))))×Unit)):Nat:=Int.toNat (s.1.2.2.1 - s.1.2.2.2.1)+1
def G367_l0_run (s:(((List E178)×(Int×(Int×(Int×Unit))))×Unit)):Option (Nat×(((List E178)×(Int×(Int×(Int×Unit))))×Unit)):=iter G367_l0_step (G367_l0_fuel s) s
def G367_l0_L:LoopT:=loopT G367_l0_S [.ret,.exit 0] G367_l0_run
def G367 (a0:(List E178)):Option Int:=(Option.bind (G367_l0_run ((a0,(0,((List.length a0:Int),(0,())))),())) fun q2=>(natK q2.1 (some q2.2.1.2.1) (fun _=>some (-1))))
def G367_E:CEnt:=pureE 367 [.dat (.list T178),.fix (.func (.func 279) .nil .nil)] (.dat (.int .i64)) fun x=>G367 x.1
theorem G367_l0_V:LValid 0 Tryz.prog (.loop G367_l0_c) G367_l0_L false:=by
  exact loopT_valid (fuel:=G367_l0_fuel) mixed G367_CV (lvNil _) (by kernel_rfl) (by decide) rfl (by intro s; kernel_rfl) (fun s r h=>h)
theorem G367_LV:LV 0 Tryz.prog false (loopsOf (bodyOf Tryz.f367)) [G367_l0_L]:=by
  have hl:loopsOf (bodyOf Tryz.f367)=[.loop G367_l0_c]:=by kernel_rfl
  rw [hl]; exact ⟨G367_l0_V,trivial⟩
theorem G367_ent:Ent Tryz.prog 367:=⟨by decide,enters_of Tryz.func367 (by kernel_rfl) rfl⟩
theorem G367_hev:∀ x,fnR Tryz.prog G367_C [G367_l0_L] Tryz.f367 (bodyOf Tryz.f367) (encs [.dat (.list T178),.fix (.func (.func 279) .nil .nil)] x) ⟨[],[],0⟩ (frzF (.dat (.int .i64)))=G367 x.1:=by
  intro x; kernel_rfl
theorem G367_valid:G367_E.Valid Tryz.prog:=
  pureE_valid (by kernel_rfl) (by kernel_rfl) G367_ent (frz_lcall mixed Tryz.func367 rfl G367_ent G367_CV G367_LV (by kernel_rfl) (by kernel_rfl) G367_hev)
def G278_C:CalT:=tabC [G367_E]
theorem G278_CV:CV Tryz.prog G278_C:=tabC_valid (l:=_) ⟨G367_valid,trivial⟩
def G278 (a0:(List E178)):Option Bool:=(Option.bind (G367 a0) fun r1=>some (decide (r1≥0)))
def G278_E:CEnt:=pureE 278 [.dat (.list T178),.fix (.func (.func 279) .nil .nil)] (.dat .bool) fun x=>G278 x.1
theorem G278_LV:LV 0 Tryz.prog false (loopsOf (bodyOf Tryz.f278)) []:=by unfold LV; cases loopsOf (bodyOf Tryz.f278)<;>trivial
theorem G278_ent:Ent Tryz.prog 278:=⟨by decide,enters_of Tryz.func278 (by kernel_rfl) rfl⟩
theorem G278_hev:∀ x,fnR Tryz.prog G278_C [] Tryz.f278 (bodyOf Tryz.f278) (encs [.dat (.list T178),.fix (.func (.func 279) .nil .nil)] x) ⟨[],[],0⟩ (frzF (.dat .bool))=G278 x.1:=by
  intro x; kernel_rfl
theorem G278_valid:G278_E.Valid Tryz.prog:=
  pureE_valid (by kernel_rfl) (by kernel_rfl) G278_ent (frz_lcall mixed Tryz.func278 rfl G278_ent G278_CV G278_LV (by kernel_rfl) (by kernel_rfl) G278_hev)
def G173_C:CalT:=tabC [G177_E,G176_E,G278_E]
theorem G173_CV:CV Tryz.prog G173_C:=tabC_valid (l:=_) ⟨G177_valid,G176_valid,G278_valid,trivial⟩
def G173 (a0:E25):Option Bool:=(Option.bind (G177 (List.length a0.1:Int) 1 6) fun r1=>(bif r1 then (Option.bind (G176 a0.2.1 0 1000000) fun r2=>(bif r2 then (Option.bind (G278 a0.1) fun r3=>some (!r3)) else some false)) else some false))
def G173_E:CEnt:=pureE 173 [.dat T25] (.dat .bool) fun x=>G173 x.1
theorem G173_LV:LV 0 Tryz.prog false (loopsOf (bodyOf Tryz.f173)) []:=by unfold LV; cases loopsOf (bodyOf Tryz.f173)<;>trivial
theorem G173_ent:Ent Tryz.prog 173:=⟨by decide,enters_of Tryz.func173 (by kernel_rfl) rfl⟩
theorem G173_hev:∀ x,fnR Tryz.prog G173_C [] Tryz.f173 (bodyOf Tryz.f173) (encs [.dat T25] x) ⟨[],[],0⟩ (frzF (.dat .bool))=G173 x.1:=by
  intro x; kernel_rfl
theorem G173_valid:G173_E.Valid Tryz.prog:=
  pureE_valid (by kernel_rfl) (by kernel_rfl) G173_ent (frz_lcall mixed Tryz.func173 rfl G173_ent G173_CV G173_LV (by kernel_rfl) (by kernel_rfl) G173_hev)
def G175_C:CalT:=tabC [G176_E]
theorem G175_CV:CV Tryz.prog G175_C:=tabC_valid (l:=_) ⟨G176_valid,trivial⟩
def G175 (a0:E73):Option Bool:=(Option.bind (G176 a0.1 0 1000000) fun r1=>(bif (!r1) then some true else (Option.bind (G176 a0.2.1 0 1000000) fun r2=>(bif (!r2) then some true else (Option.bind (G176 a0.2.2.1 0 1000) fun r3=>some (!r3))))))
def G175_E:CEnt:=pureE 175 [.dat T73] (.dat .bool) fun x=>G175 x.1
theorem G175_LV:LV 0 Tryz.prog false (loopsOf (bodyOf Tryz.f175)) []:=by unfold LV; cases loopsOf (bodyOf Tryz.f175)<;>trivial
theorem G175_ent:Ent Tryz.prog 175:=⟨by decide,enters_of Tryz.func175 (by kernel_rfl) rfl⟩
theorem G175_hev:∀ x,fnR Tryz.prog G175_C [] Tryz.f175 (bodyOf Tryz.f175) (encs [.dat T73] x) ⟨[],[],0⟩ (frzF (.dat .bool))=G175 x.1:=by
  intro x; kernel_rfl
theorem G175_valid:G175_E.Valid Tryz.prog:=
  pureE_valid (by kernel_rfl) (by kernel_rfl) G175_ent (frz_lcall mixed Tryz.func175 rfl G175_ent G175_CV G175_LV (by kernel_rfl) (by kernel_rfl) G175_hev)
def G280_C:CalT:=tabC [G175_E]
theorem G280_CV:CV Tryz.prog G280_C:=tabC_valid (l:=_) ⟨G175_valid,trivial⟩
def G280_l0_c:Code:=loopAt (bodyOf Tryz.f280) 0
def G280_l0_S:SPat:=⟨[.dat (.list T73),.fix (.func (.func 175) .nil .nil),.any,.any,.dat (.int .i64),.any,.any,.dat (.int .i64),.dat (.int .i64),.any,.any,.any,.any,.any,.any,.any,.any,.any,.any],[],0⟩
def G280_l0_step (s:(((List E73)×(Int×(Int×(Int×Unit))))×Unit)):Option (Nat×(((List E73)×(Int×(Int×(Int×Unit))))×Unit)):=(bif (decide (s.1.2.2.2.1 < s.1.2.2.1)) then (bif (decide (0≤s.1.2.2.2.1)&&decide (s.1.2.2.2.1 < (List.length s.1.1:Int))) then (Option.bind (G175 (List.getD s.1.1 (Int.toNat s.1.2.2.2.1) ((0,(0,())),((0,(0,())),((0,(0,())),()))))) fun r1=>(bif r1 then some (1,((s.1.1,(s.1.2.2.2.1,(s.1.2.2.1,(s.1.2.2.2.1,())))),())) else some (0,((s.1.1,(s.1.2.1,(s.1.2.2.1,((IntKind.wrap .i64 (s.1.2.2.2.1+1)),())))),())))) else none) else some (2,((s.1.1,(s.1.2.1,(s.1.2.2.1,(s.1.2.2.2.1,())))),())))
def G280_l0_fuel (s:(((List E73)×(Int×(Int×(Int×Unit))))×Unit)):Nat:=Int.toNat (s.1.2.2.1 - s.1.2.2.2.1)+1
def G280_l0_run (s:(((List E73)×(Int×(Int×(Int×Unit))))×Unit)):Option (Nat×(((List E73)×(Int×(Int×(Int×Unit))))×Unit)):=iter G280_l0_step (G280_l0_fuel s) s
def G280_l0_L:LoopT:=loopT G280_l0_S [.ret,.exit 0] G280_l0_run
def G280 (a0:(List E73)):Option Int:=(Option.bind (G280_l0_run ((a0,(0,((List.length a0:Int),(0,())))),())) fun q2=>(natK q2.1 (some q2.2.1.2.1) (fun _=>some (-1))))
def G280_E:CEnt:=pureE 280 [.dat (.list T73),.fix (.func (.func 175) .nil .nil)] (.dat (.int .i64)) fun x=>G280 x.1
theorem G280_l0_V:LValid 0 Tryz.prog (.loop G280_l0_c) G280_l0_L false:=by
  exact loopT_valid (fuel:=G280_l0_fuel) mixed G280_CV (lvNil _) (by kernel_rfl) (by decide) rfl (by intro s; kernel_rfl) (fun s r h=>h)
theorem G280_LV:LV 0 Tryz.prog false (loopsOf (bodyOf Tryz.f280)) [G280_l0_L]:=by
  have hl:loopsOf (bodyOf Tryz.f280)=[.loop G280_l0_c]:=by kernel_rfl
  rw [hl]; exact ⟨G280_l0_V,trivial⟩
theorem G280_ent:Ent Tryz.prog 280:=⟨by decide,enters_of Tryz.func280 (by kernel_rfl) rfl⟩
theorem G280_hev:∀ x,fnR Tryz.prog G280_C [G280_l0_L] Tryz.f280 (bodyOf Tryz.f280) (encs [.dat (.list T73),.fix (.func (.func 175) .nil .nil)] x) ⟨[],[],0⟩ (frzF (.dat (.int .i64)))=G280 x.1:=by
  intro x; kernel_rfl
theorem G280_valid:G280_E.Valid Tryz.prog:=
  pureE_valid (by kernel_rfl) (by kernel_rfl) G280_ent (frz_lcall mixed Tryz.func280 rfl G280_ent G280_CV G280_LV (by kernel_rfl) (by kernel_rfl) G280_hev)
def G174_C:CalT:=tabC [G280_E]
theorem G174_CV:CV Tryz.prog G174_C:=tabC_valid (l:=_) ⟨G280_valid,trivial⟩
def G174 (a0:(List E73)):Option Bool:=(Option.bind (G280 a0) fun r1=>some (decide (r1≥0)))
def G174_E:CEnt:=pureE 174 [.dat (.list T73),.fix (.func (.func 175) .nil .nil)] (.dat .bool) fun x=>G174 x.1
theorem G174_LV:LV 0 Tryz.prog false (loopsOf (bodyOf Tryz.f174)) []:=by unfold LV; cases loopsOf (bodyOf Tryz.f174)<;>trivial
theorem G174_ent:Ent Tryz.prog 174:=⟨by decide,enters_of Tryz.func174 (by kernel_rfl) rfl⟩
theorem G174_hev:∀ x,fnR Tryz.prog G174_C [] Tryz.f174 (bodyOf Tryz.f174) (encs [.dat (.list T73),.fix (.func (.func 175) .nil .nil)] x) ⟨[],[],0⟩ (frzF (.dat .bool))=G174 x.1:=by
  intro x; kernel_rfl
theorem G174_valid:G174_E.Valid Tryz.prog:=
  pureE_valid (by kernel_rfl) (by kernel_rfl) G174_ent (frz_lcall mixed Tryz.func174 rfl G174_ent G174_CV G174_LV (by kernel_rfl) (by kernel_rfl) G174_hev)
def G63_C:CalT:=tabC [G173_E,G174_E]
theorem G63_CV:CV Tryz.prog G63_C:=tabC_valid (l:=_) ⟨G173_valid,G174_valid,trivial⟩
def G63 (a0:E25) (a1:(List E73)) (a2:Bool):Option Int:=(bif (decide ((List.length a1:Int) > 12)) then some 3 else (bif (!a2) then some 2 else (Option.bind (G173 a0) fun r1=>(bif (!r1) then some 2 else (Option.bind (G174 a1) fun r2=>(bif r2 then some 2 else some 0))))))
def G63_E:CEnt:=pureE 63 [.dat T25,.dat (.list T73),.dat .bool] (.dat (.int .i64)) fun x=>G63 x.1 x.2.1 x.2.2.1
theorem G63_LV:LV 0 Tryz.prog false (loopsOf (bodyOf Tryz.f63)) []:=by unfold LV; cases loopsOf (bodyOf Tryz.f63)<;>trivial
theorem G63_ent:Ent Tryz.prog 63:=⟨by decide,enters_of Tryz.func63 (by kernel_rfl) rfl⟩
theorem G63_hev:∀ x,fnR Tryz.prog G63_C [] Tryz.f63 (bodyOf Tryz.f63) (encs [.dat T25,.dat (.list T73),.dat .bool] x) ⟨[],[],0⟩ (frzF (.dat (.int .i64)))=G63 x.1 x.2.1 x.2.2.1:=by
  intro x; kernel_rfl
theorem G63_valid:G63_E.Valid Tryz.prog:=
  pureE_valid (by kernel_rfl) (by kernel_rfl) G63_ent (frz_lcall mixed Tryz.func63 rfl G63_ent G63_CV G63_LV (by kernel_rfl) (by kernel_rfl) G63_hev)
def G182_C:CalT:=tabC []
theorem G182_CV:CV Tryz.prog G182_C:=tabC_valid (l:=_) trivial
def G182 (a0:E23):Option Int:=some a0.1
def G182_E:CEnt:=pureE 182 [.dat T23] (.dat (.int .i64)) fun x=>G182 x.1
theorem G182_LV:LV 0 Tryz.prog false (loopsOf (bodyOf Tryz.f182)) []:=by unfold LV; cases loopsOf (bodyOf Tryz.f182)<;>trivial
theorem G182_ent:Ent Tryz.prog 182:=⟨by decide,enters_of Tryz.func182 (by kernel_rfl) rfl⟩
theorem G182_hev:∀ x,fnR Tryz.prog G182_C [] Tryz.f182 (bodyOf Tryz.f182) (encs [.dat T23] x) ⟨[],[],0⟩ (frzF (.dat (.int .i64)))=G182 x.1:=by
  intro x; kernel_rfl
theorem G182_valid:G182_E.Valid Tryz.prog:=
  pureE_valid (by kernel_rfl) (by kernel_rfl) G182_ent (frz_lcall mixed Tryz.func182 rfl G182_ent G182_CV G182_LV (by kernel_rfl) (by kernel_rfl) G182_hev)
def G282_C:CalT:=tabC [G182_E]
theorem G282_CV:CV Tryz.prog G282_C:=tabC_valid (l:=_) ⟨G182_valid,trivial⟩
def G282 (a0:E178):Option (Int×Unit):=(Option.bind (G182 a0.2.1) fun r1=>some (r1,()))
abbrev G282_CS:CSpec:=⟨[.dat T178,.fix (.bptr 0 [])],[.fix (.func (.func 182) .nil .nil)],0,[.fix (.func (.func 182) .nil .nil)],0,.dat (.int .i64)⟩
def G282_E:CEnt:=boxE 282 G282_CS fun x=>G282 x.1.1
theorem G282_LV:LV 1 Tryz.prog false (loopsOf (bodyOf Tryz.f282)) []:=by unfold LV; cases loopsOf (bodyOf Tryz.f282)<;>trivial
theorem G282_ent:Ent Tryz.prog 282:=⟨by decide,enters_of Tryz.func282 (by kernel_rfl) rfl⟩
theorem G282_hev:∀ x:G282_CS.In,fnR Tryz.prog G282_C [] Tryz.f282 (bodyOf Tryz.f282) (encs G282_CS.A x.1) ⟨encs G282_CS.I x.2,[],G282_CS.nt⟩ (finK G282_CS)=G282 x.1.1:=by
  intro x; kernel_rfl
theorem G282_valid:G282_E.Valid Tryz.prog:=
  boxE_valid (S:=G282_CS) (by kernel_rfl) (.inr G282_ent) (fn_lcall (S:=G282_CS) mixed Tryz.func282 rfl G282_ent G282_CV G282_LV (by kernel_rfl) (by kernel_rfl) G282_hev)
def G281_C:CalT:=tabC [G282_E]
theorem G281_CV:CV Tryz.prog G281_C:=tabC_valid (l:=_) ⟨G282_valid,trivial⟩
def G281_l0_c:Code:=loopAt (bodyOf Tryz.f281) 0
def G281_l0_S:SPat:=⟨[.any,.fix (.func (.func 282) .nil (.cons (.bptr 0 []) .nil)),.any,.any,.any,.own 0 (.int .i64),.any,.any,.dat (.list T178),.dat (.int .i64),.dat (.int .i64),.any,.any,.any,.any,.any,.any,.any,.any,.any,.any,.any],[.fix (.func (.func 182) .nil .nil)],1⟩
def G281_l0_step (s:(((List Int)×((List E178)×(Int×(Int×Unit))))×Unit)):Option (Nat×(((List Int)×((List E178)×(Int×(Int×Unit))))×Unit)):=(bif (decide (s.1.2.2.2.1 < s.1.2.2.1)) then (bif (decide (0≤s.1.2.2.2.1)&&decide (s.1.2.2.2.1 < (List.length s.1.2.1:Int))) then (Option.bind (G282 (List.getD s.1.2.1 (Int.toNat s.1.2.2.2.1) (0,((0,(0,())),())))) fun r1=>(bif (decide (List.length s.1.1+List.length [r1.1]≤LIM)) then some (0,(((s.1.1++[r1.1]),(s.1.2.1,(s.1.2.2.1,((IntKind.wrap .i64 (s.1.2.2.2.1+1)),())))),())) else none)) else none) else some (1,((s.1.1,(s.1.2.1,(s.1.2.2.1,(s.1.2.2.2.1,())))),())))
def G281_l0_fuel (s:(((List Int)×((List E178)×(Int×(Int×Unit))))×Unit)):Nat:=Int.toNat (s.1.2.2.1 - s.1.2.2.2.1)+1
def G281_l0_run (s:(((List Int)×((List E178)×(Int×(Int×Unit))))×Unit)):Option (Nat×(((List Int)×((List E178)×(Int×(Int×Unit))))×Unit)):=iter G281_l0_step (G281_l0_fuel s) s
def G281_l0_L:LoopT:=loopT G281_l0_S [.exit 0] G281_l0_run
def G281 (a0:(List E178)):Option ((List Int)×Unit):=(Option.bind (G281_l0_run (([],(a0,((List.length a0:Int),(0,())))),())) fun q2=>some (q2.2.1.1,()))
abbrev G281_CS:CSpec:=⟨[.dat (.list T178),.fix (.func (.func 282) .nil (.cons (.bptr 0 []) .nil))],[.fix (.func (.func 182) .nil .nil)],0,[.fix (.func (.func 182) .nil .nil)],0,.dat (.list (.int .i64))⟩
def G281_E:CEnt:=boxE 281 G281_CS fun x=>G281 x.1.1
theorem G281_l0_V:LValid 1 Tryz.prog (.loop G281_l0_c) G281_l0_L false:=by
  have hb:∀ s,codeR Tryz.prog G281_C G281_l0_c [] (G281_l0_S.encE s) (G281_l0_S.encB s) (kst G281_l0_S [.exit 0])=G281_l0_step s:=by
    intro s; kernel_rfl
  have hL:LV 1 Tryz.prog false (loopsOf G281_l0_c) []:=by unfold LV; cases loopsOf G281_l0_c<;>trivial
  exact loopT_valid (fuel:=G281_l0_fuel) mixed G281_CV hL (by kernel_rfl) (by decide) rfl hb (fun s r h=>h)
theorem G281_LV:LV 1 Tryz.prog false (loopsOf (bodyOf Tryz.f281)) [G281_l0_L]:=by
  have hl:loopsOf (bodyOf Tryz.f281)=[.loop G281_l0_c]:=by kernel_rfl
  rw [hl]; exact ⟨G281_l0_V,trivial⟩
theorem G281_ent:Ent Tryz.prog 281:=⟨by decide,enters_of Tryz.func281 (by kernel_rfl) rfl⟩
theorem G281_hev:∀ x:G281_CS.In,fnR Tryz.prog G281_C [G281_l0_L] Tryz.f281 (bodyOf Tryz.f281) (encs G281_CS.A x.1) ⟨encs G281_CS.I x.2,[],G281_CS.nt⟩ (finK G281_CS)=G281 x.1.1:=by
  intro x; kernel_rfl
theorem G281_valid:G281_E.Valid Tryz.prog:=
  boxE_valid (S:=G281_CS) (by kernel_rfl) (.inr G281_ent) (fn_lcall (S:=G281_CS) mixed Tryz.func281 rfl G281_ent G281_CV G281_LV (by kernel_rfl) (by kernel_rfl) G281_hev)
def G181_C:CalT:=tabC []
theorem G181_CV:CV Tryz.prog G181_C:=tabC_valid (l:=_) trivial
def G181 (a0:E23):Option Int:=some a0.2.1
def G181_E:CEnt:=pureE 181 [.dat T23] (.dat (.int .i64)) fun x=>G181 x.1
theorem G181_LV:LV 0 Tryz.prog false (loopsOf (bodyOf Tryz.f181)) []:=by unfold LV; cases loopsOf (bodyOf Tryz.f181)<;>trivial
theorem G181_ent:Ent Tryz.prog 181:=⟨by decide,enters_of Tryz.func181 (by kernel_rfl) rfl⟩
theorem G181_hev:∀ x,fnR Tryz.prog G181_C [] Tryz.f181 (bodyOf Tryz.f181) (encs [.dat T23] x) ⟨[],[],0⟩ (frzF (.dat (.int .i64)))=G181 x.1:=by
  intro x; kernel_rfl
theorem G181_valid:G181_E.Valid Tryz.prog:=
  pureE_valid (by kernel_rfl) (by kernel_rfl) G181_ent (frz_lcall mixed Tryz.func181 rfl G181_ent G181_CV G181_LV (by kernel_rfl) (by kernel_rfl) G181_hev)
def G284_C:CalT:=tabC [G181_E]
theorem G284_CV:CV Tryz.prog G284_C:=tabC_valid (l:=_) ⟨G181_valid,trivial⟩
def G284 (a0:E73) (b1:E25):Option (Int×(E25×Unit)):=(Option.bind (G181 b1.2.1) fun r1=>some (r1,(b1,())))
abbrev G284_CS:CSpec:=⟨[.dat T73,.fix (.bptr 0 []),.fix (.bptr 1 [])],[.fix (.func (.func 181) .nil .nil),.dat T25],0,[.fix (.func (.func 181) .nil .nil),.dat T25],0,.dat (.int .i64)⟩
def G284_E:CEnt:=boxE 284 G284_CS fun x=>G284 x.1.1 x.2.1
theorem G284_LV:LV 2 Tryz.prog false (loopsOf (bodyOf Tryz.f284)) []:=by unfold LV; cases loopsOf (bodyOf Tryz.f284)<;>trivial
theorem G284_ent:Ent Tryz.prog 284:=⟨by decide,enters_of Tryz.func284 (by kernel_rfl) rfl⟩
theorem G284_hev:∀ x:G284_CS.In,fnR Tryz.prog G284_C [] Tryz.f284 (bodyOf Tryz.f284) (encs G284_CS.A x.1) ⟨encs G284_CS.I x.2,[],G284_CS.nt⟩ (finK G284_CS)=G284 x.1.1 x.2.1:=by
  intro x; kernel_rfl
theorem G284_valid:G284_E.Valid Tryz.prog:=
  boxE_valid (S:=G284_CS) (by kernel_rfl) (.inr G284_ent) (fn_lcall (S:=G284_CS) mixed Tryz.func284 rfl G284_ent G284_CV G284_LV (by kernel_rfl) (by kernel_rfl) G284_hev)
def G283_C:CalT:=tabC [G284_E]
theorem G283_CV:CV Tryz.prog G283_C:=tabC_valid (l:=_) ⟨G284_valid,trivial⟩
def G283_l0_c:Code:=loopAt (bodyOf Tryz.f283) 0
def G283_l0_S:SPat:=⟨[.any,.fix (.func (.func 284) .nil (.cons (.bptr 0 []) (.cons (.bptr 1 []) .nil))),.any,.any,.any,.own 0 (.int .i64),.any,.any,.dat (.list T73),.dat (.int .i64),.dat (.int .i64),.any,.any,.any,.any,.any,.any,.any,.any,.any,.any,.any],[.fix (.func (.func 181) .nil .nil),.dat T25],1⟩
abbrev TY4:Type:=(Nat×(((List Int)×((List E73)×(Int×(Int×Unit))))×(E25×Unit)))
def G283_l0_step (s:(((List Int)×((List E73)×(Int×(Int×Unit))))×(E25×Unit))):Option TY4:=(bif (decide (s.1.2.2.2.1 < s.1.2.2.1)) then (bif (decide (0≤s.1.2.2.2.1)&&decide (s.1.2.2.2.1 < (List.length s.1.2.1:Int))) then (Option.bind (G284 (List.getD s.1.2.1 (Int.toNat s.1.2.2.2.1) ((0,(0,())),((0,(0,())),((0,(0,())),())))) s.2.1) fun r1=>(bif (decide (List.length s.1.1+List.length [r1.1]≤LIM)) then some (0,(((s.1.1++[r1.1]),(s.1.2.1,(s.1.2.2.1,((IntKind.wrap .i64 (s.1.2.2.2.1+1)),())))),(r1.2.1,()))) else none)) else none) else some (1,((s.1.1,(s.1.2.1,(s.1.2.2.1,(s.1.2.2.2.1,())))),(s.2.1,()))))
def G283_l0_fuel (s:(((List Int)×((List E73)×(Int×(Int×Unit))))×(E25×Unit))):Nat:=Int.toNat (s.1.2.2.1 - s.1.2.2.2.1)+1
def G283_l0_run (s:(((List Int)×((List E73)×(Int×(Int×Unit))))×(E25×Unit))):Option TY4:=iter G283_l0_step (G283_l0_fuel s) s
def G283_l0_L:LoopT:=loopT G283_l0_S [.exit 0] G283_l0_run
def G283 (a0:(List E73)) (b1:E25):Option ((List Int)×(E25×Unit)):=(Option.bind (G283_l0_run (([],(a0,((List.length a0:Int),(0,())))),(b1,()))) fun q2=>some (q2.2.1.1,(q2.2.2.1,())))
abbrev G283_CS:CSpec:=⟨[.dat (.list T73),.fix (.func (.func 284) .nil (.cons (.bptr 0 []) (.cons (.bptr 1 []) .nil)))],[.fix (.func (.func 181) .nil .nil),.dat T25],0,[.fix (.func (.func 181) .nil .nil),.dat T25],0,.dat (.list (.int .i64))⟩
def G283_E:CEnt:=boxE 283 G283_CS fun x=>G283 x.1.1 x.2.1
theorem G283_l0_V:LValid 2 Tryz.prog (.loop G283_l0_c) G283_l0_L false:=by
  have hb:∀ s,codeR Tryz.prog G283_C G283_l0_c [] (G283_l0_S.encE s) (G283_l0_S.encB s) (kst G283_l0_S [.exit 0])=G283_l0_step s:=by
    intro s; kernel_rfl
  have hL:LV 2 Tryz.prog false (loopsOf G283_l0_c) []:=by unfold LV; cases loopsOf G283_l0_c<;>trivial
  exact loopT_valid (fuel:=G283_l0_fuel) mixed G283_CV hL (by kernel_rfl) (by decide) rfl hb (fun s r h=>h)
theorem G283_LV:LV 2 Tryz.prog false (loopsOf (bodyOf Tryz.f283)) [G283_l0_L]:=by
  have hl:loopsOf (bodyOf Tryz.f283)=[.loop G283_l0_c]:=by kernel_rfl
  rw [hl]; exact ⟨G283_l0_V,trivial⟩
theorem G283_ent:Ent Tryz.prog 283:=⟨by decide,enters_of Tryz.func283 (by kernel_rfl) rfl⟩
theorem G283_hev:∀ x:G283_CS.In,fnR Tryz.prog G283_C [G283_l0_L] Tryz.f283 (bodyOf Tryz.f283) (encs G283_CS.A x.1) ⟨encs G283_CS.I x.2,[],G283_CS.nt⟩ (finK G283_CS)=G283 x.1.1 x.2.1:=by
  intro x; kernel_rfl
theorem G283_valid:G283_E.Valid Tryz.prog:=
  boxE_valid (S:=G283_CS) (by kernel_rfl) (.inr G283_ent) (fn_lcall (S:=G283_CS) mixed Tryz.func283 rfl G283_ent G283_CV G283_LV (by kernel_rfl) (by kernel_rfl) G283_hev)
def G285_C:CalT:=tabC [G181_E]
theorem G285_CV:CV Tryz.prog G285_C:=tabC_valid (l:=_) ⟨G181_valid,trivial⟩
def G285 (a0:E73):Option (Int×Unit):=(Option.bind (G181 a0.1) fun r1=>some (r1,()))
abbrev G285_CS:CSpec:=⟨[.dat T73,.fix (.bptr 0 [])],[.fix (.func (.func 181) .nil .nil)],0,[.fix (.func (.func 181) .nil .nil)],0,.dat (.int .i64)⟩
def G285_E:CEnt:=boxE 285 G285_CS fun x=>G285 x.1.1
theorem G285_LV:LV 1 Tryz.prog false (loopsOf (bodyOf Tryz.f285)) []:=by unfold LV; cases loopsOf (bodyOf Tryz.f285)<;>trivial
theorem G285_ent:Ent Tryz.prog 285:=⟨by decide,enters_of Tryz.func285 (by kernel_rfl) rfl⟩
theorem G285_hev:∀ x:G285_CS.In,fnR Tryz.prog G285_C [] Tryz.f285 (bodyOf Tryz.f285) (encs G285_CS.A x.1) ⟨encs G285_CS.I x.2,[],G285_CS.nt⟩ (finK G285_CS)=G285 x.1.1:=by
  intro x; kernel_rfl
theorem G285_valid:G285_E.Valid Tryz.prog:=
  boxE_valid (S:=G285_CS) (by kernel_rfl) (.inr G285_ent) (fn_lcall (S:=G285_CS) mixed Tryz.func285 rfl G285_ent G285_CV G285_LV (by kernel_rfl) (by kernel_rfl) G285_hev)
def G283_v1_C:CalT:=tabC [G285_E]
theorem G283_v1_CV:CV Tryz.prog G283_v1_C:=tabC_valid (l:=_) ⟨G285_valid,trivial⟩
def G283_v1_l0_c:Code:=loopAt (bodyOf Tryz.f283) 0
def G283_v1_l0_S:SPat:=⟨[.any,.fix (.func (.func 285) .nil (.cons (.bptr 0 []) .nil)),.any,.any,.any,.own 0 (.int .i64),.any,.any,.dat (.list T73),.dat (.int .i64),.dat (.int .i64),.any,.any,.any,.any,.any,.any,.any,.any,.any,.any,.any],[.fix (.func (.func 181) .nil .nil)],1⟩
def G283_v1_l0_step (s:(((List Int)×((List E73)×(Int×(Int×Unit))))×Unit)):Option (Nat×(((List Int)×((List E73)×(Int×(Int×Unit))))×Unit)):=(bif (decide (s.1.2.2.2.1 < s.1.2.2.1)) then (bif (decide (0≤s.1.2.2.2.1)&&decide (s.1.2.2.2.1 < (List.length s.1.2.1:Int))) then (Option.bind (G285 (List.getD s.1.2.1 (Int.toNat s.1.2.2.2.1) ((0,(0,())),((0,(0,())),((0,(0,())),()))))) fun r1=>(bif (decide (List.length s.1.1+List.length [r1.1]≤LIM)) then some (0,(((s.1.1++[r1.1]),(s.1.2.1,(s.1.2.2.1,((IntKind.wrap .i64 (s.1.2.2.2.1+1)),())))),())) else none)) else none) else some (1,((s.1.1,(s.1.2.1,(s.1.2.2.1,(s.1.2.2.2.1,())))),())))
def G283_v1_l0_fuel (s:(((List Int)×((List E73)×(Int×(Int×Unit))))×Unit)):Nat:=Int.toNat (s.1.2.2.1 - s.1.2.2.2.1)+1
def G283_v1_l0_run (s:(((List Int)×((List E73)×(Int×(Int×Unit))))×Unit)):Option (Nat×(((List Int)×((List E73)×(Int×(Int×Unit))))×Unit)):=iter G283_v1_l0_step (G283_v1_l0_fuel s) s
def G283_v1_l0_L:LoopT:=loopT G283_v1_l0_S [.exit 0] G283_v1_l0_run
def G283_v1 (a0:(List E73)):Option ((List Int)×Unit):=(Option.bind (G283_v1_l0_run (([],(a0,((List.length a0:Int),(0,())))),())) fun q2=>some (q2.2.1.1,()))
abbrev G283_v1_CS:CSpec:=⟨[.dat (.list T73),.fix (.func (.func 285) .nil (.cons (.bptr 0 []) .nil))],[.fix (.func (.func 181) .nil .nil)],0,[.fix (.func (.func 181) .nil .nil)],0,.dat (.list (.int .i64))⟩
def G283_v1_E:CEnt:=boxE 283 G283_v1_CS fun x=>G283_v1 x.1.1
theorem G283_v1_l0_V:LValid 1 Tryz.prog (.loop G283_v1_l0_c) G283_v1_l0_L false:=by
  have hb:∀ s,codeR Tryz.prog G283_v1_C G283_v1_l0_c [] (G283_v1_l0_S.encE s) (G283_v1_l0_S.encB s) (kst G283_v1_l0_S [.exit 0])=G283_v1_l0_step s:=by
    intro s; kernel_rfl
  have hL:LV 1 Tryz.prog false (loopsOf G283_v1_l0_c) []:=by unfold LV; cases loopsOf G283_v1_l0_c<;>trivial
  exact loopT_valid (fuel:=G283_v1_l0_fuel) mixed G283_v1_CV hL (by kernel_rfl) (by decide) rfl hb (fun s r h=>h)
theorem G283_v1_LV:LV 1 Tryz.prog false (loopsOf (bodyOf Tryz.f283)) [G283_v1_l0_L]:=by
  have hl:loopsOf (bodyOf Tryz.f283)=[.loop G283_v1_l0_c]:=by kernel_rfl
  rw [hl]; exact ⟨G283_v1_l0_V,trivial⟩
theorem G283_v1_ent:Ent Tryz.prog 283:=⟨by decide,enters_of Tryz.func283 (by kernel_rfl) rfl⟩
theorem G283_v1_hev:∀ x:G283_v1_CS.In,fnR Tryz.prog G283_v1_C [G283_v1_l0_L] Tryz.f283 (bodyOf Tryz.f283) (encs G283_v1_CS.A x.1) ⟨encs G283_v1_CS.I x.2,[],G283_v1_CS.nt⟩ (finK G283_v1_CS)=G283_v1 x.1.1:=by
  intro x; kernel_rfl
theorem G283_v1_valid:G283_v1_E.Valid Tryz.prog:=
  boxE_valid (S:=G283_v1_CS) (by kernel_rfl) (.inr G283_v1_ent) (fn_lcall (S:=G283_v1_CS) mixed Tryz.func283 rfl G283_v1_ent G283_v1_CV G283_v1_LV (by kernel_rfl) (by kernel_rfl) G283_v1_hev)
def G286_C:CalT:=tabC [G182_E]
theorem G286_CV:CV Tryz.prog G286_C:=tabC_valid (l:=_) ⟨G182_valid,trivial⟩
def G286 (a0:E73):Option (Int×Unit):=(Option.bind (G182 a0.2.1) fun r1=>some (r1,()))
abbrev G286_CS:CSpec:=⟨[.dat T73,.fix (.bptr 0 [])],[.fix (.func (.func 182) .nil .nil)],0,[.fix (.func (.func 182) .nil .nil)],0,.dat (.int .i64)⟩
def G286_E:CEnt:=boxE 286 G286_CS fun x=>G286 x.1.1
theorem G286_LV:LV 1 Tryz.prog false (loopsOf (bodyOf Tryz.f286)) []:=by unfold LV; cases loopsOf (bodyOf Tryz.f286)<;>trivial
theorem G286_ent:Ent Tryz.prog 286:=⟨by decide,enters_of Tryz.func286 (by kernel_rfl) rfl⟩
theorem G286_hev:∀ x:G286_CS.In,fnR Tryz.prog G286_C [] Tryz.f286 (bodyOf Tryz.f286) (encs G286_CS.A x.1) ⟨encs G286_CS.I x.2,[],G286_CS.nt⟩ (finK G286_CS)=G286 x.1.1:=by
  intro x; kernel_rfl
theorem G286_valid:G286_E.Valid Tryz.prog:=
  boxE_valid (S:=G286_CS) (by kernel_rfl) (.inr G286_ent) (fn_lcall (S:=G286_CS) mixed Tryz.func286 rfl G286_ent G286_CV G286_LV (by kernel_rfl) (by kernel_rfl) G286_hev)
def G283_v2_C:CalT:=tabC [G286_E]
theorem G283_v2_CV:CV Tryz.prog G283_v2_C:=tabC_valid (l:=_) ⟨G286_valid,trivial⟩
def G283_v2_l0_c:Code:=loopAt (bodyOf Tryz.f283) 0
def G283_v2_l0_S:SPat:=⟨[.any,.fix (.func (.func 286) .nil (.cons (.bptr 0 []) .nil)),.any,.any,.any,.own 0 (.int .i64),.any,.any,.dat (.list T73),.dat (.int .i64),.dat (.int .i64),.any,.any,.any,.any,.any,.any,.any,.any,.any,.any,.any],[.fix (.func (.func 182) .nil .nil)],1⟩
def G283_v2_l0_step (s:(((List Int)×((List E73)×(Int×(Int×Unit))))×Unit)):Option (Nat×(((List Int)×((List E73)×(Int×(Int×Unit))))×Unit)):=(bif (decide (s.1.2.2.2.1 < s.1.2.2.1)) then (bif (decide (0≤s.1.2.2.2.1)&&decide (s.1.2.2.2.1 < (List.length s.1.2.1:Int))) then (Option.bind (G286 (List.getD s.1.2.1 (Int.toNat s.1.2.2.2.1) ((0,(0,())),((0,(0,())),((0,(0,())),()))))) fun r1=>(bif (decide (List.length s.1.1+List.length [r1.1]≤LIM)) then some (0,(((s.1.1++[r1.1]),(s.1.2.1,(s.1.2.2.1,((IntKind.wrap .i64 (s.1.2.2.2.1+1)),())))),())) else none)) else none) else some (1,((s.1.1,(s.1.2.1,(s.1.2.2.1,(s.1.2.2.2.1,())))),())))
def G283_v2_l0_fuel (s:(((List Int)×((List E73)×(Int×(Int×Unit))))×Unit)):Nat:=Int.toNat (s.1.2.2.1 - s.1.2.2.2.1)+1
def G283_v2_l0_run (s:(((List Int)×((List E73)×(Int×(Int×Unit))))×Unit)):Option (Nat×(((List Int)×((List E73)×(Int×(Int×Unit))))×Unit)):=iter G283_v2_l0_step (G283_v2_l0_fuel s) s
def G283_v2_l0_L:LoopT:=loopT G283_v2_l0_S [.exit 0] G283_v2_l0_run
def G283_v2 (a0:(List E73)):Option ((List Int)×Unit):=(Option.bind (G283_v2_l0_run (([],(a0,((List.length a0:Int),(0,())))),())) fun q2=>some (q2.2.1.1,()))
abbrev G283_v2_CS:CSpec:=⟨[.dat (.list T73),.fix (.func (.func 286) .nil (.cons (.bptr 0 []) .nil))],[.fix (.func (.func 182) .nil .nil)],0,[.fix (.func (.func 182) .nil .nil)],0,.dat (.list (.int .i64))⟩
def G283_v2_E:CEnt:=boxE 283 G283_v2_CS fun x=>G283_v2 x.1.1
theorem G283_v2_l0_V:LValid 1 Tryz.prog (.loop G283_v2_l0_c) G283_v2_l0_L false:=by
  have hb:∀ s,codeR Tryz.prog G283_v2_C G283_v2_l0_c [] (G283_v2_l0_S.encE s) (G283_v2_l0_S.encB s) (kst G283_v2_l0_S [.exit 0])=G283_v2_l0_step s:=by
    intro s; kernel_rfl
  have hL:LV 1 Tryz.prog false (loopsOf G283_v2_l0_c) []:=by unfold LV; cases loopsOf G283_v2_l0_c<;>trivial
  exact loopT_valid (fuel:=G283_v2_l0_fuel) mixed G283_v2_CV hL (by kernel_rfl) (by decide) rfl hb (fun s r h=>h)
theorem G283_v2_LV:LV 1 Tryz.prog false (loopsOf (bodyOf Tryz.f283)) [G283_v2_l0_L]:=by
  have hl:loopsOf (bodyOf Tryz.f283)=[.loop G283_v2_l0_c]:=by kernel_rfl
  rw [hl]; exact ⟨G283_v2_l0_V,trivial⟩
theorem G283_v2_ent:Ent Tryz.prog 283:=⟨by decide,enters_of Tryz.func283 (by kernel_rfl) rfl⟩
theorem G283_v2_hev:∀ x:G283_v2_CS.In,fnR Tryz.prog G283_v2_C [G283_v2_l0_L] Tryz.f283 (bodyOf Tryz.f283) (encs G283_v2_CS.A x.1) ⟨encs G283_v2_CS.I x.2,[],G283_v2_CS.nt⟩ (finK G283_v2_CS)=G283_v2 x.1.1:=by
  intro x; kernel_rfl
theorem G283_v2_valid:G283_v2_E.Valid Tryz.prog:=
  boxE_valid (S:=G283_v2_CS) (by kernel_rfl) (.inr G283_v2_ent) (fn_lcall (S:=G283_v2_CS) mixed Tryz.func283 rfl G283_v2_ent G283_v2_CV G283_v2_LV (by kernel_rfl) (by kernel_rfl) G283_v2_hev)
def G287_C:CalT:=tabC [G181_E]
theorem G287_CV:CV Tryz.prog G287_C:=tabC_valid (l:=_) ⟨G181_valid,trivial⟩
def G287 (a0:E73):Option (Int×Unit):=(Option.bind (G181 a0.2.2.1) fun r1=>some (r1,()))
abbrev G287_CS:CSpec:=⟨[.dat T73,.fix (.bptr 0 [])],[.fix (.func (.func 181) .nil .nil)],0,[.fix (.func (.func 181) .nil .nil)],0,.dat (.int .i64)⟩
def G287_E:CEnt:=boxE 287 G287_CS fun x=>G287 x.1.1
theorem G287_LV:LV 1 Tryz.prog false (loopsOf (bodyOf Tryz.f287)) []:=by unfold LV; cases loopsOf (bodyOf Tryz.f287)<;>trivial
theorem G287_ent:Ent Tryz.prog 287:=⟨by decide,enters_of Tryz.func287 (by kernel_rfl) rfl⟩
theorem G287_hev:∀ x:G287_CS.In,fnR Tryz.prog G287_C [] Tryz.f287 (bodyOf Tryz.f287) (encs G287_CS.A x.1) ⟨encs G287_CS.I x.2,[],G287_CS.nt⟩ (finK G287_CS)=G287 x.1.1:=by
  intro x; kernel_rfl
theorem G287_valid:G287_E.Valid Tryz.prog:=
  boxE_valid (S:=G287_CS) (by kernel_rfl) (.inr G287_ent) (fn_lcall (S:=G287_CS) mixed Tryz.func287 rfl G287_ent G287_CV G287_LV (by kernel_rfl) (by kernel_rfl) G287_hev)
def G283_v3_C:CalT:=tabC [G287_E]
theorem G283_v3_CV:CV Tryz.prog G283_v3_C:=tabC_valid (l:=_) ⟨G287_valid,trivial⟩
def G283_v3_l0_c:Code:=loopAt (bodyOf Tryz.f283) 0
def G283_v3_l0_S:SPat:=⟨[.any,.fix (.func (.func 287) .nil (.cons (.bptr 0 []) .nil)),.any,.any,.any,.own 0 (.int .i64),.any,.any,.dat (.list T73),.dat (.int .i64),.dat (.int .i64),.any,.any,.any,.any,.any,.any,.any,.any,.any,.any,.any],[.fix (.func (.func 181) .nil .nil)],1⟩
def G283_v3_l0_step (s:(((List Int)×((List E73)×(Int×(Int×Unit))))×Unit)):Option (Nat×(((List Int)×((List E73)×(Int×(Int×Unit))))×Unit)):=(bif (decide (s.1.2.2.2.1 < s.1.2.2.1)) then (bif (decide (0≤s.1.2.2.2.1)&&decide (s.1.2.2.2.1 < (List.length s.1.2.1:Int))) then (Option.bind (G287 (List.getD s.1.2.1 (Int.toNat s.1.2.2.2.1) ((0,(0,())),((0,(0,())),((0,(0,())),()))))) fun r1=>(bif (decide (List.length s.1.1+List.length [r1.1]≤LIM)) then some (0,(((s.1.1++[r1.1]),(s.1.2.1,(s.1.2.2.1,((IntKind.wrap .i64 (s.1.2.2.2.1+1)),())))),())) else none)) else none) else some (1,((s.1.1,(s.1.2.1,(s.1.2.2.1,(s.1.2.2.2.1,())))),())))
def G283_v3_l0_fuel (s:(((List Int)×((List E73)×(Int×(Int×Unit))))×Unit)):Nat:=Int.toNat (s.1.2.2.1 - s.1.2.2.2.1)+1
def G283_v3_l0_run (s:(((List Int)×((List E73)×(Int×(Int×Unit))))×Unit)):Option (Nat×(((List Int)×((List E73)×(Int×(Int×Unit))))×Unit)):=iter G283_v3_l0_step (G283_v3_l0_fuel s) s
def G283_v3_l0_L:LoopT:=loopT G283_v3_l0_S [.exit 0] G283_v3_l0_run
def G283_v3 (a0:(List E73)):Option ((List Int)×Unit):=(Option.bind (G283_v3_l0_run (([],(a0,((List.length a0:Int),(0,())))),())) fun q2=>some (q2.2.1.1,()))
abbrev G283_v3_CS:CSpec:=⟨[.dat (.list T73),.fix (.func (.func 287) .nil (.cons (.bptr 0 []) .nil))],[.fix (.func (.func 181) .nil .nil)],0,[.fix (.func (.func 181) .nil .nil)],0,.dat (.list (.int .i64))⟩
def G283_v3_E:CEnt:=boxE 283 G283_v3_CS fun x=>G283_v3 x.1.1
theorem G283_v3_l0_V:LValid 1 Tryz.prog (.loop G283_v3_l0_c) G283_v3_l0_L false:=by
  have hb:∀ s,codeR Tryz.prog G283_v3_C G283_v3_l0_c [] (G283_v3_l0_S.encE s) (G283_v3_l0_S.encB s) (kst G283_v3_l0_S [.exit 0])=G283_v3_l0_step s:=by
    intro s; kernel_rfl
  have hL:LV 1 Tryz.prog false (loopsOf G283_v3_l0_c) []:=by unfold LV; cases loopsOf G283_v3_l0_c<;>trivial
  exact loopT_valid (fuel:=G283_v3_l0_fuel) mixed G283_v3_CV hL (by kernel_rfl) (by decide) rfl hb (fun s r h=>h)
theorem G283_v3_LV:LV 1 Tryz.prog false (loopsOf (bodyOf Tryz.f283)) [G283_v3_l0_L]:=by
  have hl:loopsOf (bodyOf Tryz.f283)=[.loop G283_v3_l0_c]:=by kernel_rfl
  rw [hl]; exact ⟨G283_v3_l0_V,trivial⟩
theorem G283_v3_ent:Ent Tryz.prog 283:=⟨by decide,enters_of Tryz.func283 (by kernel_rfl) rfl⟩
theorem G283_v3_hev:∀ x:G283_v3_CS.In,fnR Tryz.prog G283_v3_C [G283_v3_l0_L] Tryz.f283 (bodyOf Tryz.f283) (encs G283_v3_CS.A x.1) ⟨encs G283_v3_CS.I x.2,[],G283_v3_CS.nt⟩ (finK G283_v3_CS)=G283_v3 x.1.1:=by
  intro x; kernel_rfl
theorem G283_v3_valid:G283_v3_E.Valid Tryz.prog:=
  boxE_valid (S:=G283_v3_CS) (by kernel_rfl) (.inr G283_v3_ent) (fn_lcall (S:=G283_v3_CS) mixed Tryz.func283 rfl G283_v3_ent G283_v3_CV G283_v3_LV (by kernel_rfl) (by kernel_rfl) G283_v3_hev)
def G346_C:CalT:=tabC []
theorem G346_CV:CV Tryz.prog G346_C:=tabC_valid (l:=_) trivial
abbrev UT46:Type:=(Unit×(Unit×(Unit×(Unit×(Unit×(Unit×(Unit×(Unit×(Unit×(Unit×(Unit×(Unit×(Unit×(Unit×(Unit×(Unit×(Unit×(Unit×(Unit×(Unit×(Unit×(Unit×(Unit×(Unit×(Unit×(Unit×(Unit×(Unit×(Unit×(Unit×(Unit×(Unit×(Unit×(Unit×(Unit×(Unit×(Unit×(Unit×(Unit×(Unit×(Unit×(Unit×(Unit×(Unit×(Unit×(Unit×Unit))))))))))))))))))))))))))))))))))))))))))))))
abbrev UC46:(Unit×(Unit×(Unit×(Unit×(Unit×(Unit×(Unit×(Unit×(Unit×(Unit×(Unit×(Unit×(Unit×(Unit×(Unit×(Unit×(Unit×(Unit×(Unit×(Unit×(Unit×(Unit×(Unit×(Unit×(Unit×(Unit×(Unit×(Unit×(Unit×(Unit×(Unit×(Unit×(Unit×(Unit×(Unit×(Unit×(Unit×(Unit×(Unit×(Unit×(Unit×(Unit×(Unit×(Unit×(Unit×(Unit×Unit)))))))))))))))))))))))))))))))))))))))))))))):=((),((),((),((),((),((),((),((),((),((),((),((),((),((),((),((),((),((),((),((),((),((),((),((),((),((),((),((),((),((),((),((),((),((),((),((),((),((),((),((),((),((),((),((),((),((),()))))))))))))))))))))))))))))))))))))))))))))))
def G346 (a0:Int) (a1:Int) (b2:(Nat×UT46)) (b3:E172) (b4:Int) (b5:Int) (b6:Int):Option (Bool×((Nat×UT46)×(E172×(Int×(Int×(Int×Unit)))))):=(natK b2.1 ((bif (decide (a1 < 0)) then (bif (decide (0≤a0)&&decide (a0 < (List.length b3.2.1.1:Int))) then (bif (!decide ((List.getD b3.2.1.1 (Int.toNat a0) 0)=0)) then some (false,((3,UC46),(b3,(b4,((IntKind.wrap .i64 (b6+(IntKind.wrap .i64 (Int.tdiv b4 (List.getD b3.2.1.1 (Int.toNat a0) 0))))),(b6,())))))) else none) else none) else (bif (decide (b4 < a1)) then (bif (decide (0≤a0)&&decide (a0 < (List.length b3.2.1.1:Int))) then (bif (!decide ((List.getD b3.2.1.1 (Int.toNat a0) 0)=0)) then some (false,((3,UC46),(b3,(b4,((IntKind.wrap .i64 (b6+(IntKind.wrap .i64 (Int.tdiv b4 (List.getD b3.2.1.1 (Int.toNat a0) 0))))),(b6,())))))) else none) else none) else (bif (decide (0≤a0)&&decide (a0 < (List.length b3.1.1:Int))) then some (true,((0,UC46),(b3,((IntKind.wrap .i64 (b4 - a1)),(b5,((IntKind.wrap .i64 (b6+(List.getD b3.1.1 (Int.toNat a0) (0,((0,(0,())),()))).1)),())))))) else none)))) (fun _=>none))
abbrev AN40:PTy:=(.cons (.any) (.cons (.any) (.cons (.any) (.cons (.any) (.cons (.any) (.cons (.any) (.cons (.any) (.cons (.any) (.cons (.any) (.cons (.any) (.cons (.any) (.cons (.any) (.cons (.any) (.cons (.any) (.cons (.any) (.cons (.any) (.cons (.any) (.cons (.any) (.cons (.any) (.cons (.any) (.cons (.any) (.cons (.any) (.cons (.any) (.cons (.any) (.cons (.any) (.cons (.any) (.cons (.any) (.cons (.any) (.cons (.any) (.cons (.any) (.cons (.any) (.cons (.any) (.cons (.any) (.cons (.any) (.cons (.any) (.cons (.any) (.cons (.any) (.cons (.any) (.cons (.any) (.cons (.any) (.nil)))))))))))))))))))))))))))))))))))))))))
abbrev G346_CS:CSpec:=⟨[.fix (.yref 0),.dat (.int .i64),.dat (.int .i64)],[.lp 346 0 (.cons (.any) (.cons (.any) (.cons (.fix (.bptr 1 [])) (.cons (.fix (.bptr 2 [])) (.cons (.fix (.bptr 3 [])) (.cons (.fix (.bptr 4 [])) AN40)))))),.ip T172,.dat (.int .i64),.dat (.int .i64),.dat (.int .i64)],0,[.lp 346 0 (.cons (.any) (.cons (.any) (.cons (.fix (.bptr 1 [])) (.cons (.fix (.bptr 2 [])) (.cons (.fix (.bptr 3 [])) (.cons (.fix (.bptr 4 [])) AN40)))))),.ip T172,.dat (.int .i64),.dat (.int .i64),.dat (.int .i64)],0,.dat .bool⟩
def G346_E:CEnt:=boxE YLD G346_CS fun x=>G346 x.1.1 x.1.2.1 x.2.1 x.2.2.1 x.2.2.2.1 x.2.2.2.2.1 x.2.2.2.2.2.1
theorem G346_LV:LV 5 Tryz.prog true (loopsOf (rfBody (lcode 346 0))) []:=by unfold LV; cases loopsOf (rfBody (lcode 346 0))<;>trivial
theorem G346_hev:∀ x:G346_CS.In,roundR Tryz.prog G346_C [] 346 0 (encs G346_CS.A x.1) ⟨encs G346_CS.I x.2,[],G346_CS.nt⟩ (finK G346_CS)=G346 x.1.1 x.1.2.1 x.2.1 x.2.2.1 x.2.2.2.1 x.2.2.2.2.1 x.2.2.2.2.2.1:=by
  intro x; kernel_rfl
theorem G346_valid:G346_E.Valid Tryz.prog:=
  boxE_valid (S:=G346_CS) (by kernel_rfl) (.inl rfl) (rd_lcall' (S:=G346_CS) mixed G346_CV (by kernel_rfl) G346_LV ⟨_,rfl⟩ (by decide) (by kernel_rfl) (by kernel_rfl) G346_hev)
def G391_C:CalT:=tabC [G346_E]
theorem G391_CV:CV Tryz.prog G391_C:=tabC_valid (l:=_) ⟨G346_valid,trivial⟩
def G391_l0_c:Code:=loopAt (bodyOf Tryz.f391) 0
abbrev PA5:PTy:=(.cons (.any) (.cons (.any) (.cons (.fix (.bptr 1 [])) (.cons (.fix (.bptr 2 [])) (.cons (.fix (.bptr 3 [])) (.cons (.fix (.bptr 4 [])) AN40))))))
def G391_l0_S:SPat:=⟨[.ip T172,.fix (.yref 0),.any,.any,.any,.any,.any,.any,.any,.any,.any,.dat (.list T178),.dat (.int .i64),.dat (.int .i64)]++List.replicate 30 PTy.any,[.lp 346 0 PA5,.ip T172,.dat (.int .i64),.dat (.int .i64),.dat (.int .i64)],0⟩
abbrev TY6:Type:=(Nat×((E172×((List E178)×(Int×(Int×Unit))))×((Nat×UT46)×(E172×(Int×(Int×(Int×Unit)))))))
def G391_l0_step (s:((E172×((List E178)×(Int×(Int×Unit))))×((Nat×UT46)×(E172×(Int×(Int×(Int×Unit))))))):Option TY6:=(bif (decide (s.1.2.2.2.1 < s.1.2.2.1)) then (bif (decide (0≤s.1.2.2.2.1)&&decide (s.1.2.2.2.1 < (List.length s.1.2.1:Int))) then (bif (decide (0≤s.1.2.2.2.1)&&decide (s.1.2.2.2.1 < (List.length s.1.1.2.1.1:Int))) then (bif (s.1.2.2.2.1==(IntKind.wrap .i64 ((List.length s.1.1.1.1:Int) - 1))) then (Option.bind (G346 s.1.2.2.2.1 (-1) (s.2.1.1,UC46) s.2.2.1 s.2.2.2.1 s.2.2.2.2.1 s.2.2.2.2.2.1) fun r1=>(bif (!r1.1) then some (1,((s.1.1,(s.1.2.1,(s.1.2.2.1,(s.1.2.2.2.1,())))),((r1.2.1.1,UC46),(r1.2.2.1,(r1.2.2.2.1,(r1.2.2.2.2.1,(r1.2.2.2.2.2.1,()))))))) else some (0,((s.1.1,(s.1.2.1,(s.1.2.2.1,((IntKind.wrap .i64 (s.1.2.2.2.1+1)),())))),((r1.2.1.1,UC46),(r1.2.2.1,(r1.2.2.2.1,(r1.2.2.2.2.1,(r1.2.2.2.2.2.1,()))))))))) else (Option.bind (G346 s.1.2.2.2.1 (IntKind.wrap .i64 ((List.getD s.1.2.1 (Int.toNat s.1.2.2.2.1) (0,((0,(0,())),()))).1*(List.getD s.1.1.2.1.1 (Int.toNat s.1.2.2.2.1) 0))) (s.2.1.1,UC46) s.2.2.1 s.2.2.2.1 s.2.2.2.2.1 s.2.2.2.2.2.1) fun r2=>(bif (!r2.1) then some (1,((s.1.1,(s.1.2.1,(s.1.2.2.1,(s.1.2.2.2.1,())))),((r2.2.1.1,UC46),(r2.2.2.1,(r2.2.2.2.1,(r2.2.2.2.2.1,(r2.2.2.2.2.2.1,()))))))) else some (0,((s.1.1,(s.1.2.1,(s.1.2.2.1,((IntKind.wrap .i64 (s.1.2.2.2.1+1)),())))),((r2.2.1.1,UC46),(r2.2.2.1,(r2.2.2.2.1,(r2.2.2.2.2.1,(r2.2.2.2.2.2.1,())))))))))) else none) else none) else some (2,((s.1.1,(s.1.2.1,(s.1.2.2.1,(s.1.2.2.2.1,())))),((s.2.1.1,UC46),(s.2.2.1,(s.2.2.2.1,(s.2.2.2.2.1,(s.2.2.2.2.2.1,()))))))))
def G391_l0_fuel (s:((E172×((List E178)×(Int×(Int×Unit))))×((Nat×UT46)×(E172×(Int×(Int×(Int×Unit))))))):Nat:=Int.toNat (s.1.2.2.1 - s.1.2.2.2.1)+1
def G391_l0_run (s:((E172×((List E178)×(Int×(Int×Unit))))×((Nat×UT46)×(E172×(Int×(Int×(Int×Unit))))))):Option TY6:=iter G391_l0_step (G391_l0_fuel s) s
def G391_l0_L:LoopT:=loopT G391_l0_S [.ret,.exit 0] G391_l0_run
def G391 (a0:E172) (b1:(Nat×UT46)) (b2:E172) (b3:Int) (b4:Int) (b5:Int):Option (Unit×((Nat×UT46)×(E172×(Int×(Int×(Int×Unit)))))):=(Option.bind (G391_l0_run ((a0,(a0.1.1,((List.length a0.1.1:Int),(0,())))),((b1.1,UC46),(b2,(b3,(b4,(b5,()))))))) fun q3=>(natK q3.1 (some ((),((q3.2.2.1.1,UC46),(q3.2.2.2.1,(q3.2.2.2.2.1,(q3.2.2.2.2.2.1,(q3.2.2.2.2.2.2.1,()))))))) (fun _=>some ((),((q3.2.2.1.1,UC46),(q3.2.2.2.1,(q3.2.2.2.2.1,(q3.2.2.2.2.2.1,(q3.2.2.2.2.2.2.1,())))))))))
abbrev G391_CS:CSpec:=⟨[.ip T172,.fix (.yref 0)],[.lp 346 0 (.cons (.any) (.cons (.any) (.cons (.fix (.bptr 1 [])) (.cons (.fix (.bptr 2 [])) (.cons (.fix (.bptr 3 [])) (.cons (.fix (.bptr 4 [])) AN40)))))),.ip T172,.dat (.int .i64),.dat (.int .i64),.dat (.int .i64)],0,[.lp 346 0 (.cons (.any) (.cons (.any) (.cons (.fix (.bptr 1 [])) (.cons (.fix (.bptr 2 [])) (.cons (.fix (.bptr 3 [])) (.cons (.fix (.bptr 4 [])) AN40)))))),.ip T172,.dat (.int .i64),.dat (.int .i64),.dat (.int .i64)],0,.tup (.nil)⟩
def G391_E:CEnt:=boxE 391 G391_CS fun x=>G391 x.1.1 x.2.1 x.2.2.1 x.2.2.2.1 x.2.2.2.2.1 x.2.2.2.2.2.1
theorem G391_l0_V:LValid 5 Tryz.prog (.loop G391_l0_c) G391_l0_L false:=by
  have hb:∀ s,codeR Tryz.prog G391_C G391_l0_c [] (G391_l0_S.encE s) (G391_l0_S.encB s) (kst G391_l0_S [.ret,.exit 0])=G391_l0_step s:=by
    intro s; kernel_rfl
  have hL:LV 5 Tryz.prog false (loopsOf G391_l0_c) []:=by unfold LV; cases loopsOf G391_l0_c<;>trivial
  exact loopT_valid (fuel:=G391_l0_fuel) mixed G391_CV hL (by kernel_rfl) (by decide) rfl hb (fun s r h=>h)
theorem G391_LV:LV 5 Tryz.prog false (loopsOf (bodyOf Tryz.f391)) [G391_l0_L]:=by
  have hl:loopsOf (bodyOf Tryz.f391)=[.loop G391_l0_c]:=by kernel_rfl
  rw [hl]; exact ⟨G391_l0_V,trivial⟩
theorem G391_ent:Ent Tryz.prog 391:=⟨by decide,enters_of Tryz.func391 (by kernel_rfl) rfl⟩
theorem G391_hev:∀ x:G391_CS.In,fnR Tryz.prog G391_C [G391_l0_L] Tryz.f391 (bodyOf Tryz.f391) (encs G391_CS.A x.1) ⟨encs G391_CS.I x.2,[],G391_CS.nt⟩ (finK G391_CS)=G391 x.1.1 x.2.1 x.2.2.1 x.2.2.2.1 x.2.2.2.2.1 x.2.2.2.2.2.1:=by
  intro x; kernel_rfl
theorem G391_valid:G391_E.Valid Tryz.prog:=
  boxE_valid (S:=G391_CS) (by kernel_rfl) (.inr G391_ent) (fn_lcall (S:=G391_CS) mixed Tryz.func391 rfl G391_ent G391_CV G391_LV (by kernel_rfl) (by kernel_rfl) G391_hev)
def g346_ground_followed_depth_C:CalT:=tabC [G391_E]
theorem g346_ground_followed_depth_CV:CV Tryz.prog g346_ground_followed_depth_C:=tabC_valid (l:=_) ⟨G391_valid,trivial⟩
def g346_ground_followed_depth_f0_L:LoopT:=rfT g346_ground_followed_depth_C 346 0 (.tmp 9) [.normal,.ret]
def g346_ground_followed_depth (a0:E172) (a1:Int):Option Int:=(Option.bind (G391 a0 (0,UC46) a0 a1 0 0) fun r1=>(bif (r1.2.1.1==0) then some r1.2.2.2.2.2.1 else (bif (r1.2.1.1==3) then some r1.2.2.2.2.1 else none)))
def g346_ground_followed_depth_E:CEnt:=viewE 346 [.ip T172,.dat (.int .i64)] (.dat (.int .i64)) fun x=>g346_ground_followed_depth x.1 x.2.1
theorem g346_ground_followed_depth_f0_V:LValid 0 Tryz.prog (lcode 346 0) g346_ground_followed_depth_f0_L:=rfT_valid' g346_ground_followed_depth_CV (by kernel_rfl)
theorem g346_ground_followed_depth_LV:LV 0 Tryz.prog false (loopsOf (bodyOf Tryz.f346)) [g346_ground_followed_depth_f0_L]:=by
  have hl:loopsOf (bodyOf Tryz.f346)=[(lcode 346 0)]:=by kernel_rfl
  rw [hl]; exact ⟨g346_ground_followed_depth_f0_V,trivial⟩
theorem g346_ground_followed_depth_ent:Ent Tryz.prog 346:=⟨by decide,enters_of Tryz.func346 (by kernel_rfl) rfl⟩
theorem g346_ground_followed_depth_hev:∀ x,fnR Tryz.prog g346_ground_followed_depth_C [g346_ground_followed_depth_f0_L] Tryz.f346 (bodyOf Tryz.f346) (encs [.ip T172,.dat (.int .i64)] x) ⟨[],[],0⟩ (frzF (.dat (.int .i64)))=g346_ground_followed_depth x.1 x.2.1:=by
  intro x; kernel_rfl
theorem g346_ground_followed_depth_valid:g346_ground_followed_depth_E.Valid Tryz.prog:=
  viewE_valid (by kernel_rfl) (by kernel_rfl) g346_ground_followed_depth_ent (frz_lcall mixed Tryz.func346 rfl g346_ground_followed_depth_ent g346_ground_followed_depth_CV g346_ground_followed_depth_LV (by kernel_rfl) (by kernel_rfl) g346_ground_followed_depth_hev)
def G242_C:CalT:=tabC [g346_ground_followed_depth_E]
theorem G242_CV:CV Tryz.prog G242_C:=tabC_valid (l:=_) ⟨g346_ground_followed_depth_valid,trivial⟩
abbrev TY7:Type:=(E25×(((List Int)×((List Int)×((List Int)×((List Int)×((List Int)×Unit)))))×(Int×(Int×(Int×(Int×((List Int)×((List Int)×((Int×(Int×(Int×Unit)))×Unit)))))))))
abbrev TY8:Type:=(Unit×((E25×(((List Int)×((List Int)×((List Int)×((List Int)×((List Int)×Unit)))))×(Int×(Int×(Int×(Int×((List Int)×((List Int)×((Int×(Int×(Int×Unit)))×Unit)))))))))×Unit))
def G242 (b0:TY7):Option TY8:=(bif (decide (0≤b0.2.2.2.1)&&decide (b0.2.2.2.1 < (List.length b0.2.1.2.1:Int))) then (bif (decide (0≤b0.2.2.2.1)&&decide (b0.2.2.2.1 < (List.length b0.2.1.2.2.1:Int))) then (Option.bind (g346_ground_followed_depth (b0.1,(b0.2.1,(b0.2.2.1,(b0.2.2.2.1,((if (IntKind.wrap .i64 (b0.2.2.2.2.2.1+(IntKind.wrap .i64 ((List.getD b0.2.1.2.1 (Int.toNat b0.2.2.2.1) 0)+(List.getD b0.2.1.2.2.1 (Int.toNat b0.2.2.2.1) 0))))) > b0.2.2.2.2.1 then (IntKind.wrap .i64 (b0.2.2.2.2.2.1+(IntKind.wrap .i64 ((List.getD b0.2.1.2.1 (Int.toNat b0.2.2.2.1) 0)+(List.getD b0.2.1.2.2.1 (Int.toNat b0.2.2.2.1) 0))))) else b0.2.2.2.2.1),((IntKind.wrap .i64 (b0.2.2.2.2.2.1+(IntKind.wrap .i64 ((List.getD b0.2.1.2.1 (Int.toNat b0.2.2.2.1) 0)+(List.getD b0.2.1.2.2.1 (Int.toNat b0.2.2.2.1) 0))))),(b0.2.2.2.2.2.2.1,(b0.2.2.2.2.2.2.2.1,(((IntKind.wrap .i64 (b0.2.2.2.2.2.2.2.2.1.1+(IntKind.wrap .i64 ((List.getD b0.2.1.2.1 (Int.toNat b0.2.2.2.1) 0)+(List.getD b0.2.1.2.2.1 (Int.toNat b0.2.2.2.1) 0))))),b0.2.2.2.2.2.2.2.2.1.2),b0.2.2.2.2.2.2.2.2.2))))))))) (if (IntKind.wrap .i64 (b0.2.2.2.2.2.1+(IntKind.wrap .i64 ((List.getD b0.2.1.2.1 (Int.toNat b0.2.2.2.1) 0)+(List.getD b0.2.1.2.2.1 (Int.toNat b0.2.2.2.1) 0))))) > b0.2.2.2.2.1 then (IntKind.wrap .i64 (b0.2.2.2.2.2.1+(IntKind.wrap .i64 ((List.getD b0.2.1.2.1 (Int.toNat b0.2.2.2.1) 0)+(List.getD b0.2.1.2.2.1 (Int.toNat b0.2.2.2.1) 0))))) else b0.2.2.2.2.1)) fun r1=>(bif (decide (List.length b0.2.2.2.2.2.2.1+List.length [r1]≤LIM)) then some ((),((b0.1,(b0.2.1,(b0.2.2.1,(b0.2.2.2.1,((if (IntKind.wrap .i64 (b0.2.2.2.2.2.1+(IntKind.wrap .i64 ((List.getD b0.2.1.2.1 (Int.toNat b0.2.2.2.1) 0)+(List.getD b0.2.1.2.2.1 (Int.toNat b0.2.2.2.1) 0))))) > b0.2.2.2.2.1 then (IntKind.wrap .i64 (b0.2.2.2.2.2.1+(IntKind.wrap .i64 ((List.getD b0.2.1.2.1 (Int.toNat b0.2.2.2.1) 0)+(List.getD b0.2.1.2.2.1 (Int.toNat b0.2.2.2.1) 0))))) else b0.2.2.2.2.1),((IntKind.wrap .i64 (b0.2.2.2.2.2.1+(IntKind.wrap .i64 ((List.getD b0.2.1.2.1 (Int.toNat b0.2.2.2.1) 0)+(List.getD b0.2.1.2.2.1 (Int.toNat b0.2.2.2.1) 0))))),((b0.2.2.2.2.2.2.1++[r1]),(b0.2.2.2.2.2.2.2.1,(((IntKind.wrap .i64 (b0.2.2.2.2.2.2.2.2.1.1+(IntKind.wrap .i64 ((List.getD b0.2.1.2.1 (Int.toNat b0.2.2.2.1) 0)+(List.getD b0.2.1.2.2.1 (Int.toNat b0.2.2.2.1) 0))))),b0.2.2.2.2.2.2.2.2.1.2),b0.2.2.2.2.2.2.2.2.2))))))))),())) else none)) else none) else none)
abbrev G242_CS:CSpec:=⟨[.fix (.bptr 0 [])],[.cons (.dat T25) (.cons (.cons (.dat (.list (.int .i64))) (.cons (.dat (.list (.int .i64))) (.cons (.dat (.list (.int .i64))) (.cons (.dat (.list (.int .i64))) (.cons (.dat (.list (.int .i64))) (.nil)))))) (.cons (.dat (.int .i64)) (.cons (.dat (.int .i64)) (.cons (.dat (.int .i64)) (.cons (.dat (.int .i64)) (.cons (.own 0 (.int .i64)) (.cons (.own 1 (.int .i64)) (.cons (.cons (.dat (.int .i64)) (.cons (.dat (.int .i64)) (.cons (.dat (.int .i64)) (.nil)))) (.nil)))))))))],2,[.cons (.dat T25) (.cons (.cons (.dat (.list (.int .i64))) (.cons (.dat (.list (.int .i64))) (.cons (.dat (.list (.int .i64))) (.cons (.dat (.list (.int .i64))) (.cons (.dat (.list (.int .i64))) (.nil)))))) (.cons (.dat (.int .i64)) (.cons (.dat (.int .i64)) (.cons (.dat (.int .i64)) (.cons (.dat (.int .i64)) (.cons (.own 0 (.int .i64)) (.cons (.own 1 (.int .i64)) (.cons (.cons (.dat (.int .i64)) (.cons (.dat (.int .i64)) (.cons (.dat (.int .i64)) (.nil)))) (.nil)))))))))],2,.tup (.nil)⟩
def G242_E:CEnt:=boxE 242 G242_CS fun x=>G242 x.2.1
theorem G242_LV:LV 1 Tryz.prog false (loopsOf (bodyOf Tryz.f242)) []:=by unfold LV; cases loopsOf (bodyOf Tryz.f242)<;>trivial
theorem G242_ent:Ent Tryz.prog 242:=⟨by decide,enters_of Tryz.func242 (by kernel_rfl) rfl⟩
theorem G242_hev:∀ x:G242_CS.In,fnR Tryz.prog G242_C [] Tryz.f242 (bodyOf Tryz.f242) (encs G242_CS.A x.1) ⟨encs G242_CS.I x.2,[],G242_CS.nt⟩ (finK G242_CS)=G242 x.2.1:=by
  intro x; kernel_rfl
theorem G242_valid:G242_E.Valid Tryz.prog:=
  boxE_valid (S:=G242_CS) (by kernel_rfl) (.inr G242_ent) (fn_lcall (S:=G242_CS) mixed Tryz.func242 rfl G242_ent G242_CV G242_LV (by kernel_rfl) (by kernel_rfl) G242_hev)
def G243_C:CalT:=tabC []
theorem G243_CV:CV Tryz.prog G243_C:=tabC_valid (l:=_) trivial
def G243 (b0:TY7):Option TY8:=(bif (decide (0≤b0.2.2.2.1)&&decide (b0.2.2.2.1 < (List.length b0.2.1.2.2.2.1:Int))) then (bif (decide (0≤b0.2.2.2.1)&&decide (b0.2.2.2.1 < (List.length b0.2.1.2.2.2.2.1:Int))) then (bif ((IntKind.wrap .i64 (b0.2.2.2.2.2.1 - (if (IntKind.wrap .i64 (b0.2.2.1+(IntKind.wrap .i64 (Int.tdiv (IntKind.wrap .i64 ((List.getD b0.2.1.2.2.2.1 (Int.toNat b0.2.2.2.1) 0)*(IntKind.wrap .i64 ((1000:Int) - (List.getD b0.2.1.2.2.2.2.1 (Int.toNat b0.2.2.2.1) 0))))) 1000)))) < b0.2.2.2.2.2.1 then (IntKind.wrap .i64 (b0.2.2.1+(IntKind.wrap .i64 (Int.tdiv (IntKind.wrap .i64 ((List.getD b0.2.1.2.2.2.1 (Int.toNat b0.2.2.2.1) 0)*(IntKind.wrap .i64 ((1000:Int) - (List.getD b0.2.1.2.2.2.2.1 (Int.toNat b0.2.2.2.1) 0))))) 1000)))) else b0.2.2.2.2.2.1)))==0) then (bif (decide (List.length b0.2.2.2.2.2.2.2.1+List.length [(IntKind.wrap .i64 (b0.2.2.2.2.2.1 - (if (IntKind.wrap .i64 (b0.2.2.1+(IntKind.wrap .i64 (Int.tdiv (IntKind.wrap .i64 ((List.getD b0.2.1.2.2.2.1 (Int.toNat b0.2.2.2.1) 0)*(IntKind.wrap .i64 ((1000:Int) - (List.getD b0.2.1.2.2.2.2.1 (Int.toNat b0.2.2.2.1) 0))))) 1000)))) < b0.2.2.2.2.2.1 then (IntKind.wrap .i64 (b0.2.2.1+(IntKind.wrap .i64 (Int.tdiv (IntKind.wrap .i64 ((List.getD b0.2.1.2.2.2.1 (Int.toNat b0.2.2.2.1) 0)*(IntKind.wrap .i64 ((1000:Int) - (List.getD b0.2.1.2.2.2.2.1 (Int.toNat b0.2.2.2.1) 0))))) 1000)))) else b0.2.2.2.2.2.1)))]≤LIM)) then some ((),((b0.1,(b0.2.1,(b0.2.2.1,(b0.2.2.2.1,(0,((IntKind.wrap .i64 (b0.2.2.2.2.2.1 - (if (IntKind.wrap .i64 (b0.2.2.1+(IntKind.wrap .i64 (Int.tdiv (IntKind.wrap .i64 ((List.getD b0.2.1.2.2.2.1 (Int.toNat b0.2.2.2.1) 0)*(IntKind.wrap .i64 ((1000:Int) - (List.getD b0.2.1.2.2.2.2.1 (Int.toNat b0.2.2.2.1) 0))))) 1000)))) < b0.2.2.2.2.2.1 then (IntKind.wrap .i64 (b0.2.2.1+(IntKind.wrap .i64 (Int.tdiv (IntKind.wrap .i64 ((List.getD b0.2.1.2.2.2.1 (Int.toNat b0.2.2.2.1) 0)*(IntKind.wrap .i64 ((1000:Int) - (List.getD b0.2.1.2.2.2.2.1 (Int.toNat b0.2.2.2.1) 0))))) 1000)))) else b0.2.2.2.2.2.1))),(b0.2.2.2.2.2.2.1,((b0.2.2.2.2.2.2.2.1++[(IntKind.wrap .i64 (b0.2.2.2.2.2.1 - (if (IntKind.wrap .i64 (b0.2.2.1+(IntKind.wrap .i64 (Int.tdiv (IntKind.wrap .i64 ((List.getD b0.2.1.2.2.2.1 (Int.toNat b0.2.2.2.1) 0)*(IntKind.wrap .i64 ((1000:Int) - (List.getD b0.2.1.2.2.2.2.1 (Int.toNat b0.2.2.2.1) 0))))) 1000)))) < b0.2.2.2.2.2.1 then (IntKind.wrap .i64 (b0.2.2.1+(IntKind.wrap .i64 (Int.tdiv (IntKind.wrap .i64 ((List.getD b0.2.1.2.2.2.1 (Int.toNat b0.2.2.2.1) 0)*(IntKind.wrap .i64 ((1000:Int) - (List.getD b0.2.1.2.2.2.2.1 (Int.toNat b0.2.2.2.1) 0))))) 1000)))) else b0.2.2.2.2.2.1)))]),((b0.2.2.2.2.2.2.2.2.1.1,((IntKind.wrap .i64 (b0.2.2.2.2.2.2.2.2.1.2.1+(if (IntKind.wrap .i64 (b0.2.2.1+(IntKind.wrap .i64 (Int.tdiv (IntKind.wrap .i64 ((List.getD b0.2.1.2.2.2.1 (Int.toNat b0.2.2.2.1) 0)*(IntKind.wrap .i64 ((1000:Int) - (List.getD b0.2.1.2.2.2.2.1 (Int.toNat b0.2.2.2.1) 0))))) 1000)))) < b0.2.2.2.2.2.1 then (IntKind.wrap .i64 (b0.2.2.1+(IntKind.wrap .i64 (Int.tdiv (IntKind.wrap .i64 ((List.getD b0.2.1.2.2.2.1 (Int.toNat b0.2.2.2.1) 0)*(IntKind.wrap .i64 ((1000:Int) - (List.getD b0.2.1.2.2.2.2.1 (Int.toNat b0.2.2.2.1) 0))))) 1000)))) else b0.2.2.2.2.2.1))),((IntKind.wrap .i64 (b0.2.2.2.2.2.1 - (if (IntKind.wrap .i64 (b0.2.2.1+(IntKind.wrap .i64 (Int.tdiv (IntKind.wrap .i64 ((List.getD b0.2.1.2.2.2.1 (Int.toNat b0.2.2.2.1) 0)*(IntKind.wrap .i64 ((1000:Int) - (List.getD b0.2.1.2.2.2.2.1 (Int.toNat b0.2.2.2.1) 0))))) 1000)))) < b0.2.2.2.2.2.1 then (IntKind.wrap .i64 (b0.2.2.1+(IntKind.wrap .i64 (Int.tdiv (IntKind.wrap .i64 ((List.getD b0.2.1.2.2.2.1 (Int.toNat b0.2.2.2.1) 0)*(IntKind.wrap .i64 ((1000:Int) - (List.getD b0.2.1.2.2.2.2.1 (Int.toNat b0.2.2.2.1) 0))))) 1000)))) else b0.2.2.2.2.2.1))),b0.2.2.2.2.2.2.2.2.1.2.2.2))),b0.2.2.2.2.2.2.2.2.2))))))))),())) else none) else (bif (decide (List.length b0.2.2.2.2.2.2.2.1+List.length [(IntKind.wrap .i64 (b0.2.2.2.2.2.1 - (if (IntKind.wrap .i64 (b0.2.2.1+(IntKind.wrap .i64 (Int.tdiv (IntKind.wrap .i64 ((List.getD b0.2.1.2.2.2.1 (Int.toNat b0.2.2.2.1) 0)*(IntKind.wrap .i64 ((1000:Int) - (List.getD b0.2.1.2.2.2.2.1 (Int.toNat b0.2.2.2.1) 0))))) 1000)))) < b0.2.2.2.2.2.1 then (IntKind.wrap .i64 (b0.2.2.1+(IntKind.wrap .i64 (Int.tdiv (IntKind.wrap .i64 ((List.getD b0.2.1.2.2.2.1 (Int.toNat b0.2.2.2.1) 0)*(IntKind.wrap .i64 ((1000:Int) - (List.getD b0.2.1.2.2.2.2.1 (Int.toNat b0.2.2.2.1) 0))))) 1000)))) else b0.2.2.2.2.2.1)))]≤LIM)) then some ((),((b0.1,(b0.2.1,(b0.2.2.1,(b0.2.2.2.1,(b0.2.2.2.2.1,((IntKind.wrap .i64 (b0.2.2.2.2.2.1 - (if (IntKind.wrap .i64 (b0.2.2.1+(IntKind.wrap .i64 (Int.tdiv (IntKind.wrap .i64 ((List.getD b0.2.1.2.2.2.1 (Int.toNat b0.2.2.2.1) 0)*(IntKind.wrap .i64 ((1000:Int) - (List.getD b0.2.1.2.2.2.2.1 (Int.toNat b0.2.2.2.1) 0))))) 1000)))) < b0.2.2.2.2.2.1 then (IntKind.wrap .i64 (b0.2.2.1+(IntKind.wrap .i64 (Int.tdiv (IntKind.wrap .i64 ((List.getD b0.2.1.2.2.2.1 (Int.toNat b0.2.2.2.1) 0)*(IntKind.wrap .i64 ((1000:Int) - (List.getD b0.2.1.2.2.2.2.1 (Int.toNat b0.2.2.2.1) 0))))) 1000)))) else b0.2.2.2.2.2.1))),(b0.2.2.2.2.2.2.1,((b0.2.2.2.2.2.2.2.1++[(IntKind.wrap .i64 (b0.2.2.2.2.2.1 - (if (IntKind.wrap .i64 (b0.2.2.1+(IntKind.wrap .i64 (Int.tdiv (IntKind.wrap .i64 ((List.getD b0.2.1.2.2.2.1 (Int.toNat b0.2.2.2.1) 0)*(IntKind.wrap .i64 ((1000:Int) - (List.getD b0.2.1.2.2.2.2.1 (Int.toNat b0.2.2.2.1) 0))))) 1000)))) < b0.2.2.2.2.2.1 then (IntKind.wrap .i64 (b0.2.2.1+(IntKind.wrap .i64 (Int.tdiv (IntKind.wrap .i64 ((List.getD b0.2.1.2.2.2.1 (Int.toNat b0.2.2.2.1) 0)*(IntKind.wrap .i64 ((1000:Int) - (List.getD b0.2.1.2.2.2.2.1 (Int.toNat b0.2.2.2.1) 0))))) 1000)))) else b0.2.2.2.2.2.1)))]),((b0.2.2.2.2.2.2.2.2.1.1,((IntKind.wrap .i64 (b0.2.2.2.2.2.2.2.2.1.2.1+(if (IntKind.wrap .i64 (b0.2.2.1+(IntKind.wrap .i64 (Int.tdiv (IntKind.wrap .i64 ((List.getD b0.2.1.2.2.2.1 (Int.toNat b0.2.2.2.1) 0)*(IntKind.wrap .i64 ((1000:Int) - (List.getD b0.2.1.2.2.2.2.1 (Int.toNat b0.2.2.2.1) 0))))) 1000)))) < b0.2.2.2.2.2.1 then (IntKind.wrap .i64 (b0.2.2.1+(IntKind.wrap .i64 (Int.tdiv (IntKind.wrap .i64 ((List.getD b0.2.1.2.2.2.1 (Int.toNat b0.2.2.2.1) 0)*(IntKind.wrap .i64 ((1000:Int) - (List.getD b0.2.1.2.2.2.2.1 (Int.toNat b0.2.2.2.1) 0))))) 1000)))) else b0.2.2.2.2.2.1))),((IntKind.wrap .i64 (b0.2.2.2.2.2.1 - (if (IntKind.wrap .i64 (b0.2.2.1+(IntKind.wrap .i64 (Int.tdiv (IntKind.wrap .i64 ((List.getD b0.2.1.2.2.2.1 (Int.toNat b0.2.2.2.1) 0)*(IntKind.wrap .i64 ((1000:Int) - (List.getD b0.2.1.2.2.2.2.1 (Int.toNat b0.2.2.2.1) 0))))) 1000)))) < b0.2.2.2.2.2.1 then (IntKind.wrap .i64 (b0.2.2.1+(IntKind.wrap .i64 (Int.tdiv (IntKind.wrap .i64 ((List.getD b0.2.1.2.2.2.1 (Int.toNat b0.2.2.2.1) 0)*(IntKind.wrap .i64 ((1000:Int) - (List.getD b0.2.1.2.2.2.2.1 (Int.toNat b0.2.2.2.1) 0))))) 1000)))) else b0.2.2.2.2.2.1))),b0.2.2.2.2.2.2.2.2.1.2.2.2))),b0.2.2.2.2.2.2.2.2.2))))))))),())) else none)) else none) else none)
abbrev G243_CS:CSpec:=⟨[.fix (.bptr 0 [])],[.cons (.dat T25) (.cons (.cons (.dat (.list (.int .i64))) (.cons (.dat (.list (.int .i64))) (.cons (.dat (.list (.int .i64))) (.cons (.dat (.list (.int .i64))) (.cons (.dat (.list (.int .i64))) (.nil)))))) (.cons (.dat (.int .i64)) (.cons (.dat (.int .i64)) (.cons (.dat (.int .i64)) (.cons (.dat (.int .i64)) (.cons (.own 0 (.int .i64)) (.cons (.own 1 (.int .i64)) (.cons (.cons (.dat (.int .i64)) (.cons (.dat (.int .i64)) (.cons (.dat (.int .i64)) (.nil)))) (.nil)))))))))],2,[.cons (.dat T25) (.cons (.cons (.dat (.list (.int .i64))) (.cons (.dat (.list (.int .i64))) (.cons (.dat (.list (.int .i64))) (.cons (.dat (.list (.int .i64))) (.cons (.dat (.list (.int .i64))) (.nil)))))) (.cons (.dat (.int .i64)) (.cons (.dat (.int .i64)) (.cons (.dat (.int .i64)) (.cons (.dat (.int .i64)) (.cons (.own 0 (.int .i64)) (.cons (.own 1 (.int .i64)) (.cons (.cons (.dat (.int .i64)) (.cons (.dat (.int .i64)) (.cons (.dat (.int .i64)) (.nil)))) (.nil)))))))))],2,.tup (.nil)⟩
def G243_E:CEnt:=boxE 243 G243_CS fun x=>G243 x.2.1
theorem G243_LV:LV 1 Tryz.prog false (loopsOf (bodyOf Tryz.f243)) []:=by unfold LV; cases loopsOf (bodyOf Tryz.f243)<;>trivial
theorem G243_ent:Ent Tryz.prog 243:=⟨by decide,enters_of Tryz.func243 (by kernel_rfl) rfl⟩
theorem G243_hev:∀ x:G243_CS.In,fnR Tryz.prog G243_C [] Tryz.f243 (bodyOf Tryz.f243) (encs G243_CS.A x.1) ⟨encs G243_CS.I x.2,[],G243_CS.nt⟩ (finK G243_CS)=G243 x.2.1:=by
  intro x; kernel_rfl
theorem G243_valid:G243_E.Valid Tryz.prog:=
  boxE_valid (S:=G243_CS) (by kernel_rfl) (.inr G243_ent) (fn_lcall (S:=G243_CS) mixed Tryz.func243 rfl G243_ent G243_CV G243_LV (by kernel_rfl) (by kernel_rfl) G243_hev)
def G135_C:CalT:=tabC [G242_E,G243_E]
theorem G135_CV:CV Tryz.prog G135_C:=tabC_valid (l:=_) ⟨G242_valid,G243_valid,trivial⟩
def G135_l0_c:Code:=loopAt (bodyOf Tryz.f135) 0
def G135_l1_c:Code:=loopAt G135_l0_c 0
abbrev PA9:PTy:=(.cons (.cons (.dat (.list (.int .i64))) (.cons (.dat (.list (.int .i64))) (.cons (.dat (.list (.int .i64))) (.cons (.dat (.list (.int .i64))) (.cons (.dat (.list (.int .i64))) (.nil)))))) (.cons (.dat (.int .i64)) (.cons (.dat (.int .i64)) (.cons (.dat (.int .i64)) (.cons (.dat (.int .i64)) (.cons (.own 0 (.int .i64)) (.cons (.own 1 (.int .i64)) (.cons (.cons (.dat (.int .i64)) (.cons (.dat (.int .i64)) (.cons (.dat (.int .i64)) (.nil)))) (.nil)))))))))
def G135_l1_S:SPat:=⟨[.fix (.bptr 0 []),.any,.any,.any,.any,.any,.any,.any,.any,.any,.dat (.int .i64),.dat (.int .i64),.any,.any,.any,.any,.any,.any,.any,.any,.any,.cons (.fix (.func (.func 242) (.cons (.bptr 0 []) .nil) .nil)) (.cons (.fix (.func (.func 243) (.cons (.bptr 0 []) .nil) .nil)) (.nil)),.dat (.int .i64),.any,.any,.any,.any,.any,.any,.any],[.cons (.dat T25) PA9],2⟩
abbrev TY10:Type:=((Int×(Int×((Unit×(Unit×Unit))×(Int×Unit))))×((E25×(((List Int)×((List Int)×((List Int)×((List Int)×((List Int)×Unit)))))×(Int×(Int×(Int×(Int×((List Int)×((List Int)×((Int×(Int×(Int×Unit)))×Unit)))))))))×Unit))
abbrev TY11:Type:=(Nat×((Int×(Int×((Unit×(Unit×Unit))×(Int×Unit))))×((E25×(((List Int)×((List Int)×((List Int)×((List Int)×((List Int)×Unit)))))×(Int×(Int×(Int×(Int×((List Int)×((List Int)×((Int×(Int×(Int×Unit)))×Unit)))))))))×Unit)))
def G135_l1_step (s:TY10):Option TY11:=(bif (decide (s.1.2.2.2.1 < 2)) then (bif (decide (s.1.2.2.2.1=(0:Int))) then (Option.bind (G242 s.2.1) fun r1=>some (0,((s.1.1,(s.1.2.1,(((),((),s.1.2.2.1.2.2)),((IntKind.wrap .i64 (s.1.2.2.2.1+1)),())))),(r1.2.1,())))) else (bif (decide (s.1.2.2.2.1=(1:Int))) then (Option.bind (G243 s.2.1) fun r2=>some (0,((s.1.1,(s.1.2.1,(((),((),s.1.2.2.1.2.2)),((IntKind.wrap .i64 (s.1.2.2.2.1+1)),())))),(r2.2.1,())))) else none)) else some (1,((s.1.1,(s.1.2.1,(((),((),s.1.2.2.1.2.2)),(s.1.2.2.2.1,())))),(s.2.1,()))))
def G135_l1_fuel (s:TY10):Nat:=Int.toNat (2 - s.1.2.2.2.1)+1
def G135_l1_run (s:TY10):Option TY11:=iter G135_l1_step (G135_l1_fuel s) s
def G135_l1_L:LoopT:=loopT G135_l1_S [.exit 2] G135_l1_run
def G135_l0_S:SPat:=⟨[.fix (.bptr 0 []),.any,.any,.any,.any,.any,.any,.any,.any,.any,.dat (.int .i64),.dat (.int .i64),.any,.any,.any,.any,.any,.any,.any,.any,.any,.any,.any,.any,.any,.any,.any,.any,.any,.any],[.cons (.dat T25) PA9],2⟩
abbrev TY12:Type:=((Int×(Int×Unit))×((E25×(((List Int)×((List Int)×((List Int)×((List Int)×((List Int)×Unit)))))×(Int×(Int×(Int×(Int×((List Int)×((List Int)×((Int×(Int×(Int×Unit)))×Unit)))))))))×Unit))
abbrev TY13:Type:=(Nat×((Int×(Int×Unit))×((E25×(((List Int)×((List Int)×((List Int)×((List Int)×((List Int)×Unit)))))×(Int×(Int×(Int×(Int×((List Int)×((List Int)×((Int×(Int×(Int×Unit)))×Unit)))))))))×Unit)))
def G135_l0_step (s:TY12):Option TY13:=(bif (decide (s.1.2.1 < s.1.1)) then (Option.bind (G135_l1_run ((s.1.1,(s.1.2.1,(((),((),())),(0,())))),((s.2.1.1,(s.2.1.2.1,(s.2.1.2.2.1,(s.1.2.1,s.2.1.2.2.2.2)))),()))) fun q3=>some (0,((q3.2.1.1,((IntKind.wrap .i64 (q3.2.1.2.1+1)),())),(q3.2.2.1,())))) else some (1,((s.1.1,(s.1.2.1,())),(s.2.1,()))))
def G135_l0_fuel (s:TY12):Nat:=Int.toNat (s.1.1 - s.1.2.1)+1
def G135_l0_run (s:TY12):Option TY13:=iter G135_l0_step (G135_l0_fuel s) s
def G135_l0_L:LoopT:=loopT G135_l0_S [.exit 0] G135_l0_run
def G135 (b0:TY7):Option TY8:=(Option.bind (G135_l0_run (((List.length b0.2.1.2.2.1:Int),(0,())),(b0,()))) fun q4=>some ((),(q4.2.2.1,())))
abbrev G135_CS:CSpec:=⟨[.fix (.bptr 0 [])],[.cons (.dat T25) (.cons (.cons (.dat (.list (.int .i64))) (.cons (.dat (.list (.int .i64))) (.cons (.dat (.list (.int .i64))) (.cons (.dat (.list (.int .i64))) (.cons (.dat (.list (.int .i64))) (.nil)))))) (.cons (.dat (.int .i64)) (.cons (.dat (.int .i64)) (.cons (.dat (.int .i64)) (.cons (.dat (.int .i64)) (.cons (.own 0 (.int .i64)) (.cons (.own 1 (.int .i64)) (.cons (.cons (.dat (.int .i64)) (.cons (.dat (.int .i64)) (.cons (.dat (.int .i64)) (.nil)))) (.nil)))))))))],2,[.cons (.dat T25) (.cons (.cons (.dat (.list (.int .i64))) (.cons (.dat (.list (.int .i64))) (.cons (.dat (.list (.int .i64))) (.cons (.dat (.list (.int .i64))) (.cons (.dat (.list (.int .i64))) (.nil)))))) (.cons (.dat (.int .i64)) (.cons (.dat (.int .i64)) (.cons (.dat (.int .i64)) (.cons (.dat (.int .i64)) (.cons (.own 0 (.int .i64)) (.cons (.own 1 (.int .i64)) (.cons (.cons (.dat (.int .i64)) (.cons (.dat (.int .i64)) (.cons (.dat (.int .i64)) (.nil)))) (.nil)))))))))],2,.fix (.bptr 0 [])⟩
def G135_E:CEnt:=boxE 135 G135_CS fun x=>G135 x.2.1
theorem G135_l1_V:LValid 1 Tryz.prog (.loop G135_l1_c) G135_l1_L false:=by
  have hb:∀ s,codeR Tryz.prog G135_C G135_l1_c [] (G135_l1_S.encE s) (G135_l1_S.encB s) (kst G135_l1_S [.exit 2])=G135_l1_step s:=by
    intro s; kernel_rfl
  have hL:LV 1 Tryz.prog false (loopsOf G135_l1_c) []:=by unfold LV; cases loopsOf G135_l1_c<;>trivial
  exact loopT_valid (fuel:=G135_l1_fuel) mixed G135_CV hL (by kernel_rfl) (by decide) rfl hb (fun s r h=>h)
theorem G135_l0_V:LValid 1 Tryz.prog (.loop G135_l0_c) G135_l0_L false:=by
  have hb:∀ s,codeR Tryz.prog G135_C G135_l0_c [G135_l1_L] (G135_l0_S.encE s) (G135_l0_S.encB s) (kst G135_l0_S [.exit 0])=G135_l0_step s:=by
    intro s; kernel_rfl
  have hl:loopsOf G135_l0_c=[.loop G135_l1_c]:=by kernel_rfl
  have hL:LV 1 Tryz.prog false (loopsOf G135_l0_c) [G135_l1_L]:=by rw [hl]; exact ⟨G135_l1_V,trivial⟩
  exact loopT_valid (fuel:=G135_l0_fuel) mixed G135_CV hL (by kernel_rfl) (by decide) rfl hb (fun s r h=>h)
theorem G135_LV:LV 1 Tryz.prog false (loopsOf (bodyOf Tryz.f135)) [G135_l0_L]:=by
  have hl:loopsOf (bodyOf Tryz.f135)=[.loop G135_l0_c]:=by kernel_rfl
  rw [hl]; exact ⟨G135_l0_V,trivial⟩
theorem G135_ent:Ent Tryz.prog 135:=⟨by decide,enters_of Tryz.func135 (by kernel_rfl) rfl⟩
theorem G135_hev:∀ x:G135_CS.In,fnR Tryz.prog G135_C [G135_l0_L] Tryz.f135 (bodyOf Tryz.f135) (encs G135_CS.A x.1) ⟨encs G135_CS.I x.2,[],G135_CS.nt⟩ (finK G135_CS)=G135 x.2.1:=by
  intro x; kernel_rfl
theorem G135_valid:G135_E.Valid Tryz.prog:=
  boxE_valid (S:=G135_CS) (by kernel_rfl) (.inr G135_ent) (fn_lcall (S:=G135_CS) mixed Tryz.func135 rfl G135_ent G135_CV G135_LV (by kernel_rfl) (by kernel_rfl) G135_hev)
def G180_C:CalT:=tabC [G281_E,G283_E,G283_v1_E,G283_v2_E,G283_v3_E,G135_E]
theorem G180_CV:CV Tryz.prog G180_C:=tabC_valid (l:=_) ⟨G281_valid,G283_valid,G283_v1_valid,G283_v2_valid,G283_v3_valid,G135_valid,trivial⟩
def G180 (a0:E25) (a1:(List E73)) (a2:Int):Option E172:=(Option.bind (G281 a0.1) fun r1=>(Option.bind (G283 a1 a0) fun r2=>(Option.bind (G283_v1 a1) fun r3=>(Option.bind (G283_v2 a1) fun r4=>(Option.bind (G283_v3 a1) fun r5=>(Option.bind (G135 (r2.2.1,((r1.1,(r2.1,(r3.1,(r4.1,(r5.1,()))))),(a2,(0,(0,(0,([],([],((0,(0,(0,()))),())))))))))) fun r6=>some r6.2.1))))))
def G180_E:CEnt:=pureE 180 [.dat T25,.dat (.list T73),.fix (.func (.func 181) .nil .nil),.fix (.func (.func 182) .nil .nil),.dat (.int .i64)] (.ip T172) fun x=>G180 x.1 x.2.1 x.2.2.1
theorem G180_LV:LV 0 Tryz.prog false (loopsOf (bodyOf Tryz.f180)) []:=by unfold LV; cases loopsOf (bodyOf Tryz.f180)<;>trivial
theorem G180_ent:Ent Tryz.prog 180:=⟨by decide,enters_of Tryz.func180 (by kernel_rfl) rfl⟩
theorem G180_hev:∀ x,fnR Tryz.prog G180_C [] Tryz.f180 (bodyOf Tryz.f180) (encs [.dat T25,.dat (.list T73),.fix (.func (.func 181) .nil .nil),.fix (.func (.func 182) .nil .nil),.dat (.int .i64)] x) ⟨[],[],0⟩ (frzF (.ip T172))=G180 x.1 x.2.1 x.2.2.1:=by
  intro x; kernel_rfl
theorem G180_valid:G180_E.Valid Tryz.prog:=
  pureE_valid (by kernel_rfl) (by kernel_rfl) G180_ent (frz_lcall mixed Tryz.func180 rfl G180_ent G180_CV G180_LV (by kernel_rfl) (by kernel_rfl) G180_hev)
def G67_C:CalT:=tabC [G180_E]
theorem G67_CV:CV Tryz.prog G67_C:=tabC_valid (l:=_) ⟨G180_valid,trivial⟩
def G67 (a0:E25) (a1:(List E73)) (a2:Int):Option E172:=(Option.bind (G180 a0 a1 a2) fun r1=>some r1)
def G67_E:CEnt:=pureE 67 [.dat T25,.dat (.list T73),.dat (.int .i64)] (.ip T172) fun x=>G67 x.1 x.2.1 x.2.2.1
theorem G67_LV:LV 0 Tryz.prog false (loopsOf (bodyOf Tryz.f67)) []:=by unfold LV; cases loopsOf (bodyOf Tryz.f67)<;>trivial
theorem G67_ent:Ent Tryz.prog 67:=⟨by decide,enters_of Tryz.func67 (by kernel_rfl) rfl⟩
theorem G67_hev:∀ x,fnR Tryz.prog G67_C [] Tryz.f67 (bodyOf Tryz.f67) (encs [.dat T25,.dat (.list T73),.dat (.int .i64)] x) ⟨[],[],0⟩ (frzF (.ip T172))=G67 x.1 x.2.1 x.2.2.1:=by
  intro x; kernel_rfl
theorem G67_valid:G67_E.Valid Tryz.prog:=
  pureE_valid (by kernel_rfl) (by kernel_rfl) G67_ent (frz_lcall mixed Tryz.func67 rfl G67_ent G67_CV G67_LV (by kernel_rfl) (by kernel_rfl) G67_hev)
def G179_C:CalT:=tabC []
theorem G179_CV:CV Tryz.prog G179_C:=tabC_valid (l:=_) trivial
def G179 (a0:Int) (b1:Int):Option (Bool×(Int×Unit)):=some ((decide (a0 > b1)),(b1,()))
abbrev G179_CS:CSpec:=⟨[.dat (.int .i64),.fix (.bptr 0 [])],[.dat (.int .i64)],0,[.dat (.int .i64)],0,.dat .bool⟩
def G179_E:CEnt:=boxE 179 G179_CS fun x=>G179 x.1.1 x.2.1
theorem G179_LV:LV 1 Tryz.prog false (loopsOf (bodyOf Tryz.f179)) []:=by unfold LV; cases loopsOf (bodyOf Tryz.f179)<;>trivial
theorem G179_ent:Ent Tryz.prog 179:=⟨by decide,enters_of Tryz.func179 (by kernel_rfl) rfl⟩
theorem G179_hev:∀ x:G179_CS.In,fnR Tryz.prog G179_C [] Tryz.f179 (bodyOf Tryz.f179) (encs G179_CS.A x.1) ⟨encs G179_CS.I x.2,[],G179_CS.nt⟩ (finK G179_CS)=G179 x.1.1 x.2.1:=by
  intro x; kernel_rfl
theorem G179_valid:G179_E.Valid Tryz.prog:=
  boxE_valid (S:=G179_CS) (by kernel_rfl) (.inr G179_ent) (fn_lcall (S:=G179_CS) mixed Tryz.func179 rfl G179_ent G179_CV G179_LV (by kernel_rfl) (by kernel_rfl) G179_hev)
def G178_C:CalT:=tabC [G179_E]
theorem G178_CV:CV Tryz.prog G178_C:=tabC_valid (l:=_) ⟨G179_valid,trivial⟩
def G178_l0_c:Code:=loopAt (bodyOf Tryz.f178) 0
def G178_l0_S:SPat:=⟨[.dat (.list (.int .i64)),.fix (.func (.func 179) .nil (.cons (.bptr 0 []) .nil)),.any,.any,.dat (.int .i64),.any,.any,.dat (.int .i64),.dat (.int .i64),.any,.any,.any,.any,.any,.any,.any,.any,.any,.any],[.dat (.int .i64)],0⟩
def G178_l0_step (s:(((List Int)×(Int×(Int×(Int×Unit))))×(Int×Unit))):Option (Nat×(((List Int)×(Int×(Int×(Int×Unit))))×(Int×Unit))):=(bif (decide (s.1.2.2.2.1 < s.1.2.2.1)) then (bif (decide (0≤s.1.2.2.2.1)&&decide (s.1.2.2.2.1 < (List.length s.1.1:Int))) then (Option.bind (G179 (List.getD s.1.1 (Int.toNat s.1.2.2.2.1) 0) s.2.1) fun r1=>(bif r1.1 then some (1,((s.1.1,(s.1.2.2.2.1,(s.1.2.2.1,(s.1.2.2.2.1,())))),(r1.2.1,()))) else some (0,((s.1.1,(s.1.2.1,(s.1.2.2.1,((IntKind.wrap .i64 (s.1.2.2.2.1+1)),())))),(r1.2.1,()))))) else none) else some (2,((s.1.1,(s.1.2.1,(s.1.2.2.1,(s.1.2.2.2.1,())))),(s.2.1,()))))
def G178_l0_fuel (s:(((List Int)×(Int×(Int×(Int×Unit))))×(Int×Unit))):Nat:=Int.toNat (s.1.2.2.1 - s.1.2.2.2.1)+1
def G178_l0_run (s:(((List Int)×(Int×(Int×(Int×Unit))))×(Int×Unit))):Option (Nat×(((List Int)×(Int×(Int×(Int×Unit))))×(Int×Unit))):=iter G178_l0_step (G178_l0_fuel s) s
def G178_l0_L:LoopT:=loopT G178_l0_S [.ret,.exit 0] G178_l0_run
def G178 (a0:(List Int)) (b1:Int):Option (Int×(Int×Unit)):=(Option.bind (G178_l0_run ((a0,(0,((List.length a0:Int),(0,())))),(b1,()))) fun q2=>(natK q2.1 (some (q2.2.1.2.1,(q2.2.2.1,()))) (fun _=>some ((-1),(q2.2.2.1,())))))
abbrev G178_CS:CSpec:=⟨[.dat (.list (.int .i64)),.fix (.func (.func 179) .nil (.cons (.bptr 0 []) .nil))],[.dat (.int .i64)],0,[.dat (.int .i64)],0,.dat (.int .i64)⟩
def G178_E:CEnt:=boxE 178 G178_CS fun x=>G178 x.1.1 x.2.1
theorem G178_l0_V:LValid 1 Tryz.prog (.loop G178_l0_c) G178_l0_L false:=by
  have hb:∀ s,codeR Tryz.prog G178_C G178_l0_c [] (G178_l0_S.encE s) (G178_l0_S.encB s) (kst G178_l0_S [.ret,.exit 0])=G178_l0_step s:=by
    intro s; kernel_rfl
  have hL:LV 1 Tryz.prog false (loopsOf G178_l0_c) []:=by unfold LV; cases loopsOf G178_l0_c<;>trivial
  exact loopT_valid (fuel:=G178_l0_fuel) mixed G178_CV hL (by kernel_rfl) (by decide) rfl hb (fun s r h=>h)
theorem G178_LV:LV 1 Tryz.prog false (loopsOf (bodyOf Tryz.f178)) [G178_l0_L]:=by
  have hl:loopsOf (bodyOf Tryz.f178)=[.loop G178_l0_c]:=by kernel_rfl
  rw [hl]; exact ⟨G178_l0_V,trivial⟩
theorem G178_ent:Ent Tryz.prog 178:=⟨by decide,enters_of Tryz.func178 (by kernel_rfl) rfl⟩
theorem G178_hev:∀ x:G178_CS.In,fnR Tryz.prog G178_C [G178_l0_L] Tryz.f178 (bodyOf Tryz.f178) (encs G178_CS.A x.1) ⟨encs G178_CS.I x.2,[],G178_CS.nt⟩ (finK G178_CS)=G178 x.1.1 x.2.1:=by
  intro x; kernel_rfl
theorem G178_valid:G178_E.Valid Tryz.prog:=
  boxE_valid (S:=G178_CS) (by kernel_rfl) (.inr G178_ent) (fn_lcall (S:=G178_CS) mixed Tryz.func178 rfl G178_ent G178_CV G178_LV (by kernel_rfl) (by kernel_rfl) G178_hev)
def G66_C:CalT:=tabC [G178_E]
theorem G66_CV:CV Tryz.prog G66_C:=tabC_valid (l:=_) ⟨G178_valid,trivial⟩
def G66 (a0:(List Int)) (a1:Int):Option Int:=(Option.bind (G178 a0 a1) fun r1=>(bif (decide (r1.1≥0)) then some r1.1 else some (List.length a0:Int)))
def G66_E:CEnt:=pureE 66 [.dat (.list (.int .i64)),.dat (.int .i64)] (.dat (.int .i64)) fun x=>G66 x.1 x.2.1
theorem G66_LV:LV 0 Tryz.prog false (loopsOf (bodyOf Tryz.f66)) []:=by unfold LV; cases loopsOf (bodyOf Tryz.f66)<;>trivial
theorem G66_ent:Ent Tryz.prog 66:=⟨by decide,enters_of Tryz.func66 (by kernel_rfl) rfl⟩
theorem G66_hev:∀ x,fnR Tryz.prog G66_C [] Tryz.f66 (bodyOf Tryz.f66) (encs [.dat (.list (.int .i64)),.dat (.int .i64)] x) ⟨[],[],0⟩ (frzF (.dat (.int .i64)))=G66 x.1 x.2.1:=by
  intro x; kernel_rfl
theorem G66_valid:G66_E.Valid Tryz.prog:=
  pureE_valid (by kernel_rfl) (by kernel_rfl) G66_ent (frz_lcall mixed Tryz.func66 rfl G66_ent G66_CV G66_LV (by kernel_rfl) (by kernel_rfl) G66_hev)
def G222_C:CalT:=tabC [G67_E,G66_E]
theorem G222_CV:CV Tryz.prog G222_C:=tabC_valid (l:=_) ⟨G67_valid,G66_valid,trivial⟩
def G222 (a0:Int) (b1:E25) (b2:(List E73)) (b3:Int):Option (Bool×(E25×((List E73)×(Int×Unit)))):=(Option.bind (G67 b1 b2 a0) fun r1=>(Option.bind (G66 r1.2.2.2.2.2.2.1 b3) fun r2=>some ((r2==(List.length b2:Int)),(b1,(b2,(b3,()))))))
abbrev G222_CS:CSpec:=⟨[.dat (.int .i64),.fix (.bptr 0 []),.fix (.bptr 1 []),.fix (.bptr 2 [])],[.dat T25,.dat (.list T73),.dat (.int .i64)],0,[.dat T25,.dat (.list T73),.dat (.int .i64)],0,.dat .bool⟩
def G222_E:CEnt:=boxE 222 G222_CS fun x=>G222 x.1.1 x.2.1 x.2.2.1 x.2.2.2.1
theorem G222_LV:LV 3 Tryz.prog false (loopsOf (bodyOf Tryz.f222)) []:=by unfold LV; cases loopsOf (bodyOf Tryz.f222)<;>trivial
theorem G222_ent:Ent Tryz.prog 222:=⟨by decide,enters_of Tryz.func222 (by kernel_rfl) rfl⟩
theorem G222_hev:∀ x:G222_CS.In,fnR Tryz.prog G222_C [] Tryz.f222 (bodyOf Tryz.f222) (encs G222_CS.A x.1) ⟨encs G222_CS.I x.2,[],G222_CS.nt⟩ (finK G222_CS)=G222 x.1.1 x.2.1 x.2.2.1 x.2.2.2.1:=by
  intro x; kernel_rfl
theorem G222_valid:G222_E.Valid Tryz.prog:=
  boxE_valid (S:=G222_CS) (by kernel_rfl) (.inr G222_ent) (fn_lcall (S:=G222_CS) mixed Tryz.func222 rfl G222_ent G222_CV G222_LV (by kernel_rfl) (by kernel_rfl) G222_hev)
def G183_C:CalT:=tabC [G222_E]
theorem G183_CV:CV Tryz.prog G183_C:=tabC_valid (l:=_) ⟨G222_valid,trivial⟩
def G183 (a0:Int) (b1:(List (Int×Bool))) (b2:E25) (b3:(List E73)) (b4:Int):Option (Bool×((List (Int×Bool))×(E25×((List E73)×(Int×Unit))))):=(bif (!(Option.isSome (findD (.int .i64) a0 b1))) then (Option.bind (G222 a0 b2 b3 b4) fun r1=>some (r1.1,((putD (.int .i64) a0 r1.1 b1),(r1.2.1,(r1.2.2.1,(r1.2.2.2.1,())))))) else some ((Option.getD (findD (.int .i64) a0 b1) false),(b1,(b2,(b3,(b4,()))))))
abbrev G183_CS:CSpec:=⟨[.dat (.int .i64),.fix (.bptr 0 []),.fix (.bptr 1 [])],[.fix (.mref 2),.fix (.func (.func 222) .nil (.cons (.bptr 3 []) (.cons (.bptr 4 []) (.cons (.bptr 5 []) .nil)))),.map (.int .i64) .bool,.dat T25,.dat (.list T73),.dat (.int .i64)],0,[.fix (.mref 2),.fix (.func (.func 222) .nil (.cons (.bptr 3 []) (.cons (.bptr 4 []) (.cons (.bptr 5 []) .nil)))),.map (.int .i64) .bool,.dat T25,.dat (.list T73),.dat (.int .i64)],0,.dat .bool⟩
def G183_E:CEnt:=boxE 183 G183_CS fun x=>G183 x.1.1 x.2.1 x.2.2.1 x.2.2.2.1 x.2.2.2.2.1
theorem G183_LV:LV 6 Tryz.prog false (loopsOf (bodyOf Tryz.f183)) []:=by unfold LV; cases loopsOf (bodyOf Tryz.f183)<;>trivial
theorem G183_ent:Ent Tryz.prog 183:=⟨by decide,enters_of Tryz.func183 (by kernel_rfl) rfl⟩
theorem G183_hev:∀ x:G183_CS.In,fnR Tryz.prog G183_C [] Tryz.f183 (bodyOf Tryz.f183) (encs G183_CS.A x.1) ⟨encs G183_CS.I x.2,[],G183_CS.nt⟩ (finK G183_CS)=G183 x.1.1 x.2.1 x.2.2.1 x.2.2.2.1 x.2.2.2.2.1:=by
  intro x; kernel_rfl
theorem G183_valid:G183_E.Valid Tryz.prog:=
  boxE_valid (S:=G183_CS) (by kernel_rfl) (.inr G183_ent) (fn_lcall (S:=G183_CS) mixed Tryz.func183 rfl G183_ent G183_CV G183_LV (by kernel_rfl) (by kernel_rfl) G183_hev)
end Go.Proofs.YtkeipcalbbmncaaGreat.Abs
end
