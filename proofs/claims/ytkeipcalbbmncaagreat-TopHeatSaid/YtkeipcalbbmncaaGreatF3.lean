import Derived.Test.YtkeipcalbbmncaaGreatF2
import Derived.Test.YtkeipcalbbmncaaGreatX1
noncomputable section
set_option linter.unusedVariables false
set_option maxRecDepth 100000
namespace Go.Proofs.YtkeipcalbbmncaaGreat.Abs
open Go.Shelf
def G129_C:CalT:=tabC []
theorem G129_CV:CV Tryz.prog G129_C:=tabC_valid (l:=_) trivial
def G129 (a0:E178):Option E23:=some a0.2.1
def G129_E:CEnt:=pureE 129 [.dat T178] (.dat T23) fun x=>G129 x.1
theorem G129_LV:LV 0 Tryz.prog false (loopsOf (bodyOf Tryz.f129)) []:=by unfold LV; cases loopsOf (bodyOf Tryz.f129)<;>trivial
theorem G129_ent:Ent Tryz.prog 129:=⟨by decide,enters_of Tryz.func129 (by kernel_rfl) rfl⟩
theorem G129_hev:∀ x,fnR Tryz.prog G129_C [] Tryz.f129 (bodyOf Tryz.f129) (encs [.dat T178] x) ⟨[],[],0⟩ (frzF (.dat T23))=G129 x.1:=by
  intro x; kernel_rfl
theorem G129_valid:G129_E.Valid Tryz.prog:=
  pureE_valid (by kernel_rfl) (by kernel_rfl) G129_ent (frz_lcall mixed Tryz.func129 rfl G129_ent G129_CV G129_LV (by kernel_rfl) (by kernel_rfl) G129_hev)
def G128_C:CalT:=tabC [G129_E,G177_E]
theorem G128_CV:CV Tryz.prog G128_C:=tabC_valid (l:=_) ⟨G129_valid,G177_valid,trivial⟩
def G128_l0_c:Code:=loopAt (bodyOf Tryz.f128) 0
def G128_l0_S:SPat:=⟨[.any,.dat (.list T178),.fix (.func (.func 129) .nil .nil),.any,.any,.any,.dat .bool,.any,.any,.any,.any,.any,.any,.any,.any,.dat (.list (.int .i64)),.dat (.int .i64),.dat (.int .i64),.any,.any,.any,.any,.any,.any,.any,.any,.any,.any,.any,.any,.any,.any,.any,.any,.any,.any],[],0⟩
abbrev TY40:Type:=(Nat×(((List E178)×(Bool×((List Int)×(Int×(Int×Unit)))))×Unit))
def G128_l0_step (s:(((List E178)×(Bool×((List Int)×(Int×(Int×Unit)))))×Unit)):Option TY40:=(bif (decide (s.1.2.2.2.2.1 < s.1.2.2.2.1)) then (bif (decide (0≤s.1.2.2.2.2.1)&&decide (s.1.2.2.2.2.1 < (List.length s.1.2.2.1:Int))) then (bif (decide (0≤s.1.2.2.2.2.1)&&decide (s.1.2.2.2.2.1 < (List.length s.1.1:Int))) then (Option.bind (G129 (List.getD s.1.1 (Int.toNat s.1.2.2.2.2.1) (0,((0,(0,())),())))) fun r1=>(Option.bind (G177 (List.getD s.1.2.2.1 (Int.toNat s.1.2.2.2.2.1) 0) r1.1 r1.2.1) fun r2=>(bif (!r2) then some (1,((s.1.1,(false,(s.1.2.2.1,(s.1.2.2.2.1,(s.1.2.2.2.2.1,()))))),())) else some (0,((s.1.1,(s.1.2.1,(s.1.2.2.1,(s.1.2.2.2.1,((IntKind.wrap .i64 (s.1.2.2.2.2.1+1)),()))))),()))))) else none) else none) else some (2,((s.1.1,(s.1.2.1,(s.1.2.2.1,(s.1.2.2.2.1,(s.1.2.2.2.2.1,()))))),())))
def G128_l0_fuel (s:(((List E178)×(Bool×((List Int)×(Int×(Int×Unit)))))×Unit)):Nat:=Int.toNat (s.1.2.2.2.1 - s.1.2.2.2.2.1)+1
def G128_l0_run (s:(((List E178)×(Bool×((List Int)×(Int×(Int×Unit)))))×Unit)):Option TY40:=iter G128_l0_step (G128_l0_fuel s) s
def G128_l0_L:LoopT:=loopT G128_l0_S [.ret,.exit 0] G128_l0_run
def G128 (a0:(List Int)) (a1:(List E178)):Option Bool:=(bif ((List.length a0:Int) != (List.length a1:Int)) then some false else (Option.bind (G128_l0_run ((a1,(false,(a0,((List.length a0:Int),(0,()))))),())) fun q3=>(natK q3.1 (some q3.2.1.2.1) (fun _=>some true))))
def G128_E:CEnt:=pureE 128 [.dat (.list (.int .i64)),.dat (.list T178),.fix (.func (.func 129) .nil .nil)] (.dat .bool) fun x=>G128 x.1 x.2.1
theorem G128_l0_V:LValid 0 Tryz.prog (.loop G128_l0_c) G128_l0_L false:=by
  exact loopT_valid (fuel:=G128_l0_fuel) mixed G128_CV (lvNil _) (by kernel_rfl) (by decide) rfl (by intro s; kernel_rfl) (fun s r h=>h)
theorem G128_LV:LV 0 Tryz.prog false (loopsOf (bodyOf Tryz.f128)) [G128_l0_L]:=by
  have hl:loopsOf (bodyOf Tryz.f128)=[.loop G128_l0_c]:=by kernel_rfl
  rw [hl]; exact ⟨G128_l0_V,trivial⟩
theorem G128_ent:Ent Tryz.prog 128:=⟨by decide,enters_of Tryz.func128 (by kernel_rfl) rfl⟩
theorem G128_hev:∀ x,fnR Tryz.prog G128_C [G128_l0_L] Tryz.f128 (bodyOf Tryz.f128) (encs [.dat (.list (.int .i64)),.dat (.list T178),.fix (.func (.func 129) .nil .nil)] x) ⟨[],[],0⟩ (frzF (.dat .bool))=G128 x.1 x.2.1:=by
  intro x; kernel_rfl
theorem G128_valid:G128_E.Valid Tryz.prog:=
  pureE_valid (by kernel_rfl) (by kernel_rfl) G128_ent (frz_lcall mixed Tryz.func128 rfl G128_ent G128_CV G128_LV (by kernel_rfl) (by kernel_rfl) G128_hev)
def G131_C:CalT:=tabC []
theorem G131_CV:CV Tryz.prog G131_C:=tabC_valid (l:=_) trivial
def G131 (a0:E73) (b1:E25):Option (E23×(E25×Unit)):=some (b1.2.1,(b1,()))
abbrev G131_CS:CSpec:=⟨[.dat T73,.fix (.bptr 0 [])],[.dat T25],0,[.dat T25],0,.dat T23⟩
def G131_E:CEnt:=boxE 131 G131_CS fun x=>G131 x.1.1 x.2.1
theorem G131_LV:LV 1 Tryz.prog false (loopsOf (bodyOf Tryz.f131)) []:=by unfold LV; cases loopsOf (bodyOf Tryz.f131)<;>trivial
theorem G131_ent:Ent Tryz.prog 131:=⟨by decide,enters_of Tryz.func131 (by kernel_rfl) rfl⟩
theorem G131_hev:∀ x:G131_CS.In,fnR Tryz.prog G131_C [] Tryz.f131 (bodyOf Tryz.f131) (encs G131_CS.A x.1) ⟨encs G131_CS.I x.2,[],G131_CS.nt⟩ (finK G131_CS)=G131 x.1.1 x.2.1:=by
  intro x; kernel_rfl
theorem G131_valid:G131_E.Valid Tryz.prog:=
  boxE_valid (S:=G131_CS) (by kernel_rfl) (.inr G131_ent) (fn_lcall (S:=G131_CS) mixed Tryz.func131 rfl G131_ent G131_CV G131_LV (by kernel_rfl) (by kernel_rfl) G131_hev)
def G130_C:CalT:=tabC [G131_E,G177_E]
theorem G130_CV:CV Tryz.prog G130_C:=tabC_valid (l:=_) ⟨G131_valid,G177_valid,trivial⟩
def G130_l0_c:Code:=loopAt (bodyOf Tryz.f130) 0
def G130_l0_S:SPat:=⟨[.any,.dat (.list T73),.fix (.func (.func 131) .nil (.cons (.bptr 0 []) .nil)),.any,.any,.any,.dat .bool,.any,.any,.any,.any,.any,.any,.any,.any,.dat (.list (.int .i64)),.dat (.int .i64),.dat (.int .i64),.any,.any,.any,.any,.any,.any,.any,.any,.any,.any,.any,.any,.any,.any,.any,.any,.any,.any],[.dat T25],0⟩
abbrev TY41:Type:=(((List E73)×(Bool×((List Int)×(Int×(Int×Unit)))))×(E25×Unit))
abbrev TY42:Type:=(Nat×(((List E73)×(Bool×((List Int)×(Int×(Int×Unit)))))×(E25×Unit)))
def G130_l0_step (s:TY41):Option TY42:=(bif (decide (s.1.2.2.2.2.1 < s.1.2.2.2.1)) then (bif (decide (0≤s.1.2.2.2.2.1)&&decide (s.1.2.2.2.2.1 < (List.length s.1.2.2.1:Int))) then (bif (decide (0≤s.1.2.2.2.2.1)&&decide (s.1.2.2.2.2.1 < (List.length s.1.1:Int))) then (Option.bind (G131 (List.getD s.1.1 (Int.toNat s.1.2.2.2.2.1) ((0,(0,())),((0,(0,())),((0,(0,())),())))) s.2.1) fun r1=>(Option.bind (G177 (List.getD s.1.2.2.1 (Int.toNat s.1.2.2.2.2.1) 0) r1.1.1 r1.1.2.1) fun r2=>(bif (!r2) then some (1,((s.1.1,(false,(s.1.2.2.1,(s.1.2.2.2.1,(s.1.2.2.2.2.1,()))))),(r1.2.1,()))) else some (0,((s.1.1,(s.1.2.1,(s.1.2.2.1,(s.1.2.2.2.1,((IntKind.wrap .i64 (s.1.2.2.2.2.1+1)),()))))),(r1.2.1,())))))) else none) else none) else some (2,((s.1.1,(s.1.2.1,(s.1.2.2.1,(s.1.2.2.2.1,(s.1.2.2.2.2.1,()))))),(s.2.1,()))))
def G130_l0_fuel (s:TY41):Nat:=Int.toNat (s.1.2.2.2.1 - s.1.2.2.2.2.1)+1
def G130_l0_run (s:TY41):Option TY42:=iter G130_l0_step (G130_l0_fuel s) s
def G130_l0_L:LoopT:=loopT G130_l0_S [.ret,.exit 0] G130_l0_run
def G130 (a0:(List Int)) (a1:(List E73)) (b2:E25):Option (Bool×(E25×Unit)):=(bif ((List.length a0:Int) != (List.length a1:Int)) then some (false,(b2,())) else (Option.bind (G130_l0_run ((a1,(false,(a0,((List.length a0:Int),(0,()))))),(b2,()))) fun q3=>(natK q3.1 (some (q3.2.1.2.1,(q3.2.2.1,()))) (fun _=>some (true,(q3.2.2.1,()))))))
abbrev G130_CS:CSpec:=⟨[.dat (.list (.int .i64)),.dat (.list T73),.fix (.func (.func 131) .nil (.cons (.bptr 0 []) .nil))],[.dat T25],0,[.dat T25],0,.dat .bool⟩
def G130_E:CEnt:=boxE 130 G130_CS fun x=>G130 x.1.1 x.1.2.1 x.2.1
theorem G130_l0_V:LValid 1 Tryz.prog (.loop G130_l0_c) G130_l0_L false:=by
  have hb:∀ s,codeR Tryz.prog G130_C G130_l0_c [] (G130_l0_S.encE s) (G130_l0_S.encB s) (kst G130_l0_S [.ret,.exit 0])=G130_l0_step s:=by
    intro s; kernel_rfl
  have hL:LV 1 Tryz.prog false (loopsOf G130_l0_c) []:=by unfold LV; cases loopsOf G130_l0_c<;>trivial
  exact loopT_valid (fuel:=G130_l0_fuel) mixed G130_CV hL (by kernel_rfl) (by decide) rfl hb (fun s r h=>h)
theorem G130_LV:LV 1 Tryz.prog false (loopsOf (bodyOf Tryz.f130)) [G130_l0_L]:=by
  have hl:loopsOf (bodyOf Tryz.f130)=[.loop G130_l0_c]:=by kernel_rfl
  rw [hl]; exact ⟨G130_l0_V,trivial⟩
theorem G130_ent:Ent Tryz.prog 130:=⟨by decide,enters_of Tryz.func130 (by kernel_rfl) rfl⟩
theorem G130_hev:∀ x:G130_CS.In,fnR Tryz.prog G130_C [G130_l0_L] Tryz.f130 (bodyOf Tryz.f130) (encs G130_CS.A x.1) ⟨encs G130_CS.I x.2,[],G130_CS.nt⟩ (finK G130_CS)=G130 x.1.1 x.1.2.1 x.2.1:=by
  intro x; kernel_rfl
theorem G130_valid:G130_E.Valid Tryz.prog:=
  boxE_valid (S:=G130_CS) (by kernel_rfl) (.inr G130_ent) (fn_lcall (S:=G130_CS) mixed Tryz.func130 rfl G130_ent G130_CV G130_LV (by kernel_rfl) (by kernel_rfl) G130_hev)
def G132_C:CalT:=tabC []
theorem G132_CV:CV Tryz.prog G132_C:=tabC_valid (l:=_) trivial
def G132 (a0:E73):Option E23:=some a0.1
def G132_E:CEnt:=pureE 132 [.dat T73] (.dat T23) fun x=>G132 x.1
theorem G132_LV:LV 0 Tryz.prog false (loopsOf (bodyOf Tryz.f132)) []:=by unfold LV; cases loopsOf (bodyOf Tryz.f132)<;>trivial
theorem G132_ent:Ent Tryz.prog 132:=⟨by decide,enters_of Tryz.func132 (by kernel_rfl) rfl⟩
theorem G132_hev:∀ x,fnR Tryz.prog G132_C [] Tryz.f132 (bodyOf Tryz.f132) (encs [.dat T73] x) ⟨[],[],0⟩ (frzF (.dat T23))=G132 x.1:=by
  intro x; kernel_rfl
theorem G132_valid:G132_E.Valid Tryz.prog:=
  pureE_valid (by kernel_rfl) (by kernel_rfl) G132_ent (frz_lcall mixed Tryz.func132 rfl G132_ent G132_CV G132_LV (by kernel_rfl) (by kernel_rfl) G132_hev)
def G130_v1_C:CalT:=tabC [G132_E,G177_E]
theorem G130_v1_CV:CV Tryz.prog G130_v1_C:=tabC_valid (l:=_) ⟨G132_valid,G177_valid,trivial⟩
def G130_v1_l0_c:Code:=loopAt (bodyOf Tryz.f130) 0
def G130_v1_l0_S:SPat:=⟨[.any,.dat (.list T73),.fix (.func (.func 132) .nil .nil),.any,.any,.any,.dat .bool,.any,.any,.any,.any,.any,.any,.any,.any,.dat (.list (.int .i64)),.dat (.int .i64),.dat (.int .i64),.any,.any,.any,.any,.any,.any,.any,.any,.any,.any,.any,.any,.any,.any,.any,.any,.any,.any],[],0⟩
abbrev TY43:Type:=(Nat×(((List E73)×(Bool×((List Int)×(Int×(Int×Unit)))))×Unit))
def G130_v1_l0_step (s:(((List E73)×(Bool×((List Int)×(Int×(Int×Unit)))))×Unit)):Option TY43:=(bif (decide (s.1.2.2.2.2.1 < s.1.2.2.2.1)) then (bif (decide (0≤s.1.2.2.2.2.1)&&decide (s.1.2.2.2.2.1 < (List.length s.1.2.2.1:Int))) then (bif (decide (0≤s.1.2.2.2.2.1)&&decide (s.1.2.2.2.2.1 < (List.length s.1.1:Int))) then (Option.bind (G132 (List.getD s.1.1 (Int.toNat s.1.2.2.2.2.1) ((0,(0,())),((0,(0,())),((0,(0,())),()))))) fun r1=>(Option.bind (G177 (List.getD s.1.2.2.1 (Int.toNat s.1.2.2.2.2.1) 0) r1.1 r1.2.1) fun r2=>(bif (!r2) then some (1,((s.1.1,(false,(s.1.2.2.1,(s.1.2.2.2.1,(s.1.2.2.2.2.1,()))))),())) else some (0,((s.1.1,(s.1.2.1,(s.1.2.2.1,(s.1.2.2.2.1,((IntKind.wrap .i64 (s.1.2.2.2.2.1+1)),()))))),()))))) else none) else none) else some (2,((s.1.1,(s.1.2.1,(s.1.2.2.1,(s.1.2.2.2.1,(s.1.2.2.2.2.1,()))))),())))
def G130_v1_l0_fuel (s:(((List E73)×(Bool×((List Int)×(Int×(Int×Unit)))))×Unit)):Nat:=Int.toNat (s.1.2.2.2.1 - s.1.2.2.2.2.1)+1
def G130_v1_l0_run (s:(((List E73)×(Bool×((List Int)×(Int×(Int×Unit)))))×Unit)):Option TY43:=iter G130_v1_l0_step (G130_v1_l0_fuel s) s
def G130_v1_l0_L:LoopT:=loopT G130_v1_l0_S [.ret,.exit 0] G130_v1_l0_run
def G130_v1 (a0:(List Int)) (a1:(List E73)):Option Bool:=(bif ((List.length a0:Int) != (List.length a1:Int)) then some false else (Option.bind (G130_v1_l0_run ((a1,(false,(a0,((List.length a0:Int),(0,()))))),())) fun q3=>(natK q3.1 (some q3.2.1.2.1) (fun _=>some true))))
def G130_v1_E:CEnt:=pureE 130 [.dat (.list (.int .i64)),.dat (.list T73),.fix (.func (.func 132) .nil .nil)] (.dat .bool) fun x=>G130_v1 x.1 x.2.1
theorem G130_v1_l0_V:LValid 0 Tryz.prog (.loop G130_v1_l0_c) G130_v1_l0_L false:=by
  exact loopT_valid (fuel:=G130_v1_l0_fuel) mixed G130_v1_CV (lvNil _) (by kernel_rfl) (by decide) rfl (by intro s; kernel_rfl) (fun s r h=>h)
theorem G130_v1_LV:LV 0 Tryz.prog false (loopsOf (bodyOf Tryz.f130)) [G130_v1_l0_L]:=by
  have hl:loopsOf (bodyOf Tryz.f130)=[.loop G130_v1_l0_c]:=by kernel_rfl
  rw [hl]; exact ⟨G130_v1_l0_V,trivial⟩
theorem G130_v1_ent:Ent Tryz.prog 130:=⟨by decide,enters_of Tryz.func130 (by kernel_rfl) rfl⟩
theorem G130_v1_hev:∀ x,fnR Tryz.prog G130_v1_C [G130_v1_l0_L] Tryz.f130 (bodyOf Tryz.f130) (encs [.dat (.list (.int .i64)),.dat (.list T73),.fix (.func (.func 132) .nil .nil)] x) ⟨[],[],0⟩ (frzF (.dat .bool))=G130_v1 x.1 x.2.1:=by
  intro x; kernel_rfl
theorem G130_v1_valid:G130_v1_E.Valid Tryz.prog:=
  pureE_valid (by kernel_rfl) (by kernel_rfl) G130_v1_ent (frz_lcall mixed Tryz.func130 rfl G130_v1_ent G130_v1_CV G130_v1_LV (by kernel_rfl) (by kernel_rfl) G130_v1_hev)
def G133_C:CalT:=tabC []
theorem G133_CV:CV Tryz.prog G133_C:=tabC_valid (l:=_) trivial
def G133 (a0:E73):Option E23:=some a0.2.1
def G133_E:CEnt:=pureE 133 [.dat T73] (.dat T23) fun x=>G133 x.1
theorem G133_LV:LV 0 Tryz.prog false (loopsOf (bodyOf Tryz.f133)) []:=by unfold LV; cases loopsOf (bodyOf Tryz.f133)<;>trivial
theorem G133_ent:Ent Tryz.prog 133:=⟨by decide,enters_of Tryz.func133 (by kernel_rfl) rfl⟩
theorem G133_hev:∀ x,fnR Tryz.prog G133_C [] Tryz.f133 (bodyOf Tryz.f133) (encs [.dat T73] x) ⟨[],[],0⟩ (frzF (.dat T23))=G133 x.1:=by
  intro x; kernel_rfl
theorem G133_valid:G133_E.Valid Tryz.prog:=
  pureE_valid (by kernel_rfl) (by kernel_rfl) G133_ent (frz_lcall mixed Tryz.func133 rfl G133_ent G133_CV G133_LV (by kernel_rfl) (by kernel_rfl) G133_hev)
def G130_v2_C:CalT:=tabC [G133_E,G177_E]
theorem G130_v2_CV:CV Tryz.prog G130_v2_C:=tabC_valid (l:=_) ⟨G133_valid,G177_valid,trivial⟩
def G130_v2_l0_c:Code:=loopAt (bodyOf Tryz.f130) 0
def G130_v2_l0_S:SPat:=⟨[.any,.dat (.list T73),.fix (.func (.func 133) .nil .nil),.any,.any,.any,.dat .bool,.any,.any,.any,.any,.any,.any,.any,.any,.dat (.list (.int .i64)),.dat (.int .i64),.dat (.int .i64),.any,.any,.any,.any,.any,.any,.any,.any,.any,.any,.any,.any,.any,.any,.any,.any,.any,.any],[],0⟩
def G130_v2_l0_step (s:(((List E73)×(Bool×((List Int)×(Int×(Int×Unit)))))×Unit)):Option TY43:=(bif (decide (s.1.2.2.2.2.1 < s.1.2.2.2.1)) then (bif (decide (0≤s.1.2.2.2.2.1)&&decide (s.1.2.2.2.2.1 < (List.length s.1.2.2.1:Int))) then (bif (decide (0≤s.1.2.2.2.2.1)&&decide (s.1.2.2.2.2.1 < (List.length s.1.1:Int))) then (Option.bind (G133 (List.getD s.1.1 (Int.toNat s.1.2.2.2.2.1) ((0,(0,())),((0,(0,())),((0,(0,())),()))))) fun r1=>(Option.bind (G177 (List.getD s.1.2.2.1 (Int.toNat s.1.2.2.2.2.1) 0) r1.1 r1.2.1) fun r2=>(bif (!r2) then some (1,((s.1.1,(false,(s.1.2.2.1,(s.1.2.2.2.1,(s.1.2.2.2.2.1,()))))),())) else some (0,((s.1.1,(s.1.2.1,(s.1.2.2.1,(s.1.2.2.2.1,((IntKind.wrap .i64 (s.1.2.2.2.2.1+1)),()))))),()))))) else none) else none) else some (2,((s.1.1,(s.1.2.1,(s.1.2.2.1,(s.1.2.2.2.1,(s.1.2.2.2.2.1,()))))),())))
def G130_v2_l0_fuel (s:(((List E73)×(Bool×((List Int)×(Int×(Int×Unit)))))×Unit)):Nat:=Int.toNat (s.1.2.2.2.1 - s.1.2.2.2.2.1)+1
def G130_v2_l0_run (s:(((List E73)×(Bool×((List Int)×(Int×(Int×Unit)))))×Unit)):Option TY43:=iter G130_v2_l0_step (G130_v2_l0_fuel s) s
def G130_v2_l0_L:LoopT:=loopT G130_v2_l0_S [.ret,.exit 0] G130_v2_l0_run
def G130_v2 (a0:(List Int)) (a1:(List E73)):Option Bool:=(bif ((List.length a0:Int) != (List.length a1:Int)) then some false else (Option.bind (G130_v2_l0_run ((a1,(false,(a0,((List.length a0:Int),(0,()))))),())) fun q3=>(natK q3.1 (some q3.2.1.2.1) (fun _=>some true))))
def G130_v2_E:CEnt:=pureE 130 [.dat (.list (.int .i64)),.dat (.list T73),.fix (.func (.func 133) .nil .nil)] (.dat .bool) fun x=>G130_v2 x.1 x.2.1
theorem G130_v2_l0_V:LValid 0 Tryz.prog (.loop G130_v2_l0_c) G130_v2_l0_L false:=by
  exact loopT_valid (fuel:=G130_v2_l0_fuel) mixed G130_v2_CV (lvNil _) (by kernel_rfl) (by decide) rfl (by intro s; kernel_rfl) (fun s r h=>h)
theorem G130_v2_LV:LV 0 Tryz.prog false (loopsOf (bodyOf Tryz.f130)) [G130_v2_l0_L]:=by
  have hl:loopsOf (bodyOf Tryz.f130)=[.loop G130_v2_l0_c]:=by kernel_rfl
  rw [hl]; exact ⟨G130_v2_l0_V,trivial⟩
theorem G130_v2_ent:Ent Tryz.prog 130:=⟨by decide,enters_of Tryz.func130 (by kernel_rfl) rfl⟩
theorem G130_v2_hev:∀ x,fnR Tryz.prog G130_v2_C [G130_v2_l0_L] Tryz.f130 (bodyOf Tryz.f130) (encs [.dat (.list (.int .i64)),.dat (.list T73),.fix (.func (.func 133) .nil .nil)] x) ⟨[],[],0⟩ (frzF (.dat .bool))=G130_v2 x.1 x.2.1:=by
  intro x; kernel_rfl
theorem G130_v2_valid:G130_v2_E.Valid Tryz.prog:=
  pureE_valid (by kernel_rfl) (by kernel_rfl) G130_v2_ent (frz_lcall mixed Tryz.func130 rfl G130_v2_ent G130_v2_CV G130_v2_LV (by kernel_rfl) (by kernel_rfl) G130_v2_hev)
def G134_C:CalT:=tabC []
theorem G134_CV:CV Tryz.prog G134_C:=tabC_valid (l:=_) trivial
def G134 (a0:E73):Option E23:=some a0.2.2.1
def G134_E:CEnt:=pureE 134 [.dat T73] (.dat T23) fun x=>G134 x.1
theorem G134_LV:LV 0 Tryz.prog false (loopsOf (bodyOf Tryz.f134)) []:=by unfold LV; cases loopsOf (bodyOf Tryz.f134)<;>trivial
theorem G134_ent:Ent Tryz.prog 134:=⟨by decide,enters_of Tryz.func134 (by kernel_rfl) rfl⟩
theorem G134_hev:∀ x,fnR Tryz.prog G134_C [] Tryz.f134 (bodyOf Tryz.f134) (encs [.dat T73] x) ⟨[],[],0⟩ (frzF (.dat T23))=G134 x.1:=by
  intro x; kernel_rfl
theorem G134_valid:G134_E.Valid Tryz.prog:=
  pureE_valid (by kernel_rfl) (by kernel_rfl) G134_ent (frz_lcall mixed Tryz.func134 rfl G134_ent G134_CV G134_LV (by kernel_rfl) (by kernel_rfl) G134_hev)
def G130_v3_C:CalT:=tabC [G134_E,G177_E]
theorem G130_v3_CV:CV Tryz.prog G130_v3_C:=tabC_valid (l:=_) ⟨G134_valid,G177_valid,trivial⟩
def G130_v3_l0_c:Code:=loopAt (bodyOf Tryz.f130) 0
def G130_v3_l0_S:SPat:=⟨[.any,.dat (.list T73),.fix (.func (.func 134) .nil .nil),.any,.any,.any,.dat .bool,.any,.any,.any,.any,.any,.any,.any,.any,.dat (.list (.int .i64)),.dat (.int .i64),.dat (.int .i64),.any,.any,.any,.any,.any,.any,.any,.any,.any,.any,.any,.any,.any,.any,.any,.any,.any,.any],[],0⟩
def G130_v3_l0_step (s:(((List E73)×(Bool×((List Int)×(Int×(Int×Unit)))))×Unit)):Option TY43:=(bif (decide (s.1.2.2.2.2.1 < s.1.2.2.2.1)) then (bif (decide (0≤s.1.2.2.2.2.1)&&decide (s.1.2.2.2.2.1 < (List.length s.1.2.2.1:Int))) then (bif (decide (0≤s.1.2.2.2.2.1)&&decide (s.1.2.2.2.2.1 < (List.length s.1.1:Int))) then (Option.bind (G134 (List.getD s.1.1 (Int.toNat s.1.2.2.2.2.1) ((0,(0,())),((0,(0,())),((0,(0,())),()))))) fun r1=>(Option.bind (G177 (List.getD s.1.2.2.1 (Int.toNat s.1.2.2.2.2.1) 0) r1.1 r1.2.1) fun r2=>(bif (!r2) then some (1,((s.1.1,(false,(s.1.2.2.1,(s.1.2.2.2.1,(s.1.2.2.2.2.1,()))))),())) else some (0,((s.1.1,(s.1.2.1,(s.1.2.2.1,(s.1.2.2.2.1,((IntKind.wrap .i64 (s.1.2.2.2.2.1+1)),()))))),()))))) else none) else none) else some (2,((s.1.1,(s.1.2.1,(s.1.2.2.1,(s.1.2.2.2.1,(s.1.2.2.2.2.1,()))))),())))
def G130_v3_l0_fuel (s:(((List E73)×(Bool×((List Int)×(Int×(Int×Unit)))))×Unit)):Nat:=Int.toNat (s.1.2.2.2.1 - s.1.2.2.2.2.1)+1
def G130_v3_l0_run (s:(((List E73)×(Bool×((List Int)×(Int×(Int×Unit)))))×Unit)):Option TY43:=iter G130_v3_l0_step (G130_v3_l0_fuel s) s
def G130_v3_l0_L:LoopT:=loopT G130_v3_l0_S [.ret,.exit 0] G130_v3_l0_run
def G130_v3 (a0:(List Int)) (a1:(List E73)):Option Bool:=(bif ((List.length a0:Int) != (List.length a1:Int)) then some false else (Option.bind (G130_v3_l0_run ((a1,(false,(a0,((List.length a0:Int),(0,()))))),())) fun q3=>(natK q3.1 (some q3.2.1.2.1) (fun _=>some true))))
def G130_v3_E:CEnt:=pureE 130 [.dat (.list (.int .i64)),.dat (.list T73),.fix (.func (.func 134) .nil .nil)] (.dat .bool) fun x=>G130_v3 x.1 x.2.1
theorem G130_v3_l0_V:LValid 0 Tryz.prog (.loop G130_v3_l0_c) G130_v3_l0_L false:=by
  exact loopT_valid (fuel:=G130_v3_l0_fuel) mixed G130_v3_CV (lvNil _) (by kernel_rfl) (by decide) rfl (by intro s; kernel_rfl) (fun s r h=>h)
theorem G130_v3_LV:LV 0 Tryz.prog false (loopsOf (bodyOf Tryz.f130)) [G130_v3_l0_L]:=by
  have hl:loopsOf (bodyOf Tryz.f130)=[.loop G130_v3_l0_c]:=by kernel_rfl
  rw [hl]; exact ⟨G130_v3_l0_V,trivial⟩
theorem G130_v3_ent:Ent Tryz.prog 130:=⟨by decide,enters_of Tryz.func130 (by kernel_rfl) rfl⟩
theorem G130_v3_hev:∀ x,fnR Tryz.prog G130_v3_C [G130_v3_l0_L] Tryz.f130 (bodyOf Tryz.f130) (encs [.dat (.list (.int .i64)),.dat (.list T73),.fix (.func (.func 134) .nil .nil)] x) ⟨[],[],0⟩ (frzF (.dat .bool))=G130_v3 x.1 x.2.1:=by
  intro x; kernel_rfl
theorem G130_v3_valid:G130_v3_E.Valid Tryz.prog:=
  pureE_valid (by kernel_rfl) (by kernel_rfl) G130_v3_ent (frz_lcall mixed Tryz.func130 rfl G130_v3_ent G130_v3_CV G130_v3_LV (by kernel_rfl) (by kernel_rfl) G130_v3_hev)
def G42_C:CalT:=tabC [G128_E,G130_E,G130_v1_E,G130_v2_E,G130_v3_E,G63_E,G135_E]
theorem G42_CV:CV Tryz.prog G42_C:=tabC_valid (l:=_) ⟨G128_valid,G130_valid,G130_v1_valid,G130_v2_valid,G130_v3_valid,G63_valid,G135_valid,trivial⟩
def G42 (a0:E25) (a1:(List E73)) (a2:E118):Option ((List Int)×(E89×(Int×Unit))):=(Option.bind (G128 a2.1 a0.1) fun r1=>(bif r1 then (Option.bind (G130 a2.2.1 a1 a0) fun r2=>(bif r2.1 then (Option.bind (G130_v1 a2.2.2.1 a1) fun r3=>(bif r3 then (Option.bind (G130_v2 a2.2.2.2.1 a1) fun r4=>(bif r4 then (Option.bind (G130_v3 a2.2.2.2.2.1 a1) fun r5=>(Option.bind (G63 r2.2.1 a1 r5) fun r6=>(bif (r6 != 0) then some ([],((0,(0,(0,()))),(r6,()))) else (Option.bind (G135 (r2.2.1,(a2,(0,(0,(0,(0,([],([],((0,(0,(0,()))),())))))))))) fun r7=>some (r7.2.1.2.2.2.2.2.2.1,(r7.2.1.2.2.2.2.2.2.2.2.1,(0,()))))))) else (Option.bind (G63 r2.2.1 a1 false) fun r8=>(bif (r8 != 0) then some ([],((0,(0,(0,()))),(r8,()))) else (Option.bind (G135 (r2.2.1,(a2,(0,(0,(0,(0,([],([],((0,(0,(0,()))),())))))))))) fun r9=>some (r9.2.1.2.2.2.2.2.2.1,(r9.2.1.2.2.2.2.2.2.2.2.1,(0,())))))))) else (Option.bind (G63 r2.2.1 a1 false) fun r10=>(bif (r10 != 0) then some ([],((0,(0,(0,()))),(r10,()))) else (Option.bind (G135 (r2.2.1,(a2,(0,(0,(0,(0,([],([],((0,(0,(0,()))),())))))))))) fun r11=>some (r11.2.1.2.2.2.2.2.2.1,(r11.2.1.2.2.2.2.2.2.2.2.1,(0,())))))))) else (Option.bind (G63 r2.2.1 a1 false) fun r12=>(bif (r12 != 0) then some ([],((0,(0,(0,()))),(r12,()))) else (Option.bind (G135 (r2.2.1,(a2,(0,(0,(0,(0,([],([],((0,(0,(0,()))),())))))))))) fun r13=>some (r13.2.1.2.2.2.2.2.2.1,(r13.2.1.2.2.2.2.2.2.2.2.1,(0,())))))))) else (Option.bind (G63 a0 a1 false) fun r14=>(bif (r14 != 0) then some ([],((0,(0,(0,()))),(r14,()))) else (Option.bind (G135 (a0,(a2,(0,(0,(0,(0,([],([],((0,(0,(0,()))),())))))))))) fun r15=>some (r15.2.1.2.2.2.2.2.2.1,(r15.2.1.2.2.2.2.2.2.2.2.1,(0,()))))))))
abbrev PA44:PTy:=(.cons (.own 0 (.int .i64)) (.cons (.cons (.dat (.int .i64)) (.cons (.dat (.int .i64)) (.cons (.dat (.int .i64)) (.nil)))) (.cons (.dat (.int .i64)) (.nil))))
def G42_E:CEnt:=view2E 42 [.dat T25,.dat (.list T73),.dat T118] (.tup PA44) fun x=>G42 x.1 x.2.1 x.2.2.1
theorem G42_LV:LV 0 Tryz.prog false (loopsOf (bodyOf Tryz.f42)) []:=by unfold LV; cases loopsOf (bodyOf Tryz.f42)<;>trivial
theorem G42_ent:Ent Tryz.prog 42:=⟨by decide,enters_of Tryz.func42 (by kernel_rfl) rfl⟩
theorem G42_hev:∀ x,fnR Tryz.prog G42_C [] Tryz.f42 (bodyOf Tryz.f42) (encs [.dat T25,.dat (.list T73),.dat T118] x) ⟨[],[],0⟩ (finO [.dat T25,.dat (.list T73),.dat T118] 1 (.tup PA44))=G42 x.1 x.2.1 x.2.2.1:=by
  intro x; kernel_rfl
theorem G42_valid:G42_E.Valid Tryz.prog:=
  view2E_valid (nt:=1) (by kernel_rfl) (by kernel_rfl) G42_ent (own_lcall mixed Tryz.func42 rfl G42_ent G42_CV G42_LV (by kernel_rfl) G42_hev)
def G136_C:CalT:=tabC []
theorem G136_CV:CV Tryz.prog G136_C:=tabC_valid (l:=_) trivial
def G136 (a0:Int) (a1:Int) (a2:Int):Option Bool:=(bif (decide (a0≥a1)) then some (decide (a0≤a2)) else some false)
def G136_E:CEnt:=pureE 136 [.dat (.int .i64),.dat (.int .i64),.dat (.int .i64)] (.dat .bool) fun x=>G136 x.1 x.2.1 x.2.2.1
theorem G136_LV:LV 0 Tryz.prog false (loopsOf (bodyOf Tryz.f136)) []:=by unfold LV; cases loopsOf (bodyOf Tryz.f136)<;>trivial
theorem G136_ent:Ent Tryz.prog 136:=⟨by decide,enters_of Tryz.func136 (by kernel_rfl) rfl⟩
theorem G136_hev:∀ x,fnR Tryz.prog G136_C [] Tryz.f136 (bodyOf Tryz.f136) (encs [.dat (.int .i64),.dat (.int .i64),.dat (.int .i64)] x) ⟨[],[],0⟩ (frzF (.dat .bool))=G136 x.1 x.2.1 x.2.2.1:=by
  intro x; kernel_rfl
theorem G136_valid:G136_E.Valid Tryz.prog:=
  pureE_valid (by kernel_rfl) (by kernel_rfl) G136_ent (frz_lcall mixed Tryz.func136 rfl G136_ent G136_CV G136_LV (by kernel_rfl) (by kernel_rfl) G136_hev)
def G137_C:CalT:=tabC []
theorem G137_CV:CV Tryz.prog G137_C:=tabC_valid (l:=_) trivial
def G137 (a0:E23) (a1:Int):Option Bool:=(bif (decide (a0.1≥0)) then (bif (decide (a0.1≤a0.2.1)) then some (decide (a0.2.1≤a1)) else some false) else some false)
def G137_E:CEnt:=pureE 137 [.dat T23,.dat (.int .i64)] (.dat .bool) fun x=>G137 x.1 x.2.1
theorem G137_LV:LV 0 Tryz.prog false (loopsOf (bodyOf Tryz.f137)) []:=by unfold LV; cases loopsOf (bodyOf Tryz.f137)<;>trivial
theorem G137_ent:Ent Tryz.prog 137:=⟨by decide,enters_of Tryz.func137 (by kernel_rfl) rfl⟩
theorem G137_hev:∀ x,fnR Tryz.prog G137_C [] Tryz.f137 (bodyOf Tryz.f137) (encs [.dat T23,.dat (.int .i64)] x) ⟨[],[],0⟩ (frzF (.dat .bool))=G137 x.1 x.2.1:=by
  intro x; kernel_rfl
theorem G137_valid:G137_E.Valid Tryz.prog:=
  pureE_valid (by kernel_rfl) (by kernel_rfl) G137_ent (frz_lcall mixed Tryz.func137 rfl G137_ent G137_CV G137_LV (by kernel_rfl) (by kernel_rfl) G137_hev)
def G138_C:CalT:=tabC [G136_E]
theorem G138_CV:CV Tryz.prog G138_C:=tabC_valid (l:=_) ⟨G136_valid,trivial⟩
def G138_l0_c:Code:=loopAt (bodyOf Tryz.f138) 0
def G138_l0_S:SPat:=⟨[.dat (.list (.int .i64)),.dat (.int .i64),.any,.any,.dat .bool,.dat (.int .i64)]++List.replicate 30 PTy.any,[],0⟩
def G138_l0_step (s:(((List Int)×(Int×(Bool×(Int×Unit))))×Unit)):Option (Nat×(((List Int)×(Int×(Bool×(Int×Unit))))×Unit)):=(bif (decide (s.1.2.2.2.1 < (List.length s.1.1:Int))) then (bif (decide (0≤s.1.2.2.2.1)&&decide (s.1.2.2.2.1 < (List.length s.1.1:Int))) then (Option.bind (G136 (List.getD s.1.1 (Int.toNat s.1.2.2.2.1) 0) 0 (IntKind.wrap .i64 (s.1.2.1 - 1))) fun r1=>(bif (!r1) then some (1,((s.1.1,(s.1.2.1,(false,(s.1.2.2.2.1,())))),())) else (bif (decide (s.1.2.2.2.1 > 0)) then (bif (decide (0≤s.1.2.2.2.1)&&decide (s.1.2.2.2.1 < (List.length s.1.1:Int))) then (bif (decide (0≤(IntKind.wrap .i64 (s.1.2.2.2.1 - 1)))&&decide ((IntKind.wrap .i64 (s.1.2.2.2.1 - 1)) < (List.length s.1.1:Int))) then (bif (decide ((List.getD s.1.1 (Int.toNat s.1.2.2.2.1) 0)≤(List.getD s.1.1 (Int.toNat (IntKind.wrap .i64 (s.1.2.2.2.1 - 1))) 0))) then some (1,((s.1.1,(s.1.2.1,(false,(s.1.2.2.2.1,())))),())) else some (0,((s.1.1,(s.1.2.1,(s.1.2.2.1,((IntKind.wrap .i64 (s.1.2.2.2.1+1)),())))),()))) else none) else none) else some (0,((s.1.1,(s.1.2.1,(s.1.2.2.1,((IntKind.wrap .i64 (s.1.2.2.2.1+1)),())))),()))))) else none) else some (2,((s.1.1,(s.1.2.1,(s.1.2.2.1,(s.1.2.2.2.1,())))),())))
def G138_l0_fuel (s:(((List Int)×(Int×(Bool×(Int×Unit))))×Unit)):Nat:=Int.toNat ((List.length s.1.1:Int) - s.1.2.2.2.1)+1
def G138_l0_run (s:(((List Int)×(Int×(Bool×(Int×Unit))))×Unit)):Option (Nat×(((List Int)×(Int×(Bool×(Int×Unit))))×Unit)):=iter G138_l0_step (G138_l0_fuel s) s
def G138_l0_L:LoopT:=loopT G138_l0_S [.ret,.exit 0] G138_l0_run
def G138 (a0:(List Int)) (a1:Int):Option Bool:=(Option.bind (G138_l0_run ((a0,(a1,(false,(0,())))),())) fun q2=>(natK q2.1 (some q2.2.1.2.2.1) (fun _=>some true)))
def G138_E:CEnt:=pureE 138 [.dat (.list (.int .i64)),.dat (.int .i64)] (.dat .bool) fun x=>G138 x.1 x.2.1
theorem G138_l0_V:LValid 0 Tryz.prog (.loop G138_l0_c) G138_l0_L false:=by
  exact loopT_valid (fuel:=G138_l0_fuel) mixed G138_CV (lvNil _) (by kernel_rfl) (by decide) rfl (by intro s; kernel_rfl) (fun s r h=>h)
theorem G138_LV:LV 0 Tryz.prog false (loopsOf (bodyOf Tryz.f138)) [G138_l0_L]:=by
  have hl:loopsOf (bodyOf Tryz.f138)=[.loop G138_l0_c]:=by kernel_rfl
  rw [hl]; exact ⟨G138_l0_V,trivial⟩
theorem G138_ent:Ent Tryz.prog 138:=⟨by decide,enters_of Tryz.func138 (by kernel_rfl) rfl⟩
theorem G138_hev:∀ x,fnR Tryz.prog G138_C [G138_l0_L] Tryz.f138 (bodyOf Tryz.f138) (encs [.dat (.list (.int .i64)),.dat (.int .i64)] x) ⟨[],[],0⟩ (frzF (.dat .bool))=G138 x.1 x.2.1:=by
  intro x; kernel_rfl
theorem G138_valid:G138_E.Valid Tryz.prog:=
  pureE_valid (by kernel_rfl) (by kernel_rfl) G138_ent (frz_lcall mixed Tryz.func138 rfl G138_ent G138_CV G138_LV (by kernel_rfl) (by kernel_rfl) G138_hev)
def G43_C:CalT:=tabC [G136_E,G137_E,G138_E]
theorem G43_CV:CV Tryz.prog G43_C:=tabC_valid (l:=_) ⟨G136_valid,G137_valid,G138_valid,trivial⟩
def G43_l0_c:Code:=loopAt (bodyOf Tryz.f43) 0
def G43_l1_c:Code:=loopAt (bodyOf Tryz.f43) 1
def G43_l2_c:Code:=loopAt (bodyOf Tryz.f43) 2
def G43_l0_S:SPat:=⟨[.any,.fix (.bptr 0 []),.dat .bool,.dat (.int .i64)]++List.replicate 145 PTy.any,[.dat T137],0⟩
def G43_l0_step (s:((Bool×(Int×Unit))×(E137×Unit))):Option (Nat×((Bool×(Int×Unit))×(E137×Unit))):=(bif (decide (s.1.2.1 < (List.length s.2.1.2.1:Int))) then (bif (decide (0≤s.1.2.1)&&decide (s.1.2.1 < (List.length s.2.1.2.1:Int))) then (Option.bind (G136 ((List.getD s.2.1.2.1 (Int.toNat s.1.2.1) (0,(0,(0,(0,()))))).1) 0 (IntKind.wrap .i64 (s.2.1.1 - 1))) fun r1=>(bif (!r1) then some (1,((false,(s.1.2.1,())),(s.2.1,()))) else (Option.bind (G136 ((List.getD s.2.1.2.1 (Int.toNat s.1.2.1) (0,(0,(0,(0,()))))).2.1) 0 (IntKind.wrap .i64 (s.2.1.1 - 1))) fun r2=>(bif (!r2) then some (1,((false,(s.1.2.1,())),(s.2.1,()))) else (bif ((List.getD s.2.1.2.1 (Int.toNat s.1.2.1) (0,(0,(0,(0,()))))).1==(List.getD s.2.1.2.1 (Int.toNat s.1.2.1) (0,(0,(0,(0,()))))).2.1) then some (1,((false,(s.1.2.1,())),(s.2.1,()))) else (Option.bind (G136 ((List.getD s.2.1.2.1 (Int.toNat s.1.2.1) (0,(0,(0,(0,()))))).2.2.1) 0 20000) fun r3=>(bif (!r3) then some (1,((false,(s.1.2.1,())),(s.2.1,()))) else (Option.bind (G136 ((List.getD s.2.1.2.1 (Int.toNat s.1.2.1) (0,(0,(0,(0,()))))).2.2.2.1) (-1) 1000000) fun r4=>(bif (!r4) then some (1,((false,(s.1.2.1,())),(s.2.1,()))) else some (0,((s.1.1,((IntKind.wrap .i64 (s.1.2.1+1)),())),(s.2.1,())))))))))))) else none) else some (2,((s.1.1,(s.1.2.1,())),(s.2.1,()))))
def G43_l0_fuel (s:((Bool×(Int×Unit))×(E137×Unit))):Nat:=Int.toNat ((List.length s.2.1.2.1:Int) - s.1.2.1)+1
def G43_l0_run (s:((Bool×(Int×Unit))×(E137×Unit))):Option (Nat×((Bool×(Int×Unit))×(E137×Unit))):=iter G43_l0_step (G43_l0_fuel s) s
def G43_l0_L:LoopT:=loopT G43_l0_S [.ret,.exit 0] G43_l0_run
def G43_l1_S:SPat:=⟨[.any,.fix (.bptr 0 []),.dat .bool,.any,.any,.dat (.int .i64)]++List.replicate 143 PTy.any,[.dat T137],0⟩
def G43_l1_step (s:((Bool×(Int×Unit))×(E137×Unit))):Option (Nat×((Bool×(Int×Unit))×(E137×Unit))):=(bif (decide (s.1.2.1 < (List.length s.2.1.2.2.2.2.1:Int))) then (bif (decide (0≤s.1.2.1)&&decide (s.1.2.1 < (List.length s.2.1.2.2.2.2.1:Int))) then (Option.bind (G137 (List.getD s.2.1.2.2.2.2.1 (Int.toNat s.1.2.1) (0,(0,()))) 20000) fun r6=>(bif (!r6) then some (1,((false,(s.1.2.1,())),(s.2.1,()))) else some (0,((s.1.1,((IntKind.wrap .i64 (s.1.2.1+1)),())),(s.2.1,()))))) else none) else some (2,((s.1.1,(s.1.2.1,())),(s.2.1,()))))
def G43_l1_fuel (s:((Bool×(Int×Unit))×(E137×Unit))):Nat:=Int.toNat ((List.length s.2.1.2.2.2.2.1:Int) - s.1.2.1)+1
def G43_l1_run (s:((Bool×(Int×Unit))×(E137×Unit))):Option (Nat×((Bool×(Int×Unit))×(E137×Unit))):=iter G43_l1_step (G43_l1_fuel s) s
def G43_l1_L:LoopT:=loopT G43_l1_S [.ret,.exit 2] G43_l1_run
def G43_l2_S:SPat:=⟨[.any,.fix (.bptr 0 []),.dat .bool,.any,.any,.any,.dat (.int .i64)]++List.replicate 142 PTy.any,[.dat T137],0⟩
def G43_l2_step (s:((Bool×(Int×Unit))×(E137×Unit))):Option (Nat×((Bool×(Int×Unit))×(E137×Unit))):=(bif (decide (s.1.2.1 < (List.length s.2.1.2.2.2.2.2.1:Int))) then (bif (decide (0≤s.1.2.1)&&decide (s.1.2.1 < (List.length s.2.1.2.2.2.2.2.1:Int))) then (bif ((List.getD s.2.1.2.2.2.2.2.1 (Int.toNat s.1.2.1) (0,(0,((0,(0,())),((0,(0,())),()))))).1 != (-1)) then (Option.bind (G136 ((List.getD s.2.1.2.2.2.2.2.1 (Int.toNat s.1.2.1) (0,(0,((0,(0,())),((0,(0,())),()))))).1) (IntKind.wrap .i64 (s.1.2.1+1)) (IntKind.wrap .i64 ((List.length s.2.1.2.2.2.2.2.1:Int) - 1))) fun r8=>(bif (!r8) then some (1,((false,(s.1.2.1,())),(s.2.1,()))) else (Option.bind (G136 ((List.getD s.2.1.2.2.2.2.2.1 (Int.toNat s.1.2.1) (0,(0,((0,(0,())),((0,(0,())),()))))).2.1) 0 20000) fun r9=>(bif (!r9) then some (1,((false,(s.1.2.1,())),(s.2.1,()))) else (Option.bind (G137 ((List.getD s.2.1.2.2.2.2.2.1 (Int.toNat s.1.2.1) (0,(0,((0,(0,())),((0,(0,())),()))))).2.2.1) 1000000) fun r10=>(bif (!r10) then some (1,((false,(s.1.2.1,())),(s.2.1,()))) else (Option.bind (G137 ((List.getD s.2.1.2.2.2.2.2.1 (Int.toNat s.1.2.1) (0,(0,((0,(0,())),((0,(0,())),()))))).2.2.2.1) 1000000) fun r11=>(bif (!r11) then some (1,((false,(s.1.2.1,())),(s.2.1,()))) else some (0,((s.1.1,((IntKind.wrap .i64 (s.1.2.1+1)),())),(s.2.1,()))))))))))) else (Option.bind (G136 ((List.getD s.2.1.2.2.2.2.2.1 (Int.toNat s.1.2.1) (0,(0,((0,(0,())),((0,(0,())),()))))).2.1) 0 20000) fun r12=>(bif (!r12) then some (1,((false,(s.1.2.1,())),(s.2.1,()))) else (Option.bind (G137 ((List.getD s.2.1.2.2.2.2.2.1 (Int.toNat s.1.2.1) (0,(0,((0,(0,())),((0,(0,())),()))))).2.2.1) 1000000) fun r13=>(bif (!r13) then some (1,((false,(s.1.2.1,())),(s.2.1,()))) else (Option.bind (G137 ((List.getD s.2.1.2.2.2.2.2.1 (Int.toNat s.1.2.1) (0,(0,((0,(0,())),((0,(0,())),()))))).2.2.2.1) 1000000) fun r14=>(bif (!r14) then some (1,((false,(s.1.2.1,())),(s.2.1,()))) else some (0,((s.1.1,((IntKind.wrap .i64 (s.1.2.1+1)),())),(s.2.1,())))))))))) else none) else some (2,((s.1.1,(s.1.2.1,())),(s.2.1,()))))
def G43_l2_fuel (s:((Bool×(Int×Unit))×(E137×Unit))):Nat:=Int.toNat ((List.length s.2.1.2.2.2.2.2.1:Int) - s.1.2.1)+1
def G43_l2_run (s:((Bool×(Int×Unit))×(E137×Unit))):Option (Nat×((Bool×(Int×Unit))×(E137×Unit))):=iter G43_l2_step (G43_l2_fuel s) s
def G43_l2_L:LoopT:=loopT G43_l2_S [.ret,.exit 4] G43_l2_run
def G43 (a0:E137):Option Bool:=(Option.bind (G43_l0_run ((false,(0,())),(a0,()))) fun q5=>(natK q5.1 (some q5.2.1.1) (fun _=>(Option.bind (G43_l1_run ((q5.2.1.1,(0,())),(q5.2.2.1,()))) fun q7=>(natK q7.1 (some q7.2.1.1) (fun _=>(Option.bind (G43_l2_run ((q7.2.1.1,(0,())),(q7.2.2.1,()))) fun q15=>(natK q15.1 (some q15.2.1.1) (fun _=>(Option.bind (G136 q15.2.2.1.1 1 10) fun r16=>(bif r16 then (bif (decide ((List.length q15.2.2.1.2.1:Int)≤12)) then (Option.bind (G138 q15.2.2.1.2.2.1 q15.2.2.1.1) fun r17=>(bif r17 then (Option.bind (G138 q15.2.2.1.2.2.2.1 q15.2.2.1.1) fun r18=>(bif r18 then (Option.bind (G136 (List.length q15.2.2.1.2.2.2.2.1:Int) 1 10) fun r19=>(bif r19 then some (decide ((List.length q15.2.2.1.2.2.2.2.2.1:Int)≤6)) else some false)) else some false)) else some false)) else some false) else some false)))))))))))
def G43_E:CEnt:=pureE 43 [.dat T137] (.dat .bool) fun x=>G43 x.1
theorem G43_l0_V:LValid 0 Tryz.prog (.loop G43_l0_c) G43_l0_L false:=by
  exact loopT_valid (fuel:=G43_l0_fuel) mixed G43_CV (lvNil _) (by kernel_rfl) (by decide) rfl (by intro s; kernel_rfl) (fun s r h=>h)
theorem G43_l1_V:LValid 0 Tryz.prog (.loop G43_l1_c) G43_l1_L false:=by
  exact loopT_valid (fuel:=G43_l1_fuel) mixed G43_CV (lvNil _) (by kernel_rfl) (by decide) rfl (by intro s; kernel_rfl) (fun s r h=>h)
theorem G43_l2_V:LValid 0 Tryz.prog (.loop G43_l2_c) G43_l2_L false:=by
  exact loopT_valid (fuel:=G43_l2_fuel) mixed G43_CV (lvNil _) (by kernel_rfl) (by decide) rfl (by intro s; kernel_rfl) (fun s r h=>h)
theorem G43_LV:LV 0 Tryz.prog false (loopsOf (bodyOf Tryz.f43)) [G43_l0_L,G43_l1_L,G43_l2_L]:=by
  have hl:loopsOf (bodyOf Tryz.f43)=[.loop G43_l0_c,.loop G43_l1_c,.loop G43_l2_c]:=by kernel_rfl
  rw [hl]; exact ⟨G43_l0_V,G43_l1_V,G43_l2_V,trivial⟩
theorem G43_ent:Ent Tryz.prog 43:=⟨by decide,enters_of Tryz.func43 (by kernel_rfl) rfl⟩
theorem G43_hev:∀ x,fnR Tryz.prog G43_C [G43_l0_L,G43_l1_L,G43_l2_L] Tryz.f43 (bodyOf Tryz.f43) (encs [.dat T137] x) ⟨[],[],0⟩ (frzF (.dat .bool))=G43 x.1:=by
  intro x; kernel_rfl
theorem G43_valid:G43_E.Valid Tryz.prog:=
  pureE_valid (by kernel_rfl) (by kernel_rfl) G43_ent (frz_lcall mixed Tryz.func43 rfl G43_ent G43_CV G43_LV (by kernel_rfl) (by kernel_rfl) G43_hev)
def G44_C:CalT:=tabC [G136_E]
theorem G44_CV:CV Tryz.prog G44_C:=tabC_valid (l:=_) ⟨G136_valid,trivial⟩
def G44_l0_c:Code:=loopAt (bodyOf Tryz.f44) 0
def G44_l0_S:SPat:=⟨[.any,.dat (.list (.int .i64)),.fix (.bptr 0 []),.any,.dat .bool,.dat (.int .i64)]++List.replicate 44 PTy.any,[.dat T137],0⟩
def G44_l0_step (s:(((List Int)×(Bool×(Int×Unit)))×(E137×Unit))):Option (Nat×(((List Int)×(Bool×(Int×Unit)))×(E137×Unit))):=(bif (decide (s.1.2.2.1 < (List.length s.1.1:Int))) then (bif (decide (0≤s.1.2.2.1)&&decide (s.1.2.2.1 < (List.length s.1.1:Int))) then (Option.bind (G136 (List.getD s.1.1 (Int.toNat s.1.2.2.1) 0) 0 (IntKind.wrap .i64 ((List.length s.2.1.2.1:Int) - 1))) fun r1=>(bif (!r1) then some (1,((s.1.1,(false,(s.1.2.2.1,()))),(s.2.1,()))) else (bif (decide (s.1.2.2.1 > 0)) then (bif (decide (0≤s.1.2.2.1)&&decide (s.1.2.2.1 < (List.length s.1.1:Int))) then (bif (decide (0≤(IntKind.wrap .i64 (s.1.2.2.1 - 1)))&&decide ((IntKind.wrap .i64 (s.1.2.2.1 - 1)) < (List.length s.1.1:Int))) then (bif (decide ((List.getD s.1.1 (Int.toNat s.1.2.2.1) 0)≤(List.getD s.1.1 (Int.toNat (IntKind.wrap .i64 (s.1.2.2.1 - 1))) 0))) then some (1,((s.1.1,(false,(s.1.2.2.1,()))),(s.2.1,()))) else (bif (decide (0≤s.1.2.2.1)&&decide (s.1.2.2.1 < (List.length s.1.1:Int))) then (bif (decide (0≤(List.getD s.1.1 (Int.toNat s.1.2.2.1) 0))&&decide ((List.getD s.1.1 (Int.toNat s.1.2.2.1) 0) < (List.length s.2.1.2.1:Int))) then (bif (decide ((List.getD s.2.1.2.1 (Int.toNat (List.getD s.1.1 (Int.toNat s.1.2.2.1) 0)) (0,(0,(0,(0,()))))).2.2.2.1 < 0)) then some (1,((s.1.1,(false,(s.1.2.2.1,()))),(s.2.1,()))) else some (0,((s.1.1,(s.1.2.1,((IntKind.wrap .i64 (s.1.2.2.1+1)),()))),(s.2.1,())))) else none) else none)) else none) else none) else (bif (decide (0≤s.1.2.2.1)&&decide (s.1.2.2.1 < (List.length s.1.1:Int))) then (bif (decide (0≤(List.getD s.1.1 (Int.toNat s.1.2.2.1) 0))&&decide ((List.getD s.1.1 (Int.toNat s.1.2.2.1) 0) < (List.length s.2.1.2.1:Int))) then (bif (decide ((List.getD s.2.1.2.1 (Int.toNat (List.getD s.1.1 (Int.toNat s.1.2.2.1) 0)) (0,(0,(0,(0,()))))).2.2.2.1 < 0)) then some (1,((s.1.1,(false,(s.1.2.2.1,()))),(s.2.1,()))) else some (0,((s.1.1,(s.1.2.1,((IntKind.wrap .i64 (s.1.2.2.1+1)),()))),(s.2.1,())))) else none) else none)))) else none) else some (2,((s.1.1,(s.1.2.1,(s.1.2.2.1,()))),(s.2.1,()))))
def G44_l0_fuel (s:(((List Int)×(Bool×(Int×Unit)))×(E137×Unit))):Nat:=Int.toNat ((List.length s.1.1:Int) - s.1.2.2.1)+1
def G44_l0_run (s:(((List Int)×(Bool×(Int×Unit)))×(E137×Unit))):Option (Nat×(((List Int)×(Bool×(Int×Unit)))×(E137×Unit))):=iter G44_l0_step (G44_l0_fuel s) s
def G44_l0_L:LoopT:=loopT G44_l0_S [.ret,.exit 0] G44_l0_run
def G44 (a0:E137) (a1:(List Int)):Option Bool:=(Option.bind (G44_l0_run ((a1,(false,(0,()))),(a0,()))) fun q2=>(natK q2.1 (some q2.2.1.2.1) (fun _=>some true)))
def G44_E:CEnt:=pureE 44 [.dat T137,.dat (.list (.int .i64))] (.dat .bool) fun x=>G44 x.1 x.2.1
theorem G44_l0_V:LValid 0 Tryz.prog (.loop G44_l0_c) G44_l0_L false:=by
  exact loopT_valid (fuel:=G44_l0_fuel) mixed G44_CV (lvNil _) (by kernel_rfl) (by decide) rfl (by intro s; kernel_rfl) (fun s r h=>h)
theorem G44_LV:LV 0 Tryz.prog false (loopsOf (bodyOf Tryz.f44)) [G44_l0_L]:=by
  have hl:loopsOf (bodyOf Tryz.f44)=[.loop G44_l0_c]:=by kernel_rfl
  rw [hl]; exact ⟨G44_l0_V,trivial⟩
theorem G44_ent:Ent Tryz.prog 44:=⟨by decide,enters_of Tryz.func44 (by kernel_rfl) rfl⟩
theorem G44_hev:∀ x,fnR Tryz.prog G44_C [G44_l0_L] Tryz.f44 (bodyOf Tryz.f44) (encs [.dat T137,.dat (.list (.int .i64))] x) ⟨[],[],0⟩ (frzF (.dat .bool))=G44 x.1 x.2.1:=by
  intro x; kernel_rfl
theorem G44_valid:G44_E.Valid Tryz.prog:=
  pureE_valid (by kernel_rfl) (by kernel_rfl) G44_ent (frz_lcall mixed Tryz.func44 rfl G44_ent G44_CV G44_LV (by kernel_rfl) (by kernel_rfl) G44_hev)
def G46_C:CalT:=tabC [G143_E,G146_E,g147_seep_dyked_foul_E]
theorem G46_CV:CV Tryz.prog G46_C:=tabC_valid (l:=_) ⟨G143_valid,G146_valid,g147_seep_dyked_foul_valid,trivial⟩
def G46_l0_c:Code:=loopAt (bodyOf Tryz.f46) 0
def G46_l0_S:SPat:=⟨[.any,.any,.dat (.list (.int .i64)),.fix (.bptr 0 []),.any,.any,.own 0 (.int .i64),.dat (.int .i64),.fix .pnil,.any,.any,.any,.any,.any,.any,.any,.any,.any,.any,.any,.any,.any,.any,.any,.any,.any,.any,.any,.dat (.list (.int .i64)),.dat (.int .i64),.dat (.int .i64)]++List.replicate 23 PTy.any,[.dat T137],1⟩
abbrev TY45:Type:=(((List Int)×((List Int)×(Int×((List Int)×(Int×(Int×Unit))))))×(E137×Unit))
abbrev TY46:Type:=(Nat×(((List Int)×((List Int)×(Int×((List Int)×(Int×(Int×Unit))))))×(E137×Unit)))
def G46_l0_step (s:TY45):Option TY46:=(bif (decide (s.1.2.2.2.2.2.1 < s.1.2.2.2.2.1)) then (bif (decide (0≤s.1.2.2.2.2.2.1)&&decide (s.1.2.2.2.2.2.1 < (List.length s.1.2.2.2.1:Int))) then (bif (decide (0≤s.1.2.2.2.2.2.1)&&decide (s.1.2.2.2.2.2.1 < (List.length s.2.1.2.2.2.2.1:Int))) then (bif (decide (0≤s.1.2.2.2.2.2.1)&&decide (s.1.2.2.2.2.2.1 < (List.length s.2.1.2.2.2.2.1:Int))) then (Option.bind (G146 (List.getD s.1.2.2.2.1 (Int.toNat s.1.2.2.2.2.2.1) 0) ((List.getD s.2.1.2.2.2.2.1 (Int.toNat s.1.2.2.2.2.2.1) (0,(0,()))).1) ((List.getD s.2.1.2.2.2.2.1 (Int.toNat s.1.2.2.2.2.2.1) (0,(0,()))).2.1)) fun r4=>(bif (!r4) then some (1,((s.1.1,([],(2,(s.1.2.2.2.1,(s.1.2.2.2.2.1,(s.1.2.2.2.2.2.1,())))))),(s.2.1,()))) else some (0,((s.1.1,(s.1.2.1,(s.1.2.2.1,(s.1.2.2.2.1,(s.1.2.2.2.2.1,((IntKind.wrap .i64 (s.1.2.2.2.2.2.1+1)),())))))),(s.2.1,()))))) else none) else none) else none) else some (2,((s.1.1,(s.1.2.1,(s.1.2.2.1,(s.1.2.2.2.1,(s.1.2.2.2.2.1,(s.1.2.2.2.2.2.1,())))))),(s.2.1,()))))
def G46_l0_fuel (s:TY45):Nat:=Int.toNat (s.1.2.2.2.2.1 - s.1.2.2.2.2.2.1)+1
def G46_l0_run (s:TY45):Option TY46:=iter G46_l0_step (G46_l0_fuel s) s
def G46_l0_O:LoopT:=loopT G46_l0_S [.ret,.exit 0] G46_l0_run
def G46_l0_v1_S:SPat:=⟨[.any,.any,.dat (.list (.int .i64)),.fix (.bptr 0 []),.any,.any,.own 0 (.int .i64),.dat (.int .i64),.fix (.bptr 2 []),.any,.any,.any,.any,.any,.any,.any,.any,.any,.any,.any,.any,.any,.any,.any,.any,.any,.any,.any,.dat (.list (.int .i64)),.dat (.int .i64),.dat (.int .i64)]++List.replicate 23 PTy.any,[.dat T137,.dat T137,.cons (.dat T137) (.cons (.dat (.int .i64)) (.nil))],1⟩
abbrev TY47:Type:=(((List Int)×((List Int)×(Int×((List Int)×(Int×(Int×Unit))))))×(E137×(E137×((E137×(Int×Unit))×Unit))))
abbrev TY48:Type:=(Nat×(((List Int)×((List Int)×(Int×((List Int)×(Int×(Int×Unit))))))×(E137×(E137×((E137×(Int×Unit))×Unit)))))
def G46_l0_v1_step (s:TY47):Option TY48:=(bif (decide (s.1.2.2.2.2.2.1 < s.1.2.2.2.2.1)) then (bif (decide (0≤s.1.2.2.2.2.2.1)&&decide (s.1.2.2.2.2.2.1 < (List.length s.1.2.2.2.1:Int))) then (bif (decide (0≤s.1.2.2.2.2.2.1)&&decide (s.1.2.2.2.2.2.1 < (List.length s.2.1.2.2.2.2.1:Int))) then (bif (decide (0≤s.1.2.2.2.2.2.1)&&decide (s.1.2.2.2.2.2.1 < (List.length s.2.1.2.2.2.2.1:Int))) then (Option.bind (G146 (List.getD s.1.2.2.2.1 (Int.toNat s.1.2.2.2.2.2.1) 0) ((List.getD s.2.1.2.2.2.2.1 (Int.toNat s.1.2.2.2.2.2.1) (0,(0,()))).1) ((List.getD s.2.1.2.2.2.2.1 (Int.toNat s.1.2.2.2.2.2.1) (0,(0,()))).2.1)) fun r6=>(bif (!r6) then some (1,((s.1.1,([],(2,(s.1.2.2.2.1,(s.1.2.2.2.2.1,(s.1.2.2.2.2.2.1,())))))),(s.2.1,(s.2.2.1,(s.2.2.2.1,()))))) else some (0,((s.1.1,(s.1.2.1,(s.1.2.2.1,(s.1.2.2.2.1,(s.1.2.2.2.2.1,((IntKind.wrap .i64 (s.1.2.2.2.2.2.1+1)),())))))),(s.2.1,(s.2.2.1,(s.2.2.2.1,()))))))) else none) else none) else none) else some (2,((s.1.1,(s.1.2.1,(s.1.2.2.1,(s.1.2.2.2.1,(s.1.2.2.2.2.1,(s.1.2.2.2.2.2.1,())))))),(s.2.1,(s.2.2.1,(s.2.2.2.1,()))))))
def G46_l0_v1_fuel (s:TY47):Nat:=Int.toNat (s.1.2.2.2.2.1 - s.1.2.2.2.2.2.1)+1
def G46_l0_v1_run (s:TY47):Option TY48:=iter G46_l0_v1_step (G46_l0_v1_fuel s) s
def G46_l0_v1_O:LoopT:=loopT G46_l0_v1_S [.ret,.exit 0] G46_l0_v1_run
def G46_l0_L:LoopT:=orT G46_l0_S.fit G46_l0_O (G46_l0_v1_O)
def G46 (a0:E137) (a1:(List Int)) (a2:(List Int)):Option ((List Int)×(Int×Unit)):=(Option.bind (G143 a0 a1) fun r1=>(altK r1 (fun r2=>(bif (!r2.1.2.1) then some ([],(2,())) else (bif ((List.length a2:Int) != (List.length a0.2.2.2.2.1:Int)) then some ([],(2,())) else (Option.bind (G46_l0_run ((a2,([],(0,(a2,((List.length a2:Int),(0,())))))),(a0,()))) fun q5=>(natK q5.1 (some (q5.2.1.2.1,(q5.2.1.2.2.1,()))) (fun _=>none)))))) (fun r3=>(bif (!r3.1.2.1) then some ([],(2,())) else (bif ((List.length a2:Int) != (List.length a0.2.2.2.2.1:Int)) then some ([],(2,())) else (Option.bind (G46_l0_v1_run ((a2,([],(0,(a2,((List.length a2:Int),(0,())))))),(a0,(r3.2.1,(r3.2.2.1,()))))) fun q7=>(natK q7.1 (some (q7.2.1.2.1,(q7.2.1.2.2.1,()))) (fun _=>(Option.bind (g147_seep_dyked_foul q7.2.2.2.2.1 q7.2.1.1) fun r8=>some (r8,(0,())))))))))))
def G46_E:CEnt:=pureE 46 [.dat T137,.dat (.list (.int .i64)),.dat (.list (.int .i64))] (.tup (.cons (.dat (.list (.int .i64))) (.cons (.dat (.int .i64)) (.nil)))) fun x=>G46 x.1 x.2.1 x.2.2.1
theorem G46_l0_VO:LValid 0 Tryz.prog (.loop G46_l0_c) G46_l0_O false:=by
  exact loopT_valid (fuel:=G46_l0_fuel) mixed G46_CV (lvNil _) (by kernel_rfl) (by decide) rfl (by intro s; kernel_rfl) (fun s r h=>h)
theorem G46_l0_v1_VO:LValid 0 Tryz.prog (.loop G46_l0_c) G46_l0_v1_O false:=by
  exact loopT_valid (fuel:=G46_l0_v1_fuel) mixed G46_CV (lvNil _) (by kernel_rfl) (by decide) rfl (by intro s; kernel_rfl) (fun s r h=>h)
theorem G46_l0_V:LValid 0 Tryz.prog (.loop G46_l0_c) G46_l0_L false:=orT_valid G46_l0_VO (G46_l0_v1_VO)
theorem G46_LV:LV 0 Tryz.prog false (loopsOf (bodyOf Tryz.f46)) [G46_l0_L]:=by
  have hl:loopsOf (bodyOf Tryz.f46)=[.loop G46_l0_c]:=by kernel_rfl
  rw [hl]; exact ⟨G46_l0_V,trivial⟩
theorem G46_ent:Ent Tryz.prog 46:=⟨by decide,enters_of Tryz.func46 (by kernel_rfl) rfl⟩
theorem G46_hev:∀ x,fnR Tryz.prog G46_C [G46_l0_L] Tryz.f46 (bodyOf Tryz.f46) (encs [.dat T137,.dat (.list (.int .i64)),.dat (.list (.int .i64))] x) ⟨[],[],0⟩ (frzF (.tup (.cons (.dat (.list (.int .i64))) (.cons (.dat (.int .i64)) (.nil)))))=G46 x.1 x.2.1 x.2.2.1:=by
  intro x; kernel_rfl
theorem G46_valid:G46_E.Valid Tryz.prog:=
  pureE_valid (by kernel_rfl) (by kernel_rfl) G46_ent (frz_lcall mixed Tryz.func46 rfl G46_ent G46_CV G46_LV (by kernel_rfl) (by kernel_rfl) G46_hev)
def G149_C:CalT:=tabC []
theorem G149_CV:CV Tryz.prog G149_C:=tabC_valid (l:=_) trivial
def G149_l0_c:Code:=loopAt (bodyOf Tryz.f149) 0
def G149_l0_S:SPat:=⟨[.any,.any,.any,.own 0 (.int .i64),.any,.any,.any,.any,.any,.any,.dat (.list T23),.dat (.int .i64),.dat (.int .i64),.any,.any,.any,.any,.any,.any,.any,.any,.any,.any],[],1⟩
def G149_l0_step (s:(((List Int)×((List E23)×(Int×(Int×Unit))))×Unit)):Option (Nat×(((List Int)×((List E23)×(Int×(Int×Unit))))×Unit)):=(bif (decide (s.1.2.2.2.1 < s.1.2.2.1)) then (bif (decide (0≤s.1.2.2.2.1)&&decide (s.1.2.2.2.1 < (List.length s.1.2.1:Int))) then (bif (decide (List.length s.1.1+List.length [(List.getD s.1.2.1 (Int.toNat s.1.2.2.2.1) (0,(0,()))).1]≤LIM)) then some (0,(((s.1.1++[(List.getD s.1.2.1 (Int.toNat s.1.2.2.2.1) (0,(0,()))).1]),(s.1.2.1,(s.1.2.2.1,((IntKind.wrap .i64 (s.1.2.2.2.1+1)),())))),())) else none) else none) else some (1,((s.1.1,(s.1.2.1,(s.1.2.2.1,(s.1.2.2.2.1,())))),())))
def G149_l0_fuel (s:(((List Int)×((List E23)×(Int×(Int×Unit))))×Unit)):Nat:=Int.toNat (s.1.2.2.1 - s.1.2.2.2.1)+1
def G149_l0_run (s:(((List Int)×((List E23)×(Int×(Int×Unit))))×Unit)):Option (Nat×(((List Int)×((List E23)×(Int×(Int×Unit))))×Unit)):=iter G149_l0_step (G149_l0_fuel s) s
def G149_l0_L:LoopT:=loopT G149_l0_S [.exit 0] G149_l0_run
def G149 (a0:E362):Option (List Int):=(Option.bind (G149_l0_run (([],(a0.1.2.2.2.2.1,((List.length a0.1.2.2.2.2.1:Int),(0,())))),())) fun q1=>some q1.2.1.1)
def G149_E:CEnt:=view2E 149 [.ip T362] (.own 0 (.int .i64)) fun x=>G149 x.1
theorem G149_l0_V:LValid 0 Tryz.prog (.loop G149_l0_c) G149_l0_L false:=by
  exact loopT_valid (fuel:=G149_l0_fuel) mixed G149_CV (lvNil _) (by kernel_rfl) (by decide) rfl (by intro s; kernel_rfl) (fun s r h=>h)
theorem G149_LV:LV 0 Tryz.prog false (loopsOf (bodyOf Tryz.f149)) [G149_l0_L]:=by
  have hl:loopsOf (bodyOf Tryz.f149)=[.loop G149_l0_c]:=by kernel_rfl
  rw [hl]; exact ⟨G149_l0_V,trivial⟩
theorem G149_ent:Ent Tryz.prog 149:=⟨by decide,enters_of Tryz.func149 (by kernel_rfl) rfl⟩
theorem G149_hev:∀ x,fnR Tryz.prog G149_C [G149_l0_L] Tryz.f149 (bodyOf Tryz.f149) (encs [.ip T362] x) ⟨[],[],0⟩ (finO [.ip T362] 1 (.own 0 (.int .i64)))=G149 x.1:=by
  intro x; kernel_rfl
theorem G149_valid:G149_E.Valid Tryz.prog:=
  view2E_valid (nt:=1) (by kernel_rfl) (by kernel_rfl) G149_ent (own_lcall mixed Tryz.func149 rfl G149_ent G149_CV G149_LV (by kernel_rfl) G149_hev)
def G47_C:CalT:=tabC [G143_E,G148_E,g147_seep_dyked_foul_E,G149_E]
theorem G47_CV:CV Tryz.prog G47_C:=tabC_valid (l:=_) ⟨G143_valid,G148_valid,g147_seep_dyked_foul_valid,G149_valid,trivial⟩
def G47_l0_c:Code:=loopAt (bodyOf Tryz.f47) 0
def G47_l1_c:Code:=loopAt (bodyOf Tryz.f47) 1
def G47_l0_S:SPat:=⟨[.any,.any,.fix (.bptr 0 []),.any,.any,.any,.fix .pnil,.any,.fix (.bptr 1 []),.any,.any,.any,.any,.any,.any,.any,.any,.any,.any,.any,.any,.any,.any,.any,.any,.cons (.fix (.func (.func 148) (.cons .pnil .nil) .nil)) (.cons (.fix (.func (.func 149) (.cons .pnil .nil) .nil)) (.nil)),.dat (.int .i64)]++List.replicate 31 PTy.any,[.dat T137,.dat (.arr 2 (.list (.int .i64)))],0⟩
abbrev TY49:Type:=(((Unit×(Unit×Unit))×(Int×Unit))×(E137×((List (List Int))×Unit)))
abbrev TY50:Type:=(Nat×(((Unit×(Unit×Unit))×(Int×Unit))×(E137×((List (List Int))×Unit))))
def G47_l0_step (s:TY49):Option TY50:=(bif (decide (s.1.2.1 < 2)) then (bif (decide (s.1.2.1=(0:Int))) then none else (bif (decide (s.1.2.1=(1:Int))) then none else none)) else some (1,((((),((),s.1.1.2.2)),(s.1.2.1,())),(s.2.1,(s.2.2.1,())))))
def G47_l0_fuel (s:TY49):Nat:=Int.toNat (2 - s.1.2.1)+1
def G47_l0_run (s:TY49):Option TY50:=iter G47_l0_step (G47_l0_fuel s) s
def G47_l0_O:LoopT:=loopT G47_l0_S [.exit 0] G47_l0_run
def G47_l0_v1_S:SPat:=⟨[.any,.any,.fix (.bptr 0 []),.any,.any,.any,.fix (.bptr 2 []),.any,.fix (.bptr 3 []),.any,.any,.any,.any,.any,.any,.any,.any,.any,.any,.any,.any,.any,.any,.any,.any,.cons (.fix (.func (.func 148) (.cons (.bptr 2 []) .nil) .nil)) (.cons (.fix (.func (.func 149) (.cons (.bptr 2 []) .nil) .nil)) (.nil)),.dat (.int .i64)]++List.replicate 31 PTy.any,[.dat T137,.dat T137,.cons (.dat T137) (.cons (.dat (.int .i64)) (.nil)),.dat (.arr 2 (.list (.int .i64)))],0⟩
abbrev TY51:Type:=(((Unit×(Unit×Unit))×(Int×Unit))×(E137×(E137×((E137×(Int×Unit))×((List (List Int))×Unit)))))
abbrev TY52:Type:=(Nat×(((Unit×(Unit×Unit))×(Int×Unit))×(E137×(E137×((E137×(Int×Unit))×((List (List Int))×Unit))))))
def G47_l0_v1_step (s:TY51):Option TY52:=(bif (decide (s.1.2.1 < 2)) then (bif (decide (s.1.2.1=(0:Int))) then (Option.bind (G148 s.2.2.2.1) fun r6=>(Option.bind (g147_seep_dyked_foul s.2.2.2.1 r6) fun r7=>(bif (decide (0≤s.1.2.1)&&decide (s.1.2.1 < (2:Int))) then some (0,((((),((),s.1.1.2.2)),((IntKind.wrap .i64 (s.1.2.1+1)),())),(s.2.1,(s.2.2.1,(s.2.2.2.1,((List.set s.2.2.2.2.1 (Int.toNat s.1.2.1) r7),())))))) else none))) else (bif (decide (s.1.2.1=(1:Int))) then (Option.bind (G149 s.2.2.2.1) fun r8=>(Option.bind (g147_seep_dyked_foul s.2.2.2.1 r8) fun r9=>(bif (decide (0≤s.1.2.1)&&decide (s.1.2.1 < (2:Int))) then some (0,((((),((),s.1.1.2.2)),((IntKind.wrap .i64 (s.1.2.1+1)),())),(s.2.1,(s.2.2.1,(s.2.2.2.1,((List.set s.2.2.2.2.1 (Int.toNat s.1.2.1) r9),())))))) else none))) else none)) else some (1,((((),((),s.1.1.2.2)),(s.1.2.1,())),(s.2.1,(s.2.2.1,(s.2.2.2.1,(s.2.2.2.2.1,())))))))
def G47_l0_v1_fuel (s:TY51):Nat:=Int.toNat (2 - s.1.2.1)+1
def G47_l0_v1_run (s:TY51):Option TY52:=iter G47_l0_v1_step (G47_l0_v1_fuel s) s
def G47_l0_v1_O:LoopT:=loopT G47_l0_v1_S [.exit 0] G47_l0_v1_run
def G47_l0_L:LoopT:=orT G47_l0_S.fit G47_l0_O (G47_l0_v1_O)
def G47_l1_S:SPat:=⟨[.any,.any,.any,.any,.any,.any,.any,.any,.fix (.bptr 1 []),.any,.any,.own 0 T23,.any,.any,.any,.any,.any,.any,.any,.any,.any,.any,.any,.any,.any,.any,.any,.any,.any,.any,.any,.any,.any,.any,.any,.any,.any,.any,.dat (.int .i64),.dat (.int .i64),.any,.any,.any,.any,.any,.any,.any,.any,.any,.any,.any,.any,.any,.any,.any,.any,.any,.any],[.dat T137,.dat (.arr 2 (.list (.int .i64)))],1⟩
abbrev TY53:Type:=(((List E23)×(Int×(Int×Unit)))×(E137×((List (List Int))×Unit)))
abbrev TY54:Type:=(Nat×(((List E23)×(Int×(Int×Unit)))×(E137×((List (List Int))×Unit))))
def G47_l1_step (s:TY53):Option TY54:=(bif (decide (s.1.2.2.1 < s.1.2.1)) then (bif (decide (0≤s.1.2.2.1)&&decide (s.1.2.2.1 < (List.length (List.getD s.2.2.1 (Int.toNat 0) []):Int))) then (bif (decide (0≤s.1.2.2.1)&&decide (s.1.2.2.1 < (List.length (List.getD s.2.2.1 (Int.toNat 1) []):Int))) then (bif (decide (List.length s.1.1+List.length [((List.getD (List.getD s.2.2.1 (Int.toNat 0) []) (Int.toNat s.1.2.2.1) 0),((List.getD (List.getD s.2.2.1 (Int.toNat 1) []) (Int.toNat s.1.2.2.1) 0),()))]≤LIM)) then some (0,(((s.1.1++[((List.getD (List.getD s.2.2.1 (Int.toNat 0) []) (Int.toNat s.1.2.2.1) 0),((List.getD (List.getD s.2.2.1 (Int.toNat 1) []) (Int.toNat s.1.2.2.1) 0),()))]),(s.1.2.1,((IntKind.wrap .i64 (s.1.2.2.1+1)),()))),(s.2.1,(s.2.2.1,())))) else none) else none) else none) else some (1,((s.1.1,(s.1.2.1,(s.1.2.2.1,()))),(s.2.1,(s.2.2.1,())))))
def G47_l1_fuel (s:TY53):Nat:=Int.toNat (s.1.2.1 - s.1.2.2.1)+1
def G47_l1_run (s:TY53):Option TY54:=iter G47_l1_step (G47_l1_fuel s) s
def G47_l1_O:LoopT:=loopT G47_l1_S [.exit 2] G47_l1_run
def G47_l1_v1_S:SPat:=⟨[.any,.any,.any,.any,.any,.any,.any,.any,.fix (.bptr 3 []),.any,.any,.own 0 T23,.any,.any,.any,.any,.any,.any,.any,.any,.any,.any,.any,.any,.any,.any,.any,.any,.any,.any,.any,.any,.any,.any,.any,.any,.any,.any,.dat (.int .i64),.dat (.int .i64),.any,.any,.any,.any,.any,.any,.any,.any,.any,.any,.any,.any,.any,.any,.any,.any,.any,.any],[.dat T137,.dat T137,.cons (.dat T137) (.cons (.dat (.int .i64)) (.nil)),.dat (.arr 2 (.list (.int .i64)))],1⟩
abbrev TY55:Type:=(((List E23)×(Int×(Int×Unit)))×(E137×(E137×((E137×(Int×Unit))×((List (List Int))×Unit)))))
abbrev TY56:Type:=(Nat×(((List E23)×(Int×(Int×Unit)))×(E137×(E137×((E137×(Int×Unit))×((List (List Int))×Unit))))))
def G47_l1_v1_step (s:TY55):Option TY56:=(bif (decide (s.1.2.2.1 < s.1.2.1)) then (bif (decide (0≤s.1.2.2.1)&&decide (s.1.2.2.1 < (List.length (List.getD s.2.2.2.2.1 (Int.toNat 0) []):Int))) then (bif (decide (0≤s.1.2.2.1)&&decide (s.1.2.2.1 < (List.length (List.getD s.2.2.2.2.1 (Int.toNat 1) []):Int))) then (bif (decide (List.length s.1.1+List.length [((List.getD (List.getD s.2.2.2.2.1 (Int.toNat 0) []) (Int.toNat s.1.2.2.1) 0),((List.getD (List.getD s.2.2.2.2.1 (Int.toNat 1) []) (Int.toNat s.1.2.2.1) 0),()))]≤LIM)) then some (0,(((s.1.1++[((List.getD (List.getD s.2.2.2.2.1 (Int.toNat 0) []) (Int.toNat s.1.2.2.1) 0),((List.getD (List.getD s.2.2.2.2.1 (Int.toNat 1) []) (Int.toNat s.1.2.2.1) 0),()))]),(s.1.2.1,((IntKind.wrap .i64 (s.1.2.2.1+1)),()))),(s.2.1,(s.2.2.1,(s.2.2.2.1,(s.2.2.2.2.1,())))))) else none) else none) else none) else some (1,((s.1.1,(s.1.2.1,(s.1.2.2.1,()))),(s.2.1,(s.2.2.1,(s.2.2.2.1,(s.2.2.2.2.1,())))))))
def G47_l1_v1_fuel (s:TY55):Nat:=Int.toNat (s.1.2.1 - s.1.2.2.1)+1
def G47_l1_v1_run (s:TY55):Option TY56:=iter G47_l1_v1_step (G47_l1_v1_fuel s) s
def G47_l1_v1_O:LoopT:=loopT G47_l1_v1_S [.exit 2] G47_l1_v1_run
def G47_l1_L:LoopT:=orT G47_l1_S.fit G47_l1_O (G47_l1_v1_O)
def G47 (a0:E137) (a1:(List Int)):Option ((List E23)×(Int×Unit)):=(Option.bind (G143 a0 a1) fun r1=>(altK r1 (fun r2=>(bif (!r2.1.2.1) then some ([],(2,())) else (Option.bind (G47_l0_run ((((),((),())),(0,())),(a0,(([]::([]::[])),())))) fun q4=>(Option.bind (G47_l1_run (([],(q4.2.2.1.1,(0,()))),(q4.2.2.1,(q4.2.2.2.1,())))) fun q5=>some (q5.2.1.1,(0,())))))) (fun r3=>(bif (!r3.1.2.1) then some ([],(2,())) else (Option.bind (G47_l0_v1_run ((((),((),())),(0,())),(a0,(r3.2.1,(r3.2.2.1,(([]::([]::[])),())))))) fun q10=>(Option.bind (G47_l1_v1_run (([],(q10.2.2.1.1,(0,()))),(q10.2.2.1,(q10.2.2.2.1,(q10.2.2.2.2.1,(q10.2.2.2.2.2.1,())))))) fun q11=>some (q11.2.1.1,(0,()))))))))
def G47_E:CEnt:=pureE 47 [.dat T137,.dat (.list (.int .i64))] (.tup (.cons (.dat (.list T23)) (.cons (.dat (.int .i64)) (.nil)))) fun x=>G47 x.1 x.2.1
theorem G47_l0_VO:LValid 0 Tryz.prog (.loop G47_l0_c) G47_l0_O false:=by
  exact loopT_valid (fuel:=G47_l0_fuel) mixed G47_CV (lvNil _) (by kernel_rfl) (by decide) rfl (by intro s; kernel_rfl) (fun s r h=>h)
theorem G47_l0_v1_VO:LValid 0 Tryz.prog (.loop G47_l0_c) G47_l0_v1_O false:=by
  exact loopT_valid (fuel:=G47_l0_v1_fuel) mixed G47_CV (lvNil _) (by kernel_rfl) (by decide) rfl (by intro s; kernel_rfl) (fun s r h=>h)
theorem G47_l0_V:LValid 0 Tryz.prog (.loop G47_l0_c) G47_l0_L false:=orT_valid G47_l0_VO (G47_l0_v1_VO)
theorem G47_l1_VO:LValid 0 Tryz.prog (.loop G47_l1_c) G47_l1_O false:=by
  exact loopT_valid (fuel:=G47_l1_fuel) mixed G47_CV (lvNil _) (by kernel_rfl) (by decide) rfl (by intro s; kernel_rfl) (fun s r h=>h)
theorem G47_l1_v1_VO:LValid 0 Tryz.prog (.loop G47_l1_c) G47_l1_v1_O false:=by
  exact loopT_valid (fuel:=G47_l1_v1_fuel) mixed G47_CV (lvNil _) (by kernel_rfl) (by decide) rfl (by intro s; kernel_rfl) (fun s r h=>h)
theorem G47_l1_V:LValid 0 Tryz.prog (.loop G47_l1_c) G47_l1_L false:=orT_valid G47_l1_VO (G47_l1_v1_VO)
theorem G47_LV:LV 0 Tryz.prog false (loopsOf (bodyOf Tryz.f47)) [G47_l0_L,G47_l1_L]:=by
  have hl:loopsOf (bodyOf Tryz.f47)=[.loop G47_l0_c,.loop G47_l1_c]:=by kernel_rfl
  rw [hl]; exact ⟨G47_l0_V,G47_l1_V,trivial⟩
theorem G47_ent:Ent Tryz.prog 47:=⟨by decide,enters_of Tryz.func47 (by kernel_rfl) rfl⟩
theorem G47_hev:∀ x,fnR Tryz.prog G47_C [G47_l0_L,G47_l1_L] Tryz.f47 (bodyOf Tryz.f47) (encs [.dat T137,.dat (.list (.int .i64))] x) ⟨[],[],0⟩ (frzF (.tup (.cons (.dat (.list T23)) (.cons (.dat (.int .i64)) (.nil)))))=G47 x.1 x.2.1:=by
  intro x; kernel_rfl
theorem G47_valid:G47_E.Valid Tryz.prog:=
  pureE_valid (by kernel_rfl) (by kernel_rfl) G47_ent (frz_lcall mixed Tryz.func47 rfl G47_ent G47_CV G47_LV (by kernel_rfl) (by kernel_rfl) G47_hev)
def G155_C:CalT:=tabC []
theorem G155_CV:CV Tryz.prog G155_C:=tabC_valid (l:=_) trivial
def G155 (a0:E23) (a1:Int) (a2:Int):Option Bool:=(bif (decide (a0.1≥a1)) then (bif (decide (a0.1≤a0.2.1)) then some (decide (a0.2.1≤a2)) else some false) else some false)
def G155_E:CEnt:=pureE 155 [.dat T23,.dat (.int .i64),.dat (.int .i64)] (.dat .bool) fun x=>G155 x.1 x.2.1 x.2.2.1
theorem G155_LV:LV 0 Tryz.prog false (loopsOf (bodyOf Tryz.f155)) []:=by unfold LV; cases loopsOf (bodyOf Tryz.f155)<;>trivial
theorem G155_ent:Ent Tryz.prog 155:=⟨by decide,enters_of Tryz.func155 (by kernel_rfl) rfl⟩
theorem G155_hev:∀ x,fnR Tryz.prog G155_C [] Tryz.f155 (bodyOf Tryz.f155) (encs [.dat T23,.dat (.int .i64),.dat (.int .i64)] x) ⟨[],[],0⟩ (frzF (.dat .bool))=G155 x.1 x.2.1 x.2.2.1:=by
  intro x; kernel_rfl
theorem G155_valid:G155_E.Valid Tryz.prog:=
  pureE_valid (by kernel_rfl) (by kernel_rfl) G155_ent (frz_lcall mixed Tryz.func155 rfl G155_ent G155_CV G155_LV (by kernel_rfl) (by kernel_rfl) G155_hev)
def G113_C:CalT:=tabC []
theorem G113_CV:CV Tryz.prog G113_C:=tabC_valid (l:=_) trivial
def G113 (a0:Int) (a1:Int) (a2:Int):Option Bool:=(bif (decide (a0≥a1)) then some (decide (a0≤a2)) else some false)
def G113_E:CEnt:=pureE 113 [.dat (.int .i64),.dat (.int .i64),.dat (.int .i64)] (.dat .bool) fun x=>G113 x.1 x.2.1 x.2.2.1
theorem G113_LV:LV 0 Tryz.prog false (loopsOf (bodyOf Tryz.f113)) []:=by unfold LV; cases loopsOf (bodyOf Tryz.f113)<;>trivial
theorem G113_ent:Ent Tryz.prog 113:=⟨by decide,enters_of Tryz.func113 (by kernel_rfl) rfl⟩
theorem G113_hev:∀ x,fnR Tryz.prog G113_C [] Tryz.f113 (bodyOf Tryz.f113) (encs [.dat (.int .i64),.dat (.int .i64),.dat (.int .i64)] x) ⟨[],[],0⟩ (frzF (.dat .bool))=G113 x.1 x.2.1 x.2.2.1:=by
  intro x; kernel_rfl
theorem G113_valid:G113_E.Valid Tryz.prog:=
  pureE_valid (by kernel_rfl) (by kernel_rfl) G113_ent (frz_lcall mixed Tryz.func113 rfl G113_ent G113_CV G113_LV (by kernel_rfl) (by kernel_rfl) G113_hev)
def G154_C:CalT:=tabC [G155_E,G113_E]
theorem G154_CV:CV Tryz.prog G154_C:=tabC_valid (l:=_) ⟨G155_valid,G113_valid,trivial⟩
def G154 (a0:E123):Option Bool:=(Option.bind (G155 a0.1 1 1000) fun r1=>(bif r1 then (Option.bind (G155 a0.2.1 0 1000) fun r2=>(bif r2 then (Option.bind (G155 a0.2.2.1 0 1000) fun r3=>(bif r3 then (bif (decide (a0.2.2.1.1≤a0.2.1.1)) then (bif (decide (a0.2.2.1.2.1≤a0.2.1.2.1)) then (Option.bind (G113 a0.2.2.2.1 0 1000000) fun r4=>(bif r4 then (Option.bind (G113 a0.2.2.2.2.1 1 10000) fun r5=>(bif r5 then (Option.bind (G113 a0.2.2.2.2.2.1 0 1000) fun r6=>(bif r6 then (Option.bind (G113 a0.2.2.2.2.2.2.1 0 1000) fun r7=>(bif r7 then (Option.bind (G155 a0.2.2.2.2.2.2.2.1 0 72) fun r8=>some r8) else some false)) else some false)) else some false)) else some false)) else some false) else some false) else some false)) else some false)) else some false))
def G154_E:CEnt:=pureE 154 [.dat T123] (.dat .bool) fun x=>G154 x.1
theorem G154_LV:LV 0 Tryz.prog false (loopsOf (bodyOf Tryz.f154)) []:=by unfold LV; cases loopsOf (bodyOf Tryz.f154)<;>trivial
theorem G154_ent:Ent Tryz.prog 154:=⟨by decide,enters_of Tryz.func154 (by kernel_rfl) rfl⟩
theorem G154_hev:∀ x,fnR Tryz.prog G154_C [] Tryz.f154 (bodyOf Tryz.f154) (encs [.dat T123] x) ⟨[],[],0⟩ (frzF (.dat .bool))=G154 x.1:=by
  intro x; kernel_rfl
theorem G154_valid:G154_E.Valid Tryz.prog:=
  pureE_valid (by kernel_rfl) (by kernel_rfl) G154_ent (frz_lcall mixed Tryz.func154 rfl G154_ent G154_CV G154_LV (by kernel_rfl) (by kernel_rfl) G154_hev)
def G52_C:CalT:=tabC [G154_E,G155_E,G113_E]
theorem G52_CV:CV Tryz.prog G52_C:=tabC_valid (l:=_) ⟨G154_valid,G155_valid,G113_valid,trivial⟩
def G52_l0_c:Code:=loopAt (bodyOf Tryz.f52) 0
def G52_l1_c:Code:=loopAt (bodyOf Tryz.f52) 1
def G52_l2_c:Code:=loopAt (bodyOf Tryz.f52) 2
def G52_l3_c:Code:=loopAt G52_l2_c 0
def G52_l0_S:SPat:=⟨[.any,.fix (.bptr 0 []),.dat .bool,.dat (.int .i64)]++List.replicate 105 PTy.any,[.dat T40],0⟩
def G52_l0_step (s:((Bool×(Int×Unit))×(E40×Unit))):Option (Nat×((Bool×(Int×Unit))×(E40×Unit))):=(bif (decide (s.1.2.1 < (List.length s.2.1.1:Int))) then (bif (decide (0≤s.1.2.1)&&decide (s.1.2.1 < (List.length s.2.1.1:Int))) then (Option.bind (G154 (List.getD s.2.1.1 (Int.toNat s.1.2.1) ((0,(0,())),((0,(0,())),((0,(0,())),(0,(0,(0,(0,((0,(0,())),())))))))))) fun r1=>(bif (!r1) then some (1,((false,(s.1.2.1,())),(s.2.1,()))) else some (0,((s.1.1,((IntKind.wrap .i64 (s.1.2.1+1)),())),(s.2.1,()))))) else none) else some (2,((s.1.1,(s.1.2.1,())),(s.2.1,()))))
def G52_l0_fuel (s:((Bool×(Int×Unit))×(E40×Unit))):Nat:=Int.toNat ((List.length s.2.1.1:Int) - s.1.2.1)+1
def G52_l0_run (s:((Bool×(Int×Unit))×(E40×Unit))):Option (Nat×((Bool×(Int×Unit))×(E40×Unit))):=iter G52_l0_step (G52_l0_fuel s) s
def G52_l0_L:LoopT:=loopT G52_l0_S [.ret,.exit 0] G52_l0_run
def G52_l1_S:SPat:=⟨[.any,.fix (.bptr 0 []),.dat .bool,.any,.dat (.int .i64)]++List.replicate 104 PTy.any,[.dat T40],0⟩
def G52_l1_step (s:((Bool×(Int×Unit))×(E40×Unit))):Option (Nat×((Bool×(Int×Unit))×(E40×Unit))):=(bif (decide (s.1.2.1 < (List.length s.2.1.2.1:Int))) then (bif (decide (0≤s.1.2.1)&&decide (s.1.2.1 < (List.length s.2.1.2.1:Int))) then (Option.bind (G155 (List.getD s.2.1.2.1 (Int.toNat s.1.2.1) (0,(0,()))) 0 1000) fun r3=>(bif (!r3) then some (1,((false,(s.1.2.1,())),(s.2.1,()))) else some (0,((s.1.1,((IntKind.wrap .i64 (s.1.2.1+1)),())),(s.2.1,()))))) else none) else some (2,((s.1.1,(s.1.2.1,())),(s.2.1,()))))
def G52_l1_fuel (s:((Bool×(Int×Unit))×(E40×Unit))):Nat:=Int.toNat ((List.length s.2.1.2.1:Int) - s.1.2.1)+1
def G52_l1_run (s:((Bool×(Int×Unit))×(E40×Unit))):Option (Nat×((Bool×(Int×Unit))×(E40×Unit))):=iter G52_l1_step (G52_l1_fuel s) s
def G52_l1_L:LoopT:=loopT G52_l1_S [.ret,.exit 2] G52_l1_run
def G52_l3_S:SPat:=⟨[.any,.fix (.bptr 0 []),.dat .bool,.any,.any,.dat (.int .i64),.dat (.int .i64)]++List.replicate 102 PTy.any,[.dat T40],0⟩
def G52_l3_step (s:((Bool×(Int×(Int×Unit)))×(E40×Unit))):Option (Nat×((Bool×(Int×(Int×Unit)))×(E40×Unit))):=(bif (decide (0≤s.1.2.1)&&decide (s.1.2.1 < (List.length s.2.1.2.2.1:Int))) then (bif (decide (s.1.2.2.1 < (List.length (List.getD s.2.1.2.2.1 (Int.toNat s.1.2.1) []):Int))) then (bif (decide (0≤s.1.2.1)&&decide (s.1.2.1 < (List.length s.2.1.2.2.1:Int))) then (bif (decide (0≤s.1.2.2.1)&&decide (s.1.2.2.1 < (List.length (List.getD s.2.1.2.2.1 (Int.toNat s.1.2.1) []):Int))) then (Option.bind (G113 (List.getD (List.getD s.2.1.2.2.1 (Int.toNat s.1.2.1) []) (Int.toNat s.1.2.2.1) 0) 0 72) fun r5=>(bif (!r5) then some (1,((false,(s.1.2.1,(s.1.2.2.1,()))),(s.2.1,()))) else (bif (s.1.2.1==s.1.2.2.1) then (bif (decide (0≤s.1.2.1)&&decide (s.1.2.1 < (List.length s.2.1.2.2.1:Int))) then (bif (decide (0≤s.1.2.2.1)&&decide (s.1.2.2.1 < (List.length (List.getD s.2.1.2.2.1 (Int.toNat s.1.2.1) []):Int))) then (bif ((List.getD (List.getD s.2.1.2.2.1 (Int.toNat s.1.2.1) []) (Int.toNat s.1.2.2.1) 0) != 0) then some (1,((false,(s.1.2.1,(s.1.2.2.1,()))),(s.2.1,()))) else some (0,((s.1.1,(s.1.2.1,((IntKind.wrap .i64 (s.1.2.2.1+1)),()))),(s.2.1,())))) else none) else none) else some (0,((s.1.1,(s.1.2.1,((IntKind.wrap .i64 (s.1.2.2.1+1)),()))),(s.2.1,())))))) else none) else none) else some (2,((s.1.1,(s.1.2.1,(s.1.2.2.1,()))),(s.2.1,())))) else none)
def G52_l3_fuel (s:((Bool×(Int×(Int×Unit)))×(E40×Unit))):Nat:=Int.toNat ((List.length (List.getD s.2.1.2.2.1 (Int.toNat s.1.2.1) []):Int) - s.1.2.2.1)+1
def G52_l3_run (s:((Bool×(Int×(Int×Unit)))×(E40×Unit))):Option (Nat×((Bool×(Int×(Int×Unit)))×(E40×Unit))):=iter G52_l3_step (G52_l3_fuel s) s
def G52_l3_L:LoopT:=loopT G52_l3_S [.ret,.exit 6] G52_l3_run
def G52_l2_S:SPat:=⟨[.any,.fix (.bptr 0 []),.dat .bool,.any,.any,.dat (.int .i64)]++List.replicate 103 PTy.any,[.dat T40],0⟩
def G52_l2_step (s:((Bool×(Int×Unit))×(E40×Unit))):Option (Nat×((Bool×(Int×Unit))×(E40×Unit))):=(bif (decide (s.1.2.1 < (List.length s.2.1.2.2.1:Int))) then (bif (decide (0≤s.1.2.1)&&decide (s.1.2.1 < (List.length s.2.1.2.2.1:Int))) then (bif ((List.length (List.getD s.2.1.2.2.1 (Int.toNat s.1.2.1) []):Int) != (IntKind.wrap .i64 ((List.length s.2.1.1:Int)+1))) then some (1,((false,(s.1.2.1,())),(s.2.1,()))) else (Option.bind (G52_l3_run ((s.1.1,(s.1.2.1,(0,()))),(s.2.1,()))) fun q6=>(natK q6.1 (some (1,((q6.2.1.1,(q6.2.1.2.1,())),(q6.2.2.1,())))) (fun _=>some (0,((q6.2.1.1,((IntKind.wrap .i64 (q6.2.1.2.1+1)),())),(q6.2.2.1,()))))))) else none) else some (2,((s.1.1,(s.1.2.1,())),(s.2.1,()))))
def G52_l2_fuel (s:((Bool×(Int×Unit))×(E40×Unit))):Nat:=Int.toNat ((List.length s.2.1.2.2.1:Int) - s.1.2.1)+1
def G52_l2_run (s:((Bool×(Int×Unit))×(E40×Unit))):Option (Nat×((Bool×(Int×Unit))×(E40×Unit))):=iter G52_l2_step (G52_l2_fuel s) s
def G52_l2_L:LoopT:=loopT G52_l2_S [.ret,.exit 4] G52_l2_run
def G52 (a0:E40):Option Bool:=(Option.bind (G52_l0_run ((false,(0,())),(a0,()))) fun q2=>(natK q2.1 (some q2.2.1.1) (fun _=>(Option.bind (G52_l1_run ((q2.2.1.1,(0,())),(q2.2.2.1,()))) fun q4=>(natK q4.1 (some q4.2.1.1) (fun _=>(Option.bind (G52_l2_run ((q4.2.1.1,(0,())),(q4.2.2.1,()))) fun q7=>(natK q7.1 (some q7.2.1.1) (fun _=>(Option.bind (G113 (List.length q7.2.2.1.1:Int) 1 5) fun r8=>(bif r8 then (Option.bind (G113 (List.length q7.2.2.1.2.1:Int) 1 72) fun r9=>(bif r9 then some ((List.length q7.2.2.1.2.2.1:Int)==(IntKind.wrap .i64 ((List.length q7.2.2.1.1:Int)+1))) else some false)) else some false)))))))))))
def G52_E:CEnt:=pureE 52 [.dat T40] (.dat .bool) fun x=>G52 x.1
theorem G52_l0_V:LValid 0 Tryz.prog (.loop G52_l0_c) G52_l0_L false:=by
  exact loopT_valid (fuel:=G52_l0_fuel) mixed G52_CV (lvNil _) (by kernel_rfl) (by decide) rfl (by intro s; kernel_rfl) (fun s r h=>h)
theorem G52_l1_V:LValid 0 Tryz.prog (.loop G52_l1_c) G52_l1_L false:=by
  exact loopT_valid (fuel:=G52_l1_fuel) mixed G52_CV (lvNil _) (by kernel_rfl) (by decide) rfl (by intro s; kernel_rfl) (fun s r h=>h)
theorem G52_l3_V:LValid 0 Tryz.prog (.loop G52_l3_c) G52_l3_L false:=by
  exact loopT_valid (fuel:=G52_l3_fuel) mixed G52_CV (lvNil _) (by kernel_rfl) (by decide) rfl (by intro s; kernel_rfl) (fun s r h=>h)
theorem G52_l2_V:LValid 0 Tryz.prog (.loop G52_l2_c) G52_l2_L false:=by
  have hb:∀ s,codeR Tryz.prog G52_C G52_l2_c [G52_l3_L] (G52_l2_S.encE s) (G52_l2_S.encB s) (kst G52_l2_S [.ret,.exit 4])=G52_l2_step s:=by
    intro s; kernel_rfl
  have hl:loopsOf G52_l2_c=[.loop G52_l3_c]:=by kernel_rfl
  have hL:LV 0 Tryz.prog false (loopsOf G52_l2_c) [G52_l3_L]:=by rw [hl]; exact ⟨G52_l3_V,trivial⟩
  exact loopT_valid (fuel:=G52_l2_fuel) mixed G52_CV hL (by kernel_rfl) (by decide) rfl hb (fun s r h=>h)
theorem G52_LV:LV 0 Tryz.prog false (loopsOf (bodyOf Tryz.f52)) [G52_l0_L,G52_l1_L,G52_l2_L]:=by
  have hl:loopsOf (bodyOf Tryz.f52)=[.loop G52_l0_c,.loop G52_l1_c,.loop G52_l2_c]:=by kernel_rfl
  rw [hl]; exact ⟨G52_l0_V,G52_l1_V,G52_l2_V,trivial⟩
theorem G52_ent:Ent Tryz.prog 52:=⟨by decide,enters_of Tryz.func52 (by kernel_rfl) rfl⟩
theorem G52_hev:∀ x,fnR Tryz.prog G52_C [G52_l0_L,G52_l1_L,G52_l2_L] Tryz.f52 (bodyOf Tryz.f52) (encs [.dat T40] x) ⟨[],[],0⟩ (frzF (.dat .bool))=G52 x.1:=by
  intro x; kernel_rfl
theorem G52_valid:G52_E.Valid Tryz.prog:=
  pureE_valid (by kernel_rfl) (by kernel_rfl) G52_ent (frz_lcall mixed Tryz.func52 rfl G52_ent G52_CV G52_LV (by kernel_rfl) (by kernel_rfl) G52_hev)
end Go.Proofs.YtkeipcalbbmncaaGreat.Abs
set_option linter.unusedVariables false
set_option maxRecDepth 100000
namespace Go.Proofs.YtkeipcalbbmncaaGreat.Abs
open Go.Shelf
def G37_C:CalT:=tabC [G52_E]
theorem G37_CV:CV Tryz.prog G37_C:=tabC_valid (l:=_) ⟨G52_valid,trivial⟩
def G37_l0_c:Code:=loopAt (bodyOf Tryz.f37) 0
def G37_l0_S:SPat:=⟨[.any,.fix (.bptr 0 []),.dat .bool,.dat (.int .i64)]++List.replicate 38 PTy.any,[.dat T40],0⟩
def G37_l0_step (s:((Bool×(Int×Unit))×(E40×Unit))):Option (Nat×((Bool×(Int×Unit))×(E40×Unit))):=(bif (decide (s.1.2.1 < (List.length s.2.1.2.2.1:Int))) then (bif (decide (s.1.2.1 < 10)) then (bif (decide (0≤s.1.2.1)&&decide (s.1.2.1 < (List.length s.2.1.2.2.1:Int))) then (bif (decide ((List.length (List.getD s.2.1.2.2.1 (Int.toNat s.1.2.1) []):Int) > 10)) then some (1,((false,(s.1.2.1,())),(s.2.1,()))) else some (0,((s.1.1,((IntKind.wrap .i64 (s.1.2.1+1)),())),(s.2.1,())))) else none) else some (2,((s.1.1,(s.1.2.1,())),(s.2.1,())))) else some (2,((s.1.1,(s.1.2.1,())),(s.2.1,()))))
def G37_l0_fuel (s:((Bool×(Int×Unit))×(E40×Unit))):Nat:=Int.toNat ((List.length s.2.1.2.2.1:Int) - s.1.2.1)+1
def G37_l0_run (s:((Bool×(Int×Unit))×(E40×Unit))):Option (Nat×((Bool×(Int×Unit))×(E40×Unit))):=iter G37_l0_step (G37_l0_fuel s) s
def G37_l0_L:LoopT:=loopT G37_l0_S [.ret,.exit 0] G37_l0_run
def G37 (a0:E40):Option Bool:=(Option.bind (G37_l0_run ((false,(0,())),(a0,()))) fun q1=>(natK q1.1 (some q1.2.1.1) (fun _=>(bif (decide ((List.length q1.2.2.1.1:Int)≤8)) then (bif (decide ((List.length q1.2.2.1.2.1:Int)≤80)) then (bif (decide ((List.length q1.2.2.1.2.2.1:Int)≤10)) then (Option.bind (G52 q1.2.2.1) fun r2=>some r2) else some false) else some false) else some false))))
def G37_E:CEnt:=pureE 37 [.dat T40] (.dat .bool) fun x=>G37 x.1
theorem G37_l0_V:LValid 0 Tryz.prog (.loop G37_l0_c) G37_l0_L false:=by
  exact loopT_valid (fuel:=G37_l0_fuel) mixed G37_CV (lvNil _) (by kernel_rfl) (by decide) rfl (by intro s; kernel_rfl) (fun s r h=>h)
theorem G37_LV:LV 0 Tryz.prog false (loopsOf (bodyOf Tryz.f37)) [G37_l0_L]:=by
  have hl:loopsOf (bodyOf Tryz.f37)=[.loop G37_l0_c]:=by kernel_rfl
  rw [hl]; exact ⟨G37_l0_V,trivial⟩
theorem G37_ent:Ent Tryz.prog 37:=⟨by decide,enters_of Tryz.func37 (by kernel_rfl) rfl⟩
theorem G37_hev:∀ x,fnR Tryz.prog G37_C [G37_l0_L] Tryz.f37 (bodyOf Tryz.f37) (encs [.dat T40] x) ⟨[],[],0⟩ (frzF (.dat .bool))=G37 x.1:=by
  intro x; kernel_rfl
theorem G37_valid:G37_E.Valid Tryz.prog:=
  pureE_valid (by kernel_rfl) (by kernel_rfl) G37_ent (frz_lcall mixed Tryz.func37 rfl G37_ent G37_CV G37_LV (by kernel_rfl) (by kernel_rfl) G37_hev)
def G38_C:CalT:=tabC [G113_E]
theorem G38_CV:CV Tryz.prog G38_C:=tabC_valid (l:=_) ⟨G113_valid,trivial⟩
def G38 (a0:E40) (a1:Int):Option Bool:=(Option.bind (G113 a1 0 (IntKind.wrap .i64 ((List.length a0.1:Int) - 1))) fun r1=>some r1)
def G38_E:CEnt:=pureE 38 [.dat T40,.dat (.int .i64)] (.dat .bool) fun x=>G38 x.1 x.2.1
theorem G38_LV:LV 0 Tryz.prog false (loopsOf (bodyOf Tryz.f38)) []:=by unfold LV; cases loopsOf (bodyOf Tryz.f38)<;>trivial
theorem G38_ent:Ent Tryz.prog 38:=⟨by decide,enters_of Tryz.func38 (by kernel_rfl) rfl⟩
theorem G38_hev:∀ x,fnR Tryz.prog G38_C [] Tryz.f38 (bodyOf Tryz.f38) (encs [.dat T40,.dat (.int .i64)] x) ⟨[],[],0⟩ (frzF (.dat .bool))=G38 x.1 x.2.1:=by
  intro x; kernel_rfl
theorem G38_valid:G38_E.Valid Tryz.prog:=
  pureE_valid (by kernel_rfl) (by kernel_rfl) G38_ent (frz_lcall mixed Tryz.func38 rfl G38_ent G38_CV G38_LV (by kernel_rfl) (by kernel_rfl) G38_hev)
def G39_C:CalT:=tabC [G113_E]
theorem G39_CV:CV Tryz.prog G39_C:=tabC_valid (l:=_) ⟨G113_valid,trivial⟩
def G39_l0_c:Code:=loopAt (bodyOf Tryz.f39) 0
def G39_l0_S:SPat:=⟨[.any,.dat (.int .i64),.dat (.list T205),.fix (.bptr 0 []),.any,.any,.dat .bool,.dat (.int .i64)]++List.replicate 55 PTy.any,[.dat T40],0⟩
abbrev TY64:Type:=(Nat×((Int×((List E205)×(Bool×(Int×Unit))))×(E40×Unit)))
def G39_l0_step (s:((Int×((List E205)×(Bool×(Int×Unit))))×(E40×Unit))):Option TY64:=(bif (decide (s.1.2.2.2.1 < (List.length s.1.2.1:Int))) then (bif (decide (s.1.2.2.2.1≥(List.length s.2.1.2.1:Int))) then some (1,((s.1.1,(s.1.2.1,(false,(s.1.2.2.2.1,())))),(s.2.1,()))) else (bif (decide (0≤s.1.2.2.2.1)&&decide (s.1.2.2.2.1 < (List.length s.1.2.1:Int))) then (bif (decide (0≤s.1.1)&&decide (s.1.1 < (List.length s.2.1.1:Int))) then (bif (decide (0≤s.1.1)&&decide (s.1.1 < (List.length s.2.1.1:Int))) then (Option.bind (G113 ((List.getD s.1.2.1 (Int.toNat s.1.2.2.2.1) (0,(0,(false,())))).1) ((List.getD s.2.1.1 (Int.toNat s.1.1) ((0,(0,())),((0,(0,())),((0,(0,())),(0,(0,(0,(0,((0,(0,())),()))))))))).2.1.1) ((List.getD s.2.1.1 (Int.toNat s.1.1) ((0,(0,())),((0,(0,())),((0,(0,())),(0,(0,(0,(0,((0,(0,())),()))))))))).2.1.2.1)) fun r1=>(bif (!r1) then some (1,((s.1.1,(s.1.2.1,(false,(s.1.2.2.2.1,())))),(s.2.1,()))) else (bif (decide (0≤s.1.2.2.2.1)&&decide (s.1.2.2.2.1 < (List.length s.1.2.1:Int))) then (bif (decide (0≤s.1.2.2.2.1)&&decide (s.1.2.2.2.1 < (List.length s.2.1.2.1:Int))) then (bif (decide (0≤s.1.2.2.2.1)&&decide (s.1.2.2.2.1 < (List.length s.2.1.2.1:Int))) then (Option.bind (G113 ((List.getD s.1.2.1 (Int.toNat s.1.2.2.2.1) (0,(0,(false,())))).2.1) ((List.getD s.2.1.2.1 (Int.toNat s.1.2.2.2.1) (0,(0,()))).1) ((List.getD s.2.1.2.1 (Int.toNat s.1.2.2.2.1) (0,(0,()))).2.1)) fun r2=>(bif (!r2) then some (1,((s.1.1,(s.1.2.1,(false,(s.1.2.2.2.1,())))),(s.2.1,()))) else some (0,((s.1.1,(s.1.2.1,(s.1.2.2.1,((IntKind.wrap .i64 (s.1.2.2.2.1+1)),())))),(s.2.1,()))))) else none) else none) else none))) else none) else none) else none)) else some (2,((s.1.1,(s.1.2.1,(s.1.2.2.1,(s.1.2.2.2.1,())))),(s.2.1,()))))
def G39_l0_fuel (s:((Int×((List E205)×(Bool×(Int×Unit))))×(E40×Unit))):Nat:=Int.toNat ((List.length s.1.2.1:Int) - s.1.2.2.2.1)+1
def G39_l0_run (s:((Int×((List E205)×(Bool×(Int×Unit))))×(E40×Unit))):Option TY64:=iter G39_l0_step (G39_l0_fuel s) s
def G39_l0_L:LoopT:=loopT G39_l0_S [.ret,.exit 0] G39_l0_run
def G39 (a0:E40) (a1:Int) (a2:(List E205)):Option Bool:=(Option.bind (G39_l0_run ((a1,(a2,(false,(0,())))),(a0,()))) fun q3=>(natK q3.1 (some q3.2.1.2.2.1) (fun _=>some true)))
def G39_E:CEnt:=pureE 39 [.dat T40,.dat (.int .i64),.dat (.list T205)] (.dat .bool) fun x=>G39 x.1 x.2.1 x.2.2.1
theorem G39_l0_V:LValid 0 Tryz.prog (.loop G39_l0_c) G39_l0_L false:=by
  exact loopT_valid (fuel:=G39_l0_fuel) mixed G39_CV (lvNil _) (by kernel_rfl) (by decide) rfl (by intro s; kernel_rfl) (fun s r h=>h)
theorem G39_LV:LV 0 Tryz.prog false (loopsOf (bodyOf Tryz.f39)) [G39_l0_L]:=by
  have hl:loopsOf (bodyOf Tryz.f39)=[.loop G39_l0_c]:=by kernel_rfl
  rw [hl]; exact ⟨G39_l0_V,trivial⟩
theorem G39_ent:Ent Tryz.prog 39:=⟨by decide,enters_of Tryz.func39 (by kernel_rfl) rfl⟩
theorem G39_hev:∀ x,fnR Tryz.prog G39_C [G39_l0_L] Tryz.f39 (bodyOf Tryz.f39) (encs [.dat T40,.dat (.int .i64),.dat (.list T205)] x) ⟨[],[],0⟩ (frzF (.dat .bool))=G39 x.1 x.2.1 x.2.2.1:=by
  intro x; kernel_rfl
theorem G39_valid:G39_E.Valid Tryz.prog:=
  pureE_valid (by kernel_rfl) (by kernel_rfl) G39_ent (frz_lcall mixed Tryz.func39 rfl G39_ent G39_CV G39_LV (by kernel_rfl) (by kernel_rfl) G39_hev)
def G125_C:CalT:=tabC []
theorem G125_CV:CV Tryz.prog G125_C:=tabC_valid (l:=_) trivial
def G125 (a0:Int) (a1:Int) (a2:Int):Option Bool:=(bif (decide (a0≥a1)) then some (decide (a0≤a2)) else some false)
def G125_E:CEnt:=pureE 125 [.dat (.int .i64),.dat (.int .i64),.dat (.int .i64)] (.dat .bool) fun x=>G125 x.1 x.2.1 x.2.2.1
theorem G125_LV:LV 0 Tryz.prog false (loopsOf (bodyOf Tryz.f125)) []:=by unfold LV; cases loopsOf (bodyOf Tryz.f125)<;>trivial
theorem G125_ent:Ent Tryz.prog 125:=⟨by decide,enters_of Tryz.func125 (by kernel_rfl) rfl⟩
theorem G125_hev:∀ x,fnR Tryz.prog G125_C [] Tryz.f125 (bodyOf Tryz.f125) (encs [.dat (.int .i64),.dat (.int .i64),.dat (.int .i64)] x) ⟨[],[],0⟩ (frzF (.dat .bool))=G125 x.1 x.2.1 x.2.2.1:=by
  intro x; kernel_rfl
theorem G125_valid:G125_E.Valid Tryz.prog:=
  pureE_valid (by kernel_rfl) (by kernel_rfl) G125_ent (frz_lcall mixed Tryz.func125 rfl G125_ent G125_CV G125_LV (by kernel_rfl) (by kernel_rfl) G125_hev)
def G236_C:CalT:=tabC [G125_E]
theorem G236_CV:CV Tryz.prog G236_C:=tabC_valid (l:=_) ⟨G125_valid,trivial⟩
def G236 (a0:Int):Option Bool:=(Option.bind (G125 a0 0 72) fun r1=>some (!r1))
def G236_E:CEnt:=pureE 236 [.dat (.int .i64)] (.dat .bool) fun x=>G236 x.1
theorem G236_LV:LV 0 Tryz.prog false (loopsOf (bodyOf Tryz.f236)) []:=by unfold LV; cases loopsOf (bodyOf Tryz.f236)<;>trivial
theorem G236_ent:Ent Tryz.prog 236:=⟨by decide,enters_of Tryz.func236 (by kernel_rfl) rfl⟩
theorem G236_hev:∀ x,fnR Tryz.prog G236_C [] Tryz.f236 (bodyOf Tryz.f236) (encs [.dat (.int .i64)] x) ⟨[],[],0⟩ (frzF (.dat .bool))=G236 x.1:=by
  intro x; kernel_rfl
theorem G236_valid:G236_E.Valid Tryz.prog:=
  pureE_valid (by kernel_rfl) (by kernel_rfl) G236_ent (frz_lcall mixed Tryz.func236 rfl G236_ent G236_CV G236_LV (by kernel_rfl) (by kernel_rfl) G236_hev)
def G178_v2_C:CalT:=tabC [G236_E]
theorem G178_v2_CV:CV Tryz.prog G178_v2_C:=tabC_valid (l:=_) ⟨G236_valid,trivial⟩
def G178_v2_l0_c:Code:=loopAt (bodyOf Tryz.f178) 0
def G178_v2_l0_S:SPat:=⟨[.dat (.list (.int .i64)),.fix (.func (.func 236) .nil .nil),.any,.any,.dat (.int .i64),.any,.any,.dat (.int .i64),.dat (.int .i64),.any,.any,.any,.any,.any,.any,.any,.any,.any,.any],[],0⟩
def G178_v2_l0_step (s:(((List Int)×(Int×(Int×(Int×Unit))))×Unit)):Option (Nat×(((List Int)×(Int×(Int×(Int×Unit))))×Unit)):=(bif (decide (s.1.2.2.2.1 < s.1.2.2.1)) then (bif (decide (0≤s.1.2.2.2.1)&&decide (s.1.2.2.2.1 < (List.length s.1.1:Int))) then (Option.bind (G236 (List.getD s.1.1 (Int.toNat s.1.2.2.2.1) 0)) fun r1=>(bif r1 then some (1,((s.1.1,(s.1.2.2.2.1,(s.1.2.2.1,(s.1.2.2.2.1,())))),())) else some (0,((s.1.1,(s.1.2.1,(s.1.2.2.1,((IntKind.wrap .i64 (s.1.2.2.2.1+1)),())))),())))) else none) else some (2,((s.1.1,(s.1.2.1,(s.1.2.2.1,(s.1.2.2.2.1,())))),())))
def G178_v2_l0_fuel (s:(((List Int)×(Int×(Int×(Int×Unit))))×Unit)):Nat:=Int.toNat (s.1.2.2.1 - s.1.2.2.2.1)+1
def G178_v2_l0_run (s:(((List Int)×(Int×(Int×(Int×Unit))))×Unit)):Option (Nat×(((List Int)×(Int×(Int×(Int×Unit))))×Unit)):=iter G178_v2_l0_step (G178_v2_l0_fuel s) s
def G178_v2_l0_L:LoopT:=loopT G178_v2_l0_S [.ret,.exit 0] G178_v2_l0_run
def G178_v2 (a0:(List Int)):Option Int:=(Option.bind (G178_v2_l0_run ((a0,(0,((List.length a0:Int),(0,())))),())) fun q2=>(natK q2.1 (some q2.2.1.2.1) (fun _=>some (-1))))
def G178_v2_E:CEnt:=pureE 178 [.dat (.list (.int .i64)),.fix (.func (.func 236) .nil .nil)] (.dat (.int .i64)) fun x=>G178_v2 x.1
theorem G178_v2_l0_V:LValid 0 Tryz.prog (.loop G178_v2_l0_c) G178_v2_l0_L false:=by
  exact loopT_valid (fuel:=G178_v2_l0_fuel) mixed G178_v2_CV (lvNil _) (by kernel_rfl) (by decide) rfl (by intro s; kernel_rfl) (fun s r h=>h)
theorem G178_v2_LV:LV 0 Tryz.prog false (loopsOf (bodyOf Tryz.f178)) [G178_v2_l0_L]:=by
  have hl:loopsOf (bodyOf Tryz.f178)=[.loop G178_v2_l0_c]:=by kernel_rfl
  rw [hl]; exact ⟨G178_v2_l0_V,trivial⟩
theorem G178_v2_ent:Ent Tryz.prog 178:=⟨by decide,enters_of Tryz.func178 (by kernel_rfl) rfl⟩
theorem G178_v2_hev:∀ x,fnR Tryz.prog G178_v2_C [G178_v2_l0_L] Tryz.f178 (bodyOf Tryz.f178) (encs [.dat (.list (.int .i64)),.fix (.func (.func 236) .nil .nil)] x) ⟨[],[],0⟩ (frzF (.dat (.int .i64)))=G178_v2 x.1:=by
  intro x; kernel_rfl
theorem G178_v2_valid:G178_v2_E.Valid Tryz.prog:=
  pureE_valid (by kernel_rfl) (by kernel_rfl) G178_v2_ent (frz_lcall mixed Tryz.func178 rfl G178_v2_ent G178_v2_CV G178_v2_LV (by kernel_rfl) (by kernel_rfl) G178_v2_hev)
def G106_v1_C:CalT:=tabC [G178_v2_E]
theorem G106_v1_CV:CV Tryz.prog G106_v1_C:=tabC_valid (l:=_) ⟨G178_v2_valid,trivial⟩
def G106_v1 (a0:(List Int)):Option Bool:=(Option.bind (G178_v2 a0) fun r1=>some (decide (r1≥0)))
def G106_v1_E:CEnt:=pureE 106 [.dat (.list (.int .i64)),.fix (.func (.func 236) .nil .nil)] (.dat .bool) fun x=>G106_v1 x.1
theorem G106_v1_LV:LV 0 Tryz.prog false (loopsOf (bodyOf Tryz.f106)) []:=by unfold LV; cases loopsOf (bodyOf Tryz.f106)<;>trivial
theorem G106_v1_ent:Ent Tryz.prog 106:=⟨by decide,enters_of Tryz.func106 (by kernel_rfl) rfl⟩
theorem G106_v1_hev:∀ x,fnR Tryz.prog G106_v1_C [] Tryz.f106 (bodyOf Tryz.f106) (encs [.dat (.list (.int .i64)),.fix (.func (.func 236) .nil .nil)] x) ⟨[],[],0⟩ (frzF (.dat .bool))=G106_v1 x.1:=by
  intro x; kernel_rfl
theorem G106_v1_valid:G106_v1_E.Valid Tryz.prog:=
  pureE_valid (by kernel_rfl) (by kernel_rfl) G106_v1_ent (frz_lcall mixed Tryz.func106 rfl G106_v1_ent G106_v1_CV G106_v1_LV (by kernel_rfl) (by kernel_rfl) G106_v1_hev)
def G241_C:CalT:=tabC []
theorem G241_CV:CV Tryz.prog G241_C:=tabC_valid (l:=_) trivial
def G241 (a0:E23) (a1:Int) (a2:Int):Option Bool:=(bif (decide (a0.1≥a1)) then (bif (decide (a0.1≤a0.2.1)) then some (decide (a0.2.1≤a2)) else some false) else some false)
def G241_E:CEnt:=pureE 241 [.dat T23,.dat (.int .i64),.dat (.int .i64)] (.dat .bool) fun x=>G241 x.1 x.2.1 x.2.2.1
theorem G241_LV:LV 0 Tryz.prog false (loopsOf (bodyOf Tryz.f241)) []:=by unfold LV; cases loopsOf (bodyOf Tryz.f241)<;>trivial
theorem G241_ent:Ent Tryz.prog 241:=⟨by decide,enters_of Tryz.func241 (by kernel_rfl) rfl⟩
theorem G241_hev:∀ x,fnR Tryz.prog G241_C [] Tryz.f241 (bodyOf Tryz.f241) (encs [.dat T23,.dat (.int .i64),.dat (.int .i64)] x) ⟨[],[],0⟩ (frzF (.dat .bool))=G241 x.1 x.2.1 x.2.2.1:=by
  intro x; kernel_rfl
theorem G241_valid:G241_E.Valid Tryz.prog:=
  pureE_valid (by kernel_rfl) (by kernel_rfl) G241_ent (frz_lcall mixed Tryz.func241 rfl G241_ent G241_CV G241_LV (by kernel_rfl) (by kernel_rfl) G241_hev)
def G239_C:CalT:=tabC [G241_E,G125_E]
theorem G239_CV:CV Tryz.prog G239_C:=tabC_valid (l:=_) ⟨G241_valid,G125_valid,trivial⟩
def G239 (a0:E123):Option Bool:=(Option.bind (G241 a0.1 1 1000) fun r1=>(bif r1 then (Option.bind (G241 a0.2.1 0 1000) fun r2=>(bif r2 then (Option.bind (G241 a0.2.2.1 0 1000) fun r3=>(bif r3 then (bif (decide (a0.2.2.1.1≤a0.2.1.1)) then (bif (decide (a0.2.2.1.2.1≤a0.2.1.2.1)) then (Option.bind (G125 a0.2.2.2.1 0 1000000) fun r4=>(bif r4 then (Option.bind (G125 a0.2.2.2.2.1 1 10000) fun r5=>(bif r5 then (Option.bind (G125 a0.2.2.2.2.2.1 0 1000) fun r6=>(bif r6 then (Option.bind (G125 a0.2.2.2.2.2.2.1 0 1000) fun r7=>(bif r7 then (Option.bind (G241 a0.2.2.2.2.2.2.2.1 0 72) fun r8=>some r8) else some false)) else some false)) else some false)) else some false)) else some false) else some false) else some false)) else some false)) else some false))
def G239_E:CEnt:=pureE 239 [.dat T123] (.dat .bool) fun x=>G239 x.1
theorem G239_LV:LV 0 Tryz.prog false (loopsOf (bodyOf Tryz.f239)) []:=by unfold LV; cases loopsOf (bodyOf Tryz.f239)<;>trivial
theorem G239_ent:Ent Tryz.prog 239:=⟨by decide,enters_of Tryz.func239 (by kernel_rfl) rfl⟩
theorem G239_hev:∀ x,fnR Tryz.prog G239_C [] Tryz.f239 (bodyOf Tryz.f239) (encs [.dat T123] x) ⟨[],[],0⟩ (frzF (.dat .bool))=G239 x.1:=by
  intro x; kernel_rfl
theorem G239_valid:G239_E.Valid Tryz.prog:=
  pureE_valid (by kernel_rfl) (by kernel_rfl) G239_ent (frz_lcall mixed Tryz.func239 rfl G239_ent G239_CV G239_LV (by kernel_rfl) (by kernel_rfl) G239_hev)
def G238_C:CalT:=tabC [G239_E]
theorem G238_CV:CV Tryz.prog G238_C:=tabC_valid (l:=_) ⟨G239_valid,trivial⟩
def G238 (a0:E123):Option Bool:=(Option.bind (G239 a0) fun r1=>some (!r1))
def G238_E:CEnt:=pureE 238 [.dat T123] (.dat .bool) fun x=>G238 x.1
theorem G238_LV:LV 0 Tryz.prog false (loopsOf (bodyOf Tryz.f238)) []:=by unfold LV; cases loopsOf (bodyOf Tryz.f238)<;>trivial
theorem G238_ent:Ent Tryz.prog 238:=⟨by decide,enters_of Tryz.func238 (by kernel_rfl) rfl⟩
theorem G238_hev:∀ x,fnR Tryz.prog G238_C [] Tryz.f238 (bodyOf Tryz.f238) (encs [.dat T123] x) ⟨[],[],0⟩ (frzF (.dat .bool))=G238 x.1:=by
  intro x; kernel_rfl
theorem G238_valid:G238_E.Valid Tryz.prog:=
  pureE_valid (by kernel_rfl) (by kernel_rfl) G238_ent (frz_lcall mixed Tryz.func238 rfl G238_ent G238_CV G238_LV (by kernel_rfl) (by kernel_rfl) G238_hev)
def G345_C:CalT:=tabC [G238_E]
theorem G345_CV:CV Tryz.prog G345_C:=tabC_valid (l:=_) ⟨G238_valid,trivial⟩
def G345_l0_c:Code:=loopAt (bodyOf Tryz.f345) 0
def G345_l0_S:SPat:=⟨[.dat (.list T123),.fix (.func (.func 238) .nil .nil),.any,.any,.dat (.int .i64),.any,.any,.dat (.int .i64),.dat (.int .i64),.any,.any,.any,.any,.any,.any,.any,.any,.any,.any],[],0⟩
def G345_l0_step (s:(((List E123)×(Int×(Int×(Int×Unit))))×Unit)):Option (Nat×(((List E123)×(Int×(Int×(Int×Unit))))×Unit)):=(bif (decide (s.1.2.2.2.1 < s.1.2.2.1)) then (bif (decide (0≤s.1.2.2.2.1)&&decide (s.1.2.2.2.1 < (List.length s.1.1:Int))) then (Option.bind (G238 (List.getD s.1.1 (Int.toNat s.1.2.2.2.1) ((0,(0,())),((0,(0,())),((0,(0,())),(0,(0,(0,(0,((0,(0,())),())))))))))) fun r1=>(bif r1 then some (1,((s.1.1,(s.1.2.2.2.1,(s.1.2.2.1,(s.1.2.2.2.1,())))),())) else some (0,((s.1.1,(s.1.2.1,(s.1.2.2.1,((IntKind.wrap .i64 (s.1.2.2.2.1+1)),())))),())))) else none) else some (2,((s.1.1,(s.1.2.1,(s.1.2.2.1,(s.1.2.2.2.1,())))),())))
def G345_l0_fuel (s:(((List E123)×(Int×(Int×(Int×Unit))))×Unit)):Nat:=Int.toNat (s.1.2.2.1 - s.1.2.2.2.1)+1
def G345_l0_run (s:(((List E123)×(Int×(Int×(Int×Unit))))×Unit)):Option (Nat×(((List E123)×(Int×(Int×(Int×Unit))))×Unit)):=iter G345_l0_step (G345_l0_fuel s) s
def G345_l0_L:LoopT:=loopT G345_l0_S [.ret,.exit 0] G345_l0_run
def G345 (a0:(List E123)):Option Int:=(Option.bind (G345_l0_run ((a0,(0,((List.length a0:Int),(0,())))),())) fun q2=>(natK q2.1 (some q2.2.1.2.1) (fun _=>some (-1))))
def G345_E:CEnt:=pureE 345 [.dat (.list T123),.fix (.func (.func 238) .nil .nil)] (.dat (.int .i64)) fun x=>G345 x.1
theorem G345_l0_V:LValid 0 Tryz.prog (.loop G345_l0_c) G345_l0_L false:=by
  exact loopT_valid (fuel:=G345_l0_fuel) mixed G345_CV (lvNil _) (by kernel_rfl) (by decide) rfl (by intro s; kernel_rfl) (fun s r h=>h)
theorem G345_LV:LV 0 Tryz.prog false (loopsOf (bodyOf Tryz.f345)) [G345_l0_L]:=by
  have hl:loopsOf (bodyOf Tryz.f345)=[.loop G345_l0_c]:=by kernel_rfl
  rw [hl]; exact ⟨G345_l0_V,trivial⟩
theorem G345_ent:Ent Tryz.prog 345:=⟨by decide,enters_of Tryz.func345 (by kernel_rfl) rfl⟩
theorem G345_hev:∀ x,fnR Tryz.prog G345_C [G345_l0_L] Tryz.f345 (bodyOf Tryz.f345) (encs [.dat (.list T123),.fix (.func (.func 238) .nil .nil)] x) ⟨[],[],0⟩ (frzF (.dat (.int .i64)))=G345 x.1:=by
  intro x; kernel_rfl
theorem G345_valid:G345_E.Valid Tryz.prog:=
  pureE_valid (by kernel_rfl) (by kernel_rfl) G345_ent (frz_lcall mixed Tryz.func345 rfl G345_ent G345_CV G345_LV (by kernel_rfl) (by kernel_rfl) G345_hev)
def G237_C:CalT:=tabC [G345_E]
theorem G237_CV:CV Tryz.prog G237_C:=tabC_valid (l:=_) ⟨G345_valid,trivial⟩
def G237 (a0:(List E123)):Option Bool:=(Option.bind (G345 a0) fun r1=>some (decide (r1≥0)))
def G237_E:CEnt:=pureE 237 [.dat (.list T123),.fix (.func (.func 238) .nil .nil)] (.dat .bool) fun x=>G237 x.1
theorem G237_LV:LV 0 Tryz.prog false (loopsOf (bodyOf Tryz.f237)) []:=by unfold LV; cases loopsOf (bodyOf Tryz.f237)<;>trivial
theorem G237_ent:Ent Tryz.prog 237:=⟨by decide,enters_of Tryz.func237 (by kernel_rfl) rfl⟩
theorem G237_hev:∀ x,fnR Tryz.prog G237_C [] Tryz.f237 (bodyOf Tryz.f237) (encs [.dat (.list T123),.fix (.func (.func 238) .nil .nil)] x) ⟨[],[],0⟩ (frzF (.dat .bool))=G237 x.1:=by
  intro x; kernel_rfl
theorem G237_valid:G237_E.Valid Tryz.prog:=
  pureE_valid (by kernel_rfl) (by kernel_rfl) G237_ent (frz_lcall mixed Tryz.func237 rfl G237_ent G237_CV G237_LV (by kernel_rfl) (by kernel_rfl) G237_hev)
def G240_C:CalT:=tabC [G241_E]
theorem G240_CV:CV Tryz.prog G240_C:=tabC_valid (l:=_) ⟨G241_valid,trivial⟩
def G240 (a0:E23):Option Bool:=(Option.bind (G241 a0 0 1000) fun r1=>some (!r1))
def G240_E:CEnt:=pureE 240 [.dat T23] (.dat .bool) fun x=>G240 x.1
theorem G240_LV:LV 0 Tryz.prog false (loopsOf (bodyOf Tryz.f240)) []:=by unfold LV; cases loopsOf (bodyOf Tryz.f240)<;>trivial
theorem G240_ent:Ent Tryz.prog 240:=⟨by decide,enters_of Tryz.func240 (by kernel_rfl) rfl⟩
theorem G240_hev:∀ x,fnR Tryz.prog G240_C [] Tryz.f240 (bodyOf Tryz.f240) (encs [.dat T23] x) ⟨[],[],0⟩ (frzF (.dat .bool))=G240 x.1:=by
  intro x; kernel_rfl
theorem G240_valid:G240_E.Valid Tryz.prog:=
  pureE_valid (by kernel_rfl) (by kernel_rfl) G240_ent (frz_lcall mixed Tryz.func240 rfl G240_ent G240_CV G240_LV (by kernel_rfl) (by kernel_rfl) G240_hev)
def G315_v2_C:CalT:=tabC [G240_E]
theorem G315_v2_CV:CV Tryz.prog G315_v2_C:=tabC_valid (l:=_) ⟨G240_valid,trivial⟩
def G315_v2_l0_c:Code:=loopAt (bodyOf Tryz.f315) 0
def G315_v2_l0_S:SPat:=⟨[.dat (.list T23),.fix (.func (.func 240) .nil .nil),.any,.any,.dat (.int .i64),.any,.any,.dat (.int .i64),.dat (.int .i64),.any,.any,.any,.any,.any,.any,.any,.any,.any,.any],[],0⟩
def G315_v2_l0_step (s:(((List E23)×(Int×(Int×(Int×Unit))))×Unit)):Option (Nat×(((List E23)×(Int×(Int×(Int×Unit))))×Unit)):=(bif (decide (s.1.2.2.2.1 < s.1.2.2.1)) then (bif (decide (0≤s.1.2.2.2.1)&&decide (s.1.2.2.2.1 < (List.length s.1.1:Int))) then (Option.bind (G240 (List.getD s.1.1 (Int.toNat s.1.2.2.2.1) (0,(0,())))) fun r1=>(bif r1 then some (1,((s.1.1,(s.1.2.2.2.1,(s.1.2.2.1,(s.1.2.2.2.1,())))),())) else some (0,((s.1.1,(s.1.2.1,(s.1.2.2.1,((IntKind.wrap .i64 (s.1.2.2.2.1+1)),())))),())))) else none) else some (2,((s.1.1,(s.1.2.1,(s.1.2.2.1,(s.1.2.2.2.1,())))),())))
def G315_v2_l0_fuel (s:(((List E23)×(Int×(Int×(Int×Unit))))×Unit)):Nat:=Int.toNat (s.1.2.2.1 - s.1.2.2.2.1)+1
def G315_v2_l0_run (s:(((List E23)×(Int×(Int×(Int×Unit))))×Unit)):Option (Nat×(((List E23)×(Int×(Int×(Int×Unit))))×Unit)):=iter G315_v2_l0_step (G315_v2_l0_fuel s) s
def G315_v2_l0_L:LoopT:=loopT G315_v2_l0_S [.ret,.exit 0] G315_v2_l0_run
def G315_v2 (a0:(List E23)):Option Int:=(Option.bind (G315_v2_l0_run ((a0,(0,((List.length a0:Int),(0,())))),())) fun q2=>(natK q2.1 (some q2.2.1.2.1) (fun _=>some (-1))))
def G315_v2_E:CEnt:=pureE 315 [.dat (.list T23),.fix (.func (.func 240) .nil .nil)] (.dat (.int .i64)) fun x=>G315_v2 x.1
theorem G315_v2_l0_V:LValid 0 Tryz.prog (.loop G315_v2_l0_c) G315_v2_l0_L false:=by
  exact loopT_valid (fuel:=G315_v2_l0_fuel) mixed G315_v2_CV (lvNil _) (by kernel_rfl) (by decide) rfl (by intro s; kernel_rfl) (fun s r h=>h)
theorem G315_v2_LV:LV 0 Tryz.prog false (loopsOf (bodyOf Tryz.f315)) [G315_v2_l0_L]:=by
  have hl:loopsOf (bodyOf Tryz.f315)=[.loop G315_v2_l0_c]:=by kernel_rfl
  rw [hl]; exact ⟨G315_v2_l0_V,trivial⟩
theorem G315_v2_ent:Ent Tryz.prog 315:=⟨by decide,enters_of Tryz.func315 (by kernel_rfl) rfl⟩
theorem G315_v2_hev:∀ x,fnR Tryz.prog G315_v2_C [G315_v2_l0_L] Tryz.f315 (bodyOf Tryz.f315) (encs [.dat (.list T23),.fix (.func (.func 240) .nil .nil)] x) ⟨[],[],0⟩ (frzF (.dat (.int .i64)))=G315_v2 x.1:=by
  intro x; kernel_rfl
theorem G315_v2_valid:G315_v2_E.Valid Tryz.prog:=
  pureE_valid (by kernel_rfl) (by kernel_rfl) G315_v2_ent (frz_lcall mixed Tryz.func315 rfl G315_v2_ent G315_v2_CV G315_v2_LV (by kernel_rfl) (by kernel_rfl) G315_v2_hev)
def G193_v2_C:CalT:=tabC [G315_v2_E]
theorem G193_v2_CV:CV Tryz.prog G193_v2_C:=tabC_valid (l:=_) ⟨G315_v2_valid,trivial⟩
def G193_v2 (a0:(List E23)):Option Bool:=(Option.bind (G315_v2 a0) fun r1=>some (decide (r1≥0)))
def G193_v2_E:CEnt:=pureE 193 [.dat (.list T23),.fix (.func (.func 240) .nil .nil)] (.dat .bool) fun x=>G193_v2 x.1
theorem G193_v2_LV:LV 0 Tryz.prog false (loopsOf (bodyOf Tryz.f193)) []:=by unfold LV; cases loopsOf (bodyOf Tryz.f193)<;>trivial
theorem G193_v2_ent:Ent Tryz.prog 193:=⟨by decide,enters_of Tryz.func193 (by kernel_rfl) rfl⟩
theorem G193_v2_hev:∀ x,fnR Tryz.prog G193_v2_C [] Tryz.f193 (bodyOf Tryz.f193) (encs [.dat (.list T23),.fix (.func (.func 240) .nil .nil)] x) ⟨[],[],0⟩ (frzF (.dat .bool))=G193_v2 x.1:=by
  intro x; kernel_rfl
theorem G193_v2_valid:G193_v2_E.Valid Tryz.prog:=
  pureE_valid (by kernel_rfl) (by kernel_rfl) G193_v2_ent (frz_lcall mixed Tryz.func193 rfl G193_v2_ent G193_v2_CV G193_v2_LV (by kernel_rfl) (by kernel_rfl) G193_v2_hev)
def G124_C:CalT:=tabC [G106_v1_E,G125_E,G237_E,G193_v2_E]
theorem G124_CV:CV Tryz.prog G124_C:=tabC_valid (l:=_) ⟨G106_v1_valid,G125_valid,G237_valid,G193_v2_valid,trivial⟩
def G124_l0_c:Code:=loopAt (bodyOf Tryz.f124) 0
def G124_l0_S:SPat:=⟨[.any,.fix (.bptr 0 []),.dat .bool,.dat (.int .i64),.any,.any,.any,.any,.any,.any,.any,.any,.any,.any,.any,.any,.dat (.list (.list (.int .i64))),.dat (.int .i64),.dat (.int .i64)]++List.replicate 42 PTy.any,[.dat T40],0⟩
abbrev TY65:Type:=(Nat×((Bool×(Int×((List (List Int))×(Int×(Int×Unit)))))×(E40×Unit)))
def G124_l0_step (s:((Bool×(Int×((List (List Int))×(Int×(Int×Unit)))))×(E40×Unit))):Option TY65:=(bif (decide (s.1.2.2.2.2.1 < s.1.2.2.2.1)) then (bif (decide (0≤s.1.2.2.2.2.1)&&decide (s.1.2.2.2.2.1 < (List.length s.1.2.2.1:Int))) then (bif ((List.length (List.getD s.1.2.2.1 (Int.toNat s.1.2.2.2.2.1) []):Int) != s.1.2.1) then some (1,((false,(s.1.2.1,(s.1.2.2.1,(s.1.2.2.2.1,(s.1.2.2.2.2.1,()))))),(s.2.1,()))) else (bif (decide (0≤s.1.2.2.2.2.1)&&decide (s.1.2.2.2.2.1 < (List.length (List.getD s.1.2.2.1 (Int.toNat s.1.2.2.2.2.1) []):Int))) then (bif ((List.getD (List.getD s.1.2.2.1 (Int.toNat s.1.2.2.2.2.1) []) (Int.toNat s.1.2.2.2.2.1) 0) != 0) then some (1,((false,(s.1.2.1,(s.1.2.2.1,(s.1.2.2.2.1,(s.1.2.2.2.2.1,()))))),(s.2.1,()))) else (Option.bind (G106_v1 (List.getD s.1.2.2.1 (Int.toNat s.1.2.2.2.2.1) [])) fun r1=>(bif r1 then some (1,((false,(s.1.2.1,(s.1.2.2.1,(s.1.2.2.2.1,(s.1.2.2.2.2.1,()))))),(s.2.1,()))) else some (0,((s.1.1,(s.1.2.1,(s.1.2.2.1,(s.1.2.2.2.1,((IntKind.wrap .i64 (s.1.2.2.2.2.1+1)),()))))),(s.2.1,())))))) else none)) else none) else some (2,((s.1.1,(s.1.2.1,(s.1.2.2.1,(s.1.2.2.2.1,(s.1.2.2.2.2.1,()))))),(s.2.1,()))))
def G124_l0_fuel (s:((Bool×(Int×((List (List Int))×(Int×(Int×Unit)))))×(E40×Unit))):Nat:=Int.toNat (s.1.2.2.2.1 - s.1.2.2.2.2.1)+1
def G124_l0_run (s:((Bool×(Int×((List (List Int))×(Int×(Int×Unit)))))×(E40×Unit))):Option TY65:=iter G124_l0_step (G124_l0_fuel s) s
def G124_l0_L:LoopT:=loopT G124_l0_S [.ret,.exit 0] G124_l0_run
def G124 (a0:E40):Option Bool:=(bif ((List.length a0.2.2.1:Int) != (IntKind.wrap .i64 ((List.length a0.1:Int)+1))) then some false else (Option.bind (G124_l0_run ((false,((IntKind.wrap .i64 ((List.length a0.1:Int)+1)),(a0.2.2.1,((List.length a0.2.2.1:Int),(0,()))))),(a0,()))) fun q2=>(natK q2.1 (some q2.2.1.1) (fun _=>(Option.bind (G125 (List.length q2.2.2.1.1:Int) 1 5) fun r3=>(bif r3 then (Option.bind (G125 (List.length q2.2.2.1.2.1:Int) 1 72) fun r4=>(bif r4 then (Option.bind (G237 q2.2.2.1.1) fun r5=>(bif (!r5) then (Option.bind (G193_v2 q2.2.2.1.2.1) fun r6=>some (!r6)) else some false)) else some false)) else some false))))))
def G124_E:CEnt:=pureE 124 [.dat T40] (.dat .bool) fun x=>G124 x.1
theorem G124_l0_V:LValid 0 Tryz.prog (.loop G124_l0_c) G124_l0_L false:=by
  exact loopT_valid (fuel:=G124_l0_fuel) mixed G124_CV (lvNil _) (by kernel_rfl) (by decide) rfl (by intro s; kernel_rfl) (fun s r h=>h)
theorem G124_LV:LV 0 Tryz.prog false (loopsOf (bodyOf Tryz.f124)) [G124_l0_L]:=by
  have hl:loopsOf (bodyOf Tryz.f124)=[.loop G124_l0_c]:=by kernel_rfl
  rw [hl]; exact ⟨G124_l0_V,trivial⟩
theorem G124_ent:Ent Tryz.prog 124:=⟨by decide,enters_of Tryz.func124 (by kernel_rfl) rfl⟩
theorem G124_hev:∀ x,fnR Tryz.prog G124_C [G124_l0_L] Tryz.f124 (bodyOf Tryz.f124) (encs [.dat T40] x) ⟨[],[],0⟩ (frzF (.dat .bool))=G124 x.1:=by
  intro x; kernel_rfl
theorem G124_valid:G124_E.Valid Tryz.prog:=
  pureE_valid (by kernel_rfl) (by kernel_rfl) G124_ent (frz_lcall mixed Tryz.func124 rfl G124_ent G124_CV G124_LV (by kernel_rfl) (by kernel_rfl) G124_hev)
def G126_C:CalT:=tabC []
theorem G126_CV:CV Tryz.prog G126_C:=tabC_valid (l:=_) trivial
def G126 (a0:Int) (a1:Int) (a2:Int) (a3:Int):Option Int:=some (if (IntKind.wrap .i64 (a2+a3)) < (IntKind.wrap .i64 (Int.tdiv (IntKind.wrap .i64 (a0*(IntKind.wrap .i64 (a2+a1)))) 1000)) then (IntKind.wrap .i64 (a2+a3)) else (IntKind.wrap .i64 (Int.tdiv (IntKind.wrap .i64 (a0*(IntKind.wrap .i64 (a2+a1)))) 1000)))
def G126_E:CEnt:=pureE 126 [.dat (.int .i64),.dat (.int .i64),.dat (.int .i64),.dat (.int .i64)] (.dat (.int .i64)) fun x=>G126 x.1 x.2.1 x.2.2.1 x.2.2.2.1
theorem G126_LV:LV 0 Tryz.prog false (loopsOf (bodyOf Tryz.f126)) []:=by unfold LV; cases loopsOf (bodyOf Tryz.f126)<;>trivial
theorem G126_ent:Ent Tryz.prog 126:=⟨by decide,enters_of Tryz.func126 (by kernel_rfl) rfl⟩
theorem G126_hev:∀ x,fnR Tryz.prog G126_C [] Tryz.f126 (bodyOf Tryz.f126) (encs [.dat (.int .i64),.dat (.int .i64),.dat (.int .i64),.dat (.int .i64)] x) ⟨[],[],0⟩ (frzF (.dat (.int .i64)))=G126 x.1 x.2.1 x.2.2.1 x.2.2.2.1:=by
  intro x; kernel_rfl
theorem G126_valid:G126_E.Valid Tryz.prog:=
  pureE_valid (by kernel_rfl) (by kernel_rfl) G126_ent (frz_lcall mixed Tryz.func126 rfl G126_ent G126_CV G126_LV (by kernel_rfl) (by kernel_rfl) G126_hev)
def G127_C:CalT:=tabC []
theorem G127_CV:CV Tryz.prog G127_C:=tabC_valid (l:=_) trivial
def G127_l0_c:Code:=loopAt (bodyOf Tryz.f127) 0
def G127_l0_S:SPat:=⟨[.any,.any,.any,.dat (.int .i64),.any,.any,.dat (.list (.int .i64)),.dat (.int .i64),.dat (.int .i64),.any,.any,.any,.any,.any,.any,.any,.any],[],0⟩
def G127_l0_step (s:((Int×((List Int)×(Int×(Int×Unit))))×Unit)):Option (Nat×((Int×((List Int)×(Int×(Int×Unit))))×Unit)):=(bif (decide (s.1.2.2.2.1 < s.1.2.2.1)) then (bif (decide (0≤s.1.2.2.2.1)&&decide (s.1.2.2.2.1 < (List.length s.1.2.1:Int))) then some (0,(((IntKind.wrap .i64 (s.1.1+(List.getD s.1.2.1 (Int.toNat s.1.2.2.2.1) 0))),(s.1.2.1,(s.1.2.2.1,((IntKind.wrap .i64 (s.1.2.2.2.1+1)),())))),())) else none) else some (1,((s.1.1,(s.1.2.1,(s.1.2.2.1,(s.1.2.2.2.1,())))),())))
def G127_l0_fuel (s:((Int×((List Int)×(Int×(Int×Unit))))×Unit)):Nat:=Int.toNat (s.1.2.2.1 - s.1.2.2.2.1)+1
def G127_l0_run (s:((Int×((List Int)×(Int×(Int×Unit))))×Unit)):Option (Nat×((Int×((List Int)×(Int×(Int×Unit))))×Unit)):=iter G127_l0_step (G127_l0_fuel s) s
def G127_l0_L:LoopT:=loopT G127_l0_S [.exit 0] G127_l0_run
def G127 (a0:(List Int)):Option Int:=(Option.bind (G127_l0_run ((0,(a0,((List.length a0:Int),(0,())))),())) fun q1=>some q1.2.1.1)
def G127_E:CEnt:=pureE 127 [.dat (.list (.int .i64))] (.dat (.int .i64)) fun x=>G127 x.1
theorem G127_l0_V:LValid 0 Tryz.prog (.loop G127_l0_c) G127_l0_L false:=by
  exact loopT_valid (fuel:=G127_l0_fuel) mixed G127_CV (lvNil _) (by kernel_rfl) (by decide) rfl (by intro s; kernel_rfl) (fun s r h=>h)
theorem G127_LV:LV 0 Tryz.prog false (loopsOf (bodyOf Tryz.f127)) [G127_l0_L]:=by
  have hl:loopsOf (bodyOf Tryz.f127)=[.loop G127_l0_c]:=by kernel_rfl
  rw [hl]; exact ⟨G127_l0_V,trivial⟩
theorem G127_ent:Ent Tryz.prog 127:=⟨by decide,enters_of Tryz.func127 (by kernel_rfl) rfl⟩
theorem G127_hev:∀ x,fnR Tryz.prog G127_C [G127_l0_L] Tryz.f127 (bodyOf Tryz.f127) (encs [.dat (.list (.int .i64))] x) ⟨[],[],0⟩ (frzF (.dat (.int .i64)))=G127 x.1:=by
  intro x; kernel_rfl
theorem G127_valid:G127_E.Valid Tryz.prog:=
  pureE_valid (by kernel_rfl) (by kernel_rfl) G127_ent (frz_lcall mixed Tryz.func127 rfl G127_ent G127_CV G127_LV (by kernel_rfl) (by kernel_rfl) G127_hev)
def G41_C:CalT:=tabC [G124_E,G125_E,G126_E,G127_E]
theorem G41_CV:CV Tryz.prog G41_C:=tabC_valid (l:=_) ⟨G124_valid,G125_valid,G126_valid,G127_valid,trivial⟩
def G41_l0_c:Code:=loopAt (bodyOf Tryz.f41) 0
def G41_l0_S:SPat:=⟨[.any,.any,.any,.any,.fix (.bptr 0 []),.any,.any,.any,.fix (.bptr 1 []),.dat (.int .i64),.fix (.bptr 2 []),.fix (.bptr 3 []),.any,.any,.any,.any,.any,.any,.any,.any,.any,.any,.any,.any,.any,.any,.any,.any,.any,.any,.any,.any,.any,.any,.any,.any,.any,.any,.any,.any,.any,.any,.any,.any,.any,.any,.any,.any,.any,.any,.any,.any,.any,.any,.any,.any,.any,.any,.any,.any,.any,.any,.any,.any,.dat (.list T205),.dat (.int .i64),.dat (.int .i64)]++List.replicate 86 PTy.any,[.dat T40,.cons (.dat (.int .i64)) (.cons (.dat (.int .i64)) (.cons (.dat (.int .i64)) (.cons (.dat (.int .i64)) (.nil)))),.dat T123,.cons (.dat (.int .i64)) (.cons (.dat (.int .i64)) (.cons (.dat (.int .i64)) (.cons (.dat (.int .i64)) (.nil))))],0⟩
abbrev TY66:Type:=((Int×((List E205)×(Int×(Int×Unit))))×(E40×((Int×(Int×(Int×(Int×Unit))))×(E123×((Int×(Int×(Int×(Int×Unit))))×Unit)))))
abbrev TY67:Type:=(Nat×((Int×((List E205)×(Int×(Int×Unit))))×(E40×((Int×(Int×(Int×(Int×Unit))))×(E123×((Int×(Int×(Int×(Int×Unit))))×Unit))))))
def G41_l0_step (s:TY66):Option TY67:=(bif (decide (s.1.2.2.2.1 < s.1.2.2.1)) then (bif (decide (0≤s.1.2.2.2.1)&&decide (s.1.2.2.2.1 < (List.length s.1.2.1:Int))) then (bif (decide (0≤s.1.2.2.2.1)&&decide (s.1.2.2.2.1 < (List.length s.2.1.2.1:Int))) then (Option.bind (G125 ((List.getD s.1.2.1 (Int.toNat s.1.2.2.2.1) (0,(0,(false,())))).1) s.2.2.2.1.2.1.1 s.2.2.2.1.2.1.2.1) fun r4=>(bif (!r4) then some (1,((2,(s.1.2.1,(s.1.2.2.1,(s.1.2.2.2.1,())))),(s.2.1,((0,(0,(0,(0,())))),(s.2.2.2.1,(s.2.2.2.2.1,())))))) else (Option.bind (G125 ((List.getD s.1.2.1 (Int.toNat s.1.2.2.2.1) (0,(0,(false,())))).2.1) ((List.getD s.2.1.2.1 (Int.toNat s.1.2.2.2.1) (0,(0,()))).1) ((List.getD s.2.1.2.1 (Int.toNat s.1.2.2.2.1) (0,(0,()))).2.1)) fun r5=>(bif (!r5) then some (1,((2,(s.1.2.1,(s.1.2.2.1,(s.1.2.2.2.1,())))),(s.2.1,((0,(0,(0,(0,())))),(s.2.2.2.1,(s.2.2.2.2.1,())))))) else (bif (List.getD s.1.2.1 (Int.toNat s.1.2.2.2.1) (0,(0,(false,())))).2.2.1 then (Option.bind (G126 ((List.getD s.1.2.1 (Int.toNat s.1.2.2.2.1) (0,(0,(false,())))).1) ((List.getD s.1.2.1 (Int.toNat s.1.2.2.2.1) (0,(0,(false,())))).2.1) s.2.2.2.2.1.1 s.2.2.2.1.2.2.2.2.2.2.1) fun r6=>(Option.bind (G127 [s.2.2.2.2.1.1,s.2.2.2.1.2.2.2.2.2.2.1,(IntKind.wrap .i64 (0 - r6))]) fun r7=>(Option.bind (G127 [s.2.2.2.2.1.2.1,(IntKind.wrap .i64 (s.2.2.2.1.2.2.2.2.2.2.1*s.2.2.2.1.2.2.2.2.1))]) fun r8=>(Option.bind (G127 [s.2.2.2.2.1.2.2.1,(IntKind.wrap .i64 (Int.tdiv (IntKind.wrap .i64 ((IntKind.wrap .i64 (r6*s.2.2.2.1.2.2.2.2.1))*s.2.2.2.1.2.2.2.2.2.1)) 1000))]) fun r9=>(Option.bind (G127 [s.2.2.2.2.1.2.2.2.1,(IntKind.wrap .i64 (r6*s.2.2.2.1.2.2.2.2.1)),(IntKind.wrap .i64 (0 - (IntKind.wrap .i64 (Int.tdiv (IntKind.wrap .i64 ((IntKind.wrap .i64 (r6*s.2.2.2.1.2.2.2.2.1))*s.2.2.2.1.2.2.2.2.2.1)) 1000))))]) fun r10=>some (0,((s.1.1,(s.1.2.1,(s.1.2.2.1,((IntKind.wrap .i64 (s.1.2.2.2.1+1)),())))),(s.2.1,(s.2.2.1,(s.2.2.2.1,((r7,(r8,(r9,(r10,s.2.2.2.2.1.2.2.2.2)))),()))))))))))) else (Option.bind (G126 ((List.getD s.1.2.1 (Int.toNat s.1.2.2.2.1) (0,(0,(false,())))).1) ((List.getD s.1.2.1 (Int.toNat s.1.2.2.2.1) (0,(0,(false,())))).2.1) s.2.2.2.2.1.1 0) fun r11=>(Option.bind (G127 [s.2.2.2.2.1.1,0,(IntKind.wrap .i64 (0 - r11))]) fun r12=>(Option.bind (G127 [s.2.2.2.2.1.2.1,(IntKind.wrap .i64 ((0:Int)*s.2.2.2.1.2.2.2.2.1))]) fun r13=>(Option.bind (G127 [s.2.2.2.2.1.2.2.1,(IntKind.wrap .i64 (Int.tdiv (IntKind.wrap .i64 ((IntKind.wrap .i64 (r11*s.2.2.2.1.2.2.2.2.1))*s.2.2.2.1.2.2.2.2.2.1)) 1000))]) fun r14=>(Option.bind (G127 [s.2.2.2.2.1.2.2.2.1,(IntKind.wrap .i64 (r11*s.2.2.2.1.2.2.2.2.1)),(IntKind.wrap .i64 (0 - (IntKind.wrap .i64 (Int.tdiv (IntKind.wrap .i64 ((IntKind.wrap .i64 (r11*s.2.2.2.1.2.2.2.2.1))*s.2.2.2.1.2.2.2.2.2.1)) 1000))))]) fun r15=>some (0,((s.1.1,(s.1.2.1,(s.1.2.2.1,((IntKind.wrap .i64 (s.1.2.2.2.1+1)),())))),(s.2.1,(s.2.2.1,(s.2.2.2.1,((r12,(r13,(r14,(r15,s.2.2.2.2.1.2.2.2.2)))),())))))))))))))))) else none) else none) else some (2,((s.1.1,(s.1.2.1,(s.1.2.2.1,(s.1.2.2.2.1,())))),(s.2.1,(s.2.2.1,(s.2.2.2.1,(s.2.2.2.2.1,())))))))
def G41_l0_fuel (s:TY66):Nat:=Int.toNat (s.1.2.2.1 - s.1.2.2.2.1)+1
def G41_l0_run (s:TY66):Option TY67:=iter G41_l0_step (G41_l0_fuel s) s
def G41_l0_L:LoopT:=loopT G41_l0_S [.ret,.exit 0] G41_l0_run
def G41 (a0:E40) (a1:Int) (a2:Int) (a3:(List E205)):Option (E126×(Int×Unit)):=(bif (decide ((List.length a3:Int) > (List.length a0.2.1:Int))) then some ((0,(0,(0,(0,())))),(3,())) else (Option.bind (G124 a0) fun r1=>(bif (!r1) then some ((0,(0,(0,(0,())))),(2,())) else (Option.bind (G125 a1 0 (IntKind.wrap .i64 ((List.length a0.1:Int) - 1))) fun r2=>(bif (!r2) then some ((0,(0,(0,(0,())))),(2,())) else (bif (decide (0≤a1)&&decide (a1 < (List.length a0.1:Int))) then (bif (decide (0≤a1)&&decide (a1 < (List.length a0.1:Int))) then (Option.bind (G125 a2 ((List.getD a0.1 (Int.toNat a1) ((0,(0,())),((0,(0,())),((0,(0,())),(0,(0,(0,(0,((0,(0,())),()))))))))).1.1) ((List.getD a0.1 (Int.toNat a1) ((0,(0,())),((0,(0,())),((0,(0,())),(0,(0,(0,(0,((0,(0,())),()))))))))).1.2.1)) fun r3=>(bif (!r3) then some ((0,(0,(0,(0,())))),(2,())) else (bif (decide (0≤a1)&&decide (a1 < (List.length a0.1:Int))) then (Option.bind (G41_l0_run ((0,(a3,((List.length a3:Int),(0,())))),(a0,((0,(0,(0,(0,())))),((List.getD a0.1 (Int.toNat a1) ((0,(0,())),((0,(0,())),((0,(0,())),(0,(0,(0,(0,((0,(0,())),()))))))))),((a2,(0,(0,(0,())))),())))))) fun q16=>(natK q16.1 (some (q16.2.2.2.1,(q16.2.1.1,()))) (fun _=>some (q16.2.2.2.2.2.1,(0,()))))) else none))) else none) else none))))))
def G41_E:CEnt:=pureE 41 [.dat T40,.dat (.int .i64),.dat (.int .i64),.dat (.list T205)] (.tup (.cons (.dat T126) (.cons (.dat (.int .i64)) (.nil)))) fun x=>G41 x.1 x.2.1 x.2.2.1 x.2.2.2.1
theorem G41_l0_V:LValid 0 Tryz.prog (.loop G41_l0_c) G41_l0_L false:=by
  exact loopT_valid (fuel:=G41_l0_fuel) mixed G41_CV (lvNil _) (by kernel_rfl) (by decide) rfl (by intro s; kernel_rfl) (fun s r h=>h)
theorem G41_LV:LV 0 Tryz.prog false (loopsOf (bodyOf Tryz.f41)) [G41_l0_L]:=by
  have hl:loopsOf (bodyOf Tryz.f41)=[.loop G41_l0_c]:=by kernel_rfl
  rw [hl]; exact ⟨G41_l0_V,trivial⟩
theorem G41_ent:Ent Tryz.prog 41:=⟨by decide,enters_of Tryz.func41 (by kernel_rfl) rfl⟩
theorem G41_hev:∀ x,fnR Tryz.prog G41_C [G41_l0_L] Tryz.f41 (bodyOf Tryz.f41) (encs [.dat T40,.dat (.int .i64),.dat (.int .i64),.dat (.list T205)] x) ⟨[],[],0⟩ (frzF (.tup (.cons (.dat T126) (.cons (.dat (.int .i64)) (.nil)))))=G41 x.1 x.2.1 x.2.2.1 x.2.2.2.1:=by
  intro x; kernel_rfl
theorem G41_valid:G41_E.Valid Tryz.prog:=
  pureE_valid (by kernel_rfl) (by kernel_rfl) G41_ent (frz_lcall mixed Tryz.func41 rfl G41_ent G41_CV G41_LV (by kernel_rfl) (by kernel_rfl) G41_hev)
end Go.Proofs.YtkeipcalbbmncaaGreat.Abs
set_option linter.unusedVariables false
set_option maxRecDepth 100000
namespace Go.Proofs.YtkeipcalbbmncaaGreat.Abs
open Go.Shelf
def k40_I:ICfg:=⟨[{ g:=117 },{ g:=228 },{ g:=229,clo:=some clo337D },{ g:=338 },{ g:=388 },{ g:=409 },{ g:=413 },{ g:=412,nv:=[42] },{ g:=414 },{ g:=416 },{ g:=418 },{ g:=120 },{ g:=232 },{ g:=339,clo:=some clo389D },{ g:=340 },{ g:=341 },{ g:=342 },{ g:=343 },{ g:=484 },{ g:=455 },{ g:=234 }]⟩
theorem k40_AllI:AllI Tryz.prog k40_I.gs:=⟨⟨⟨by decide,enters_of Tryz.func117 (by kernel_rfl) rfl⟩,fun D h=>by cases h⟩,⟨⟨by decide,enters_of Tryz.func228 (by kernel_rfl) rfl⟩,fun D h=>by cases h⟩,⟨⟨by decide,enters_of Tryz.func229 (by kernel_rfl) rfl⟩,fun D h=>by cases h; exact clo337_ok⟩,⟨⟨by decide,enters_of Tryz.func338 (by kernel_rfl) rfl⟩,fun D h=>by cases h⟩,⟨⟨by decide,enters_of Tryz.func388 (by kernel_rfl) rfl⟩,fun D h=>by cases h⟩,⟨⟨by decide,enters_of Tryz.func409 (by kernel_rfl) rfl⟩,fun D h=>by cases h⟩,⟨⟨by decide,enters_of Tryz.func413 (by kernel_rfl) rfl⟩,fun D h=>by cases h⟩,⟨⟨by decide,enters_of Tryz.func412 (by kernel_rfl) rfl⟩,fun D h=>by cases h⟩,⟨⟨by decide,enters_of Tryz.func414 (by kernel_rfl) rfl⟩,fun D h=>by cases h⟩,⟨⟨by decide,enters_of Tryz.func416 (by kernel_rfl) rfl⟩,fun D h=>by cases h⟩,⟨⟨by decide,enters_of Tryz.func418 (by kernel_rfl) rfl⟩,fun D h=>by cases h⟩,⟨⟨by decide,enters_of Tryz.func120 (by kernel_rfl) rfl⟩,fun D h=>by cases h⟩,⟨⟨by decide,enters_of Tryz.func232 (by kernel_rfl) rfl⟩,fun D h=>by cases h⟩,⟨⟨by decide,enters_of Tryz.func339 (by kernel_rfl) rfl⟩,fun D h=>by cases h; exact clo389_ok⟩,⟨⟨by decide,enters_of Tryz.func340 (by kernel_rfl) rfl⟩,fun D h=>by cases h⟩,⟨⟨by decide,enters_of Tryz.func341 (by kernel_rfl) rfl⟩,fun D h=>by cases h⟩,⟨⟨by decide,enters_of Tryz.func342 (by kernel_rfl) rfl⟩,fun D h=>by cases h⟩,⟨⟨by decide,enters_of Tryz.func343 (by kernel_rfl) rfl⟩,fun D h=>by cases h⟩,⟨⟨by decide,enters_of Tryz.func484 (by kernel_rfl) rfl⟩,fun D h=>by cases h⟩,⟨⟨by decide,enters_of Tryz.func455 (by kernel_rfl) rfl⟩,fun D h=>by cases h⟩,⟨⟨by decide,enters_of Tryz.func234 (by kernel_rfl) rfl⟩,fun D h=>by cases h⟩,trivial⟩
def k40_L:List CEnt:=[G333_E,G226_E,G410_E,G347_E,G250_E,G334_E,G335_E,G251_E,G336_E,G227_E,G326_E,G329_E,G328_E,G386_E,G327_E,G332_E,G315_E,G193_E,G331_E,G387_E,G330_E,G224_E,G225_E,G230_E,G118_E,G231_E,G119_E,G235_E,G121_E,G358_E,G427_E,G417_E,G415_E,G344_E,G390_E,G233_E,G177_E,G64_E,G176_E,G279_E,G367_E,G278_E,G173_E,G175_E,G280_E,G174_E,G63_E,G182_E,G282_E,G281_E,G181_E,G284_E,G283_E,G285_E,G283_v1_E,G286_E,G283_v2_E,G287_E,G283_v3_E,G391_E,g346_ground_followed_depth_E,G242_E,G243_E,G135_E,G180_E,G67_E,G179_E,G178_E,G66_E,G222_E,G183_E,G68_E,G114_E,G223_E,G115_E,G116_E,G146_E,G244_E,G245_E,G246_E,G315_v1_E,G193_v1_E,G139_E,G247_E,G141_E,G143_E,G148_E,G253_E,G348_E,G252_E,G254_E,G255_E,G350_E,G349_E,g147_seep_dyked_foul_E,G248_E,G178_v1_E,G106_E,G144_E,G142_E,G249_E,G145_E,G140_E,G45_E,G122_E,G123_E,G69_E,G70_E,G13_E,G49_E,G221_E,G112_E,G36_E,G282_v1_E,G281_v1_E,G284_v1_E,G283_v4_E,G285_v1_E,G283_v5_E,G286_v1_E,G283_v6_E,G287_v1_E,G283_v7_E,G180_v1_E,G80_E,G18_E,G129_E,G128_E,G131_E,G130_E,G132_E,G130_v1_E,G133_E,G130_v2_E,G134_E,G130_v3_E,G42_E,G136_E,G137_E,G138_E,G43_E,G44_E,G46_E,G149_E,G47_E,G155_E,G113_E,G154_E,G52_E,G37_E,G38_E,G39_E,G125_E,G236_E,G178_v2_E,G106_v1_E,G241_E,G239_E,G238_E,G345_E,G237_E,G240_E,G315_v2_E,G193_v2_E,G124_E,G126_E,G127_E,G41_E,itoaM_E,joinM_E]
theorem k40_LV:AllV Tryz.prog k40_L:=⟨G333_valid,G226_valid,G410_valid,G347_valid,G250_valid,G334_valid,G335_valid,G251_valid,G336_valid,G227_valid,G326_valid,G329_valid,G328_valid,G386_valid,G327_valid,G332_valid,G315_valid,G193_valid,G331_valid,G387_valid,G330_valid,G224_valid,G225_valid,G230_valid,G118_valid,G231_valid,G119_valid,G235_valid,G121_valid,G358_valid,G427_valid,G417_valid,G415_valid,G344_valid,G390_valid,G233_valid,G177_valid,G64_valid,G176_valid,G279_valid,G367_valid,G278_valid,G173_valid,G175_valid,G280_valid,G174_valid,G63_valid,G182_valid,G282_valid,G281_valid,G181_valid,G284_valid,G283_valid,G285_valid,G283_v1_valid,G286_valid,G283_v2_valid,G287_valid,G283_v3_valid,G391_valid,g346_ground_followed_depth_valid,G242_valid,G243_valid,G135_valid,G180_valid,G67_valid,G179_valid,G178_valid,G66_valid,G222_valid,G183_valid,G68_valid,G114_valid,G223_valid,G115_valid,G116_valid,G146_valid,G244_valid,G245_valid,G246_valid,G315_v1_valid,G193_v1_valid,G139_valid,G247_valid,G141_valid,G143_valid,G148_valid,G253_valid,G348_valid,G252_valid,G254_valid,G255_valid,G350_valid,G349_valid,g147_seep_dyked_foul_valid,G248_valid,G178_v1_valid,G106_valid,G144_valid,G142_valid,G249_valid,G145_valid,G140_valid,G45_valid,G122_valid,G123_valid,G69_valid,G70_valid,G13_valid,G49_valid,G221_valid,G112_valid,G36_valid,G282_v1_valid,G281_v1_valid,G284_v1_valid,G283_v4_valid,G285_v1_valid,G283_v5_valid,G286_v1_valid,G283_v6_valid,G287_v1_valid,G283_v7_valid,G180_v1_valid,G80_valid,G18_valid,G129_valid,G128_valid,G131_valid,G130_valid,G132_valid,G130_v1_valid,G133_valid,G130_v2_valid,G134_valid,G130_v3_valid,G42_valid,G136_valid,G137_valid,G138_valid,G43_valid,G44_valid,G46_valid,G149_valid,G47_valid,G155_valid,G113_valid,G154_valid,G52_valid,G37_valid,G38_valid,G39_valid,G125_valid,G236_valid,G178_v2_valid,G106_v1_valid,G241_valid,G239_valid,G238_valid,G345_valid,G237_valid,G240_valid,G315_v2_valid,G193_v2_valid,G124_valid,G126_valid,G127_valid,G41_valid,itoaM_valid,joinM_valid,trivial⟩
def k40_C:CalT:=icl Tryz.prog k40_I (tabC k40_L) 60
theorem k40_CV:CV Tryz.prog k40_C:=icl_valid rfl mixed (tabC_valid k40_LV) k40_AllI (by decide) 60
def k40:Option Bool:=some true
def k40_E:CEnt:=pureE 40 [] (.dat .bool) fun x=>k40
theorem k40_hev:∀ x,fnR Tryz.prog k40_C [] Tryz.f40 (bodyOf Tryz.f40) (encs [] x) ⟨[],[],0⟩ (frzF (.dat .bool))=k40:=by
  intro x; kernel_rfl
theorem k40_valid:k40_E.Valid Tryz.prog:=
  pureE_valid (by kernel_rfl) (by kernel_rfl) ⟨by decide,enters_of Tryz.func40 (by kernel_rfl) rfl⟩ (frz_lcall mixed Tryz.func40 rfl ⟨by decide,enters_of Tryz.func40 (by kernel_rfl) rfl⟩ k40_CV (by unfold LV LVf; cases loopsOf (bodyOf Tryz.f40)<;>trivial) (by kernel_rfl) (by kernel_rfl) k40_hev)
end Go.Proofs.YtkeipcalbbmncaaGreat.Abs
end
