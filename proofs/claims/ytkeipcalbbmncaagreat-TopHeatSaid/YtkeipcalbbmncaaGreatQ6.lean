import Derived.Test.YtkeipcalbbmncaaGreatF3
import Derived.Test.YtkeipcalbbmncaaGreatP2
import Derived.Test.YtkeipcalbbmncaaGreatRows
import Derived.Test.YtkeipcalbbmncaaGreatA4
import Derived.WalkKit
import Derived.ProofKit
import Derived.OpenShut
import Derived.Deep.DeepHandedRow
import Derived.Lib.LaidTab
import Derived.Stop.LaidErr
noncomputable section
set_option linter.unusedVariables false
set_option maxRecDepth 100000
namespace Go.Proofs.YtkeipcalbbmncaaGreat.Abs
open Go.Shelf
def G6_C:CalT:=CalT.vecs (tabC [G36_E,k40_E,G37_E,G38_E,G39_E,G41_E,G42_E]) [42]
theorem G6_CV:CV Tryz.prog G6_C:=CV.vecs (C:=tabC [G36_E,k40_E,G37_E,G38_E,G39_E,G41_E,G42_E]) (tabC_valid (l:=_) ⟨G36_valid,k40_valid,G37_valid,G38_valid,G39_valid,G41_valid,G42_valid,trivial⟩)
def G6_l0_c:Code:=loopAt (bodyOf Tryz.f6) 0
def G6_l0_S:SPat:=⟨[.any,.dat (.int .i64),.dat (.int .i64),.any,.any,.dat (.list T73),.any,.fix (.bptr 0 []),.any,.any,.any,.any,.any,.fix (.bptr 2 []),.any,.fix (.bptr 3 []),.any,.any,.any,.any,.fix (.bptr 7 []),.any,.any,.any,.any,.dat (.int .i64),.dat (.int .i64)]++List.replicate 251 PTy.any,[.dat T40,.dat T25,.dat T118,.dat T126,.cons (.dat (.list T178)) (.cons (.cons (.dat (.int .i64)) (.cons (.dat (.int .i64)) (.nil))) (.nil)),.cons (.dat (.list (.int .i64))) (.cons (.vec 0 8 (.int .i64)) (.dat T94)),.vrow 1 (.int .i64),.dat T89,.vrow 0 (.int .i64),.dat T89],2⟩
abbrev TY68:Type:=((Int×(Int×((List E73)×(Int×(Int×Unit)))))×(E40×(E25×(E118×(E126×(((List E178)×((Int×(Int×Unit))×Unit))×(((List Int)×(Nat×E94))×((List Int)×(E89×((List Int)×(E89×Unit)))))))))))
abbrev TY69:Type:=(Nat×((Int×(Int×((List E73)×(Int×(Int×Unit)))))×(E40×(E25×(E118×(E126×(((List E178)×((Int×(Int×Unit))×Unit))×(((List Int)×(Nat×E94))×((List Int)×(E89×((List Int)×(E89×Unit))))))))))))
def G6_l0_step (s:TY68):Option TY69:=(bif (decide (s.1.2.2.2.2.1 < (List.length s.1.2.2.1:Int))) then (bif (decide (0≤s.1.2.2.2.2.1)&&decide (s.1.2.2.2.2.1 < (List.length s.2.2.2.1.2.2.1:Int))) then (bif (decide (s.1.2.2.2.2.1 > 0)) then (bif (decide (0≤s.1.2.2.2.2.1)&&decide (s.1.2.2.2.2.1 < (List.length s.2.2.2.1.2.1:Int))) then some (0,((s.1.1,(s.1.2.1,(s.1.2.2.1,((IntKind.wrap .i64 ((IntKind.wrap .i64 (s.1.2.2.2.1+(List.getD s.2.2.2.1.2.2.1 (Int.toNat s.1.2.2.2.2.1) 0)))+(List.getD s.2.2.2.1.2.1 (Int.toNat s.1.2.2.2.2.1) 0))),((IntKind.wrap .i64 (s.1.2.2.2.2.1+1)),()))))),(s.2.1,(s.2.2.1,(s.2.2.2.1,(s.2.2.2.2.1,(s.2.2.2.2.2.1,(s.2.2.2.2.2.2.1,(s.2.2.2.2.2.2.2.1,(s.2.2.2.2.2.2.2.2.1,(s.2.2.2.2.2.2.2.2.2.1,(s.2.2.2.2.2.2.2.2.2.2.1,())))))))))))) else none) else some (0,((s.1.1,(s.1.2.1,(s.1.2.2.1,((IntKind.wrap .i64 (s.1.2.2.2.1+(List.getD s.2.2.2.1.2.2.1 (Int.toNat s.1.2.2.2.2.1) 0))),((IntKind.wrap .i64 (s.1.2.2.2.2.1+1)),()))))),(s.2.1,(s.2.2.1,(s.2.2.2.1,(s.2.2.2.2.1,(s.2.2.2.2.2.1,(s.2.2.2.2.2.2.1,(s.2.2.2.2.2.2.2.1,(s.2.2.2.2.2.2.2.2.1,(s.2.2.2.2.2.2.2.2.2.1,(s.2.2.2.2.2.2.2.2.2.2.1,()))))))))))))) else none) else some (1,((s.1.1,(s.1.2.1,(s.1.2.2.1,(s.1.2.2.2.1,(s.1.2.2.2.2.1,()))))),(s.2.1,(s.2.2.1,(s.2.2.2.1,(s.2.2.2.2.1,(s.2.2.2.2.2.1,(s.2.2.2.2.2.2.1,(s.2.2.2.2.2.2.2.1,(s.2.2.2.2.2.2.2.2.1,(s.2.2.2.2.2.2.2.2.2.1,(s.2.2.2.2.2.2.2.2.2.2.1,())))))))))))))
def G6_l0_fuel (s:TY68):Nat:=Int.toNat ((List.length s.1.2.2.1:Int) - s.1.2.2.2.2.1)+1
def G6_l0_run (s:TY68):Option TY69:=iter G6_l0_step (G6_l0_fuel s) s
def G6_l0_L:LoopT:=loopT G6_l0_S [.exit 0] G6_l0_run
def G6_k0_S0:SPat:=⟨[.any,.dat (.int .i64),.dat (.int .i64),.dat (.list T205),.any,.dat (.list T73),.any,.fix (.bptr 0 []),.any,.any,.any,.fix (.bptr 1 []),.any,.fix (.bptr 2 [])]++List.replicate 264 PTy.any,[.dat T40,.dat T25,.dat T118],0⟩
def G6_k0_S1:SPat:=⟨[.any,.dat (.int .i64),.dat (.int .i64),.dat (.list T205),.any,.dat (.list T73),.any,.fix (.bptr 0 []),.any,.any,.any,.fix (.bptr 1 []),.any,.fix (.bptr 2 []),.any,.any,.any,.any,.any,.any,.any,.any,.any,.any,.any,.any,.any,.any,.any,.any,.any,.any,.any,.any,.any,.any,.any,.any,.any,.any,.any,.any,.any,.any,.any,.any,.any,.any,.any,.any,.any,.any,.any,.any,.any,.any,.any,.any,.any,.any,.any,.any,.any,.any,.any,.any,.any,.any,.any,.any,.any,.any,.any,.any,.any,.any,.any,.any,.any,.any,.any,.any,.any,.any,.any,.dat .bool]++List.replicate 192 PTy.any,[.dat T40,.dat T25,.dat T118],0⟩
abbrev TY70:Type:=((Int×(Int×((List E205)×((List E73)×Unit))))×(E40×(E25×(E118×Unit))))
abbrev TY71:Type:=(Nat×((Int×(Int×((List E205)×((List E73)×(Bool×Unit)))))×(E40×(E25×(E118×Unit)))))
def G6_k0_run (s:TY70):Option TY71:=(Option.bind (G36 s.2.2.1 s.1.2.2.2.1 s.2.2.2.1) fun r21=>(bif (!r21) then some (0,((s.1.1,(s.1.2.1,(s.1.2.2.1,(s.1.2.2.2.1,(true,()))))),(s.2.1,(s.2.2.1,(s.2.2.2.1,()))))) else (bif ((List.length s.1.2.2.2.1:Int)==0) then some (0,((s.1.1,(s.1.2.1,(s.1.2.2.1,(s.1.2.2.2.1,(true,()))))),(s.2.1,(s.2.2.1,(s.2.2.2.1,()))))) else (Option.bind (G37 s.2.1) fun r22=>(bif (!r22) then some (0,((s.1.1,(s.1.2.1,(s.1.2.2.1,(s.1.2.2.2.1,(true,()))))),(s.2.1,(s.2.2.1,(s.2.2.2.1,()))))) else (Option.bind (G38 s.2.1 s.1.1) fun r23=>(bif (!r23) then some (0,((s.1.1,(s.1.2.1,(s.1.2.2.1,(s.1.2.2.2.1,(true,()))))),(s.2.1,(s.2.2.1,(s.2.2.2.1,()))))) else (bif (decide ((List.length s.1.2.2.1:Int) > (List.length s.2.1.2.1:Int))) then some (0,((s.1.1,(s.1.2.1,(s.1.2.2.1,(s.1.2.2.2.1,(true,()))))),(s.2.1,(s.2.2.1,(s.2.2.2.1,()))))) else (bif (decide (0≤s.1.1)&&decide (s.1.1 < (List.length s.2.1.1:Int))) then (bif (decide (s.1.2.1 < (List.getD s.2.1.1 (Int.toNat s.1.1) ((0,(0,())),((0,(0,())),((0,(0,())),(0,(0,(0,(0,((0,(0,())),()))))))))).1.1)) then some (0,((s.1.1,(s.1.2.1,(s.1.2.2.1,(s.1.2.2.2.1,(true,()))))),(s.2.1,(s.2.2.1,(s.2.2.2.1,()))))) else (bif (decide (0≤s.1.1)&&decide (s.1.1 < (List.length s.2.1.1:Int))) then (bif (decide (s.1.2.1 > (List.getD s.2.1.1 (Int.toNat s.1.1) ((0,(0,())),((0,(0,())),((0,(0,())),(0,(0,(0,(0,((0,(0,())),()))))))))).1.2.1)) then some (0,((s.1.1,(s.1.2.1,(s.1.2.2.1,(s.1.2.2.2.1,(true,()))))),(s.2.1,(s.2.2.1,(s.2.2.2.1,()))))) else (Option.bind (G39 s.2.1 s.1.1 s.1.2.2.1) fun r24=>some (0,((s.1.1,(s.1.2.1,(s.1.2.2.1,(s.1.2.2.2.1,((!r24),()))))),(s.2.1,(s.2.2.1,(s.2.2.2.1,()))))))) else none)) else none)))))))))
def G6_k0_L:LoopT:=cutT G6_k0_S0 G6_k0_S1 [.normal] G6_k0_run
def G6_k1_S0:SPat:=⟨[.any,.dat (.int .i64),.dat (.int .i64),.any,.any,.dat (.list T73),.any,.fix (.bptr 0 []),.any,.any,.any,.fix (.bptr 1 []),.any,.fix (.bptr 2 []),.any,.fix (.bptr 3 []),.dat (.int .i64)]++List.replicate 261 PTy.any,[.dat T40,.dat T25,.dat T118,.dat T126],0⟩
def G6_k1_S1:SPat:=⟨[.any,.dat (.int .i64),.dat (.int .i64),.any,.any,.dat (.list T73),.any,.fix (.bptr 0 []),.any,.any,.any,.fix (.bptr 1 []),.any,.fix (.bptr 2 []),.any,.fix (.bptr 3 []),.any,.any,.any,.any,.any,.any,.any,.any,.any,.any,.any,.any,.any,.any,.any,.any,.any,.any,.any,.any,.any,.any,.any,.any,.any,.any,.any,.any,.any,.any,.any,.any,.any,.any,.any,.any,.any,.any,.any,.any,.any,.any,.any,.any,.any,.any,.any,.any,.any,.any,.any,.any,.any,.any,.any,.any,.any,.any,.any,.any,.any,.any,.any,.any,.any,.any,.any,.any,.any,.any,.any,.any,.any,.any,.any,.any,.any,.any,.any,.any,.any,.any,.any,.any,.any,.dat .bool]++List.replicate 176 PTy.any,[.dat T40,.dat T25,.dat T118,.dat T126],0⟩
abbrev TY72:Type:=((Int×(Int×((List E73)×(Int×Unit))))×(E40×(E25×(E118×(E126×Unit)))))
abbrev TY73:Type:=(Nat×((Int×(Int×((List E73)×(Bool×Unit))))×(E40×(E25×(E118×(E126×Unit))))))
def G6_k1_run (s:TY72):Option TY73:=(bif (s.1.2.2.2.1 != 0) then some (0,((s.1.1,(s.1.2.1,(s.1.2.2.1,(true,())))),(s.2.1,(s.2.2.1,(s.2.2.2.1,(s.2.2.2.2.1,())))))) else some (0,((s.1.1,(s.1.2.1,(s.1.2.2.1,((decide (s.2.2.2.2.1.2.2.1 < 0)),())))),(s.2.1,(s.2.2.1,(s.2.2.2.1,(s.2.2.2.2.1,())))))))
def G6_k1_L:LoopT:=cutT G6_k1_S0 G6_k1_S1 [.normal] G6_k1_run
def G6_k2_S0:SPat:=⟨[.any,.dat (.int .i64),.dat (.int .i64),.any,.any,.dat (.list T73),.any,.fix (.bptr 0 []),.any,.any,.any,.any,.any,.fix (.bptr 2 []),.any,.fix (.bptr 3 []),.any,.any,.any,.dat (.list (.int .i64)),.fix (.bptr 7 []),.dat (.int .i64),.dat (.list (.int .i64)),.any,.dat (.int .i64)]++List.replicate 253 PTy.any,[.dat T40,.dat T25,.dat T118,.dat T126,.cons (.dat (.list T178)) (.cons (.cons (.dat (.int .i64)) (.cons (.dat (.int .i64)) (.nil))) (.nil)),.cons (.dat (.list (.int .i64))) (.cons (.vec 0 8 (.int .i64)) (.dat T94)),.vrow 1 (.int .i64),.dat T89,.vrow 0 (.int .i64),.dat T89],2⟩
def G6_k2_S1:SPat:=⟨[.any,.dat (.int .i64),.dat (.int .i64),.any,.any,.dat (.list T73),.any,.fix (.bptr 0 []),.any,.any,.any,.any,.any,.fix (.bptr 2 []),.any,.fix (.bptr 3 []),.any,.any,.any,.any,.fix (.bptr 7 []),.any,.any,.any,.any,.any,.any,.any,.any,.any,.any,.any,.any,.any,.any,.any,.any,.any,.any,.any,.any,.any,.any,.any,.any,.any,.any,.any,.any,.any,.any,.any,.any,.any,.any,.any,.any,.any,.any,.any,.any,.any,.any,.any,.any,.any,.any,.any,.any,.any,.any,.any,.any,.any,.any,.any,.any,.any,.any,.any,.any,.any,.any,.any,.any,.any,.any,.any,.any,.any,.any,.any,.any,.any,.any,.any,.any,.any,.any,.any,.any,.any,.any,.any,.any,.any,.any,.any,.any,.any,.any,.any,.any,.any,.any,.any,.any,.any,.any,.any,.any,.any,.any,.any,.any,.any,.any,.any,.any,.any,.any,.any,.any,.any,.any,.any,.any,.any,.any,.any,.any,.any,.any,.any,.any,.any,.any,.any,.any,.any,.any,.any,.any,.any,.any,.any,.any,.any,.any,.any,.any,.any,.any,.any,.any,.any,.any,.any,.any,.any,.any,.any,.any,.any,.any,.any,.dat .bool]++List.replicate 101 PTy.any,[.dat T40,.dat T25,.dat T118,.dat T126,.cons (.dat (.list T178)) (.cons (.cons (.dat (.int .i64)) (.cons (.dat (.int .i64)) (.nil))) (.nil)),.cons (.dat (.list (.int .i64))) (.cons (.vec 0 8 (.int .i64)) (.dat T94)),.vrow 1 (.int .i64),.dat T89,.vrow 0 (.int .i64),.dat T89],2⟩
abbrev TY74:Type:=((Int×(Int×((List E73)×((List Int)×(Int×((List Int)×(Int×Unit)))))))×(E40×(E25×(E118×(E126×(((List E178)×((Int×(Int×Unit))×Unit))×(((List Int)×(Nat×E94))×((List Int)×(E89×((List Int)×(E89×Unit)))))))))))
abbrev TY75:Type:=(Nat×((Int×(Int×((List E73)×(Bool×Unit))))×(E40×(E25×(E118×(E126×(((List E178)×((Int×(Int×Unit))×Unit))×(((List Int)×(Nat×E94))×((List Int)×(E89×((List Int)×(E89×Unit))))))))))))
def G6_k2_run (s:TY74):Option TY75:=(bif (s.1.2.2.2.2.1 != 0) then some (0,((s.1.1,(s.1.2.1,(s.1.2.2.1,(true,())))),(s.2.1,(s.2.2.1,(s.2.2.2.1,(s.2.2.2.2.1,(s.2.2.2.2.2.1,(s.2.2.2.2.2.2.1,(s.2.2.2.2.2.2.2.1,(s.2.2.2.2.2.2.2.2.1,(s.2.2.2.2.2.2.2.2.2.1,(s.2.2.2.2.2.2.2.2.2.2.1,())))))))))))) else (bif (s.1.2.2.2.2.2.2.1 != 0) then some (0,((s.1.1,(s.1.2.1,(s.1.2.2.1,(true,())))),(s.2.1,(s.2.2.1,(s.2.2.2.1,(s.2.2.2.2.1,(s.2.2.2.2.2.1,(s.2.2.2.2.2.2.1,(s.2.2.2.2.2.2.2.1,(s.2.2.2.2.2.2.2.2.1,(s.2.2.2.2.2.2.2.2.2.1,(s.2.2.2.2.2.2.2.2.2.2.1,())))))))))))) else (bif ((List.length s.1.2.2.2.1:Int) != (List.length s.1.2.2.1:Int)) then some (0,((s.1.1,(s.1.2.1,(s.1.2.2.1,(true,())))),(s.2.1,(s.2.2.1,(s.2.2.2.1,(s.2.2.2.2.1,(s.2.2.2.2.2.1,(s.2.2.2.2.2.2.1,(s.2.2.2.2.2.2.2.1,(s.2.2.2.2.2.2.2.2.1,(s.2.2.2.2.2.2.2.2.2.1,(s.2.2.2.2.2.2.2.2.2.2.1,())))))))))))) else (bif ((List.length s.1.2.2.2.2.2.1:Int) != (List.length s.1.2.2.1:Int)) then some (0,((s.1.1,(s.1.2.1,(s.1.2.2.1,(true,())))),(s.2.1,(s.2.2.1,(s.2.2.2.1,(s.2.2.2.2.1,(s.2.2.2.2.2.1,(s.2.2.2.2.2.2.1,(s.2.2.2.2.2.2.2.1,(s.2.2.2.2.2.2.2.2.1,(s.2.2.2.2.2.2.2.2.2.1,(s.2.2.2.2.2.2.2.2.2.2.1,())))))))))))) else (bif (decide (0≤(0:Int))&&decide ((0:Int) < (List.length s.1.2.2.2.1:Int))) then (bif (decide (0≤(0:Int))&&decide ((0:Int) < (List.length s.1.2.2.2.2.2.1:Int))) then some (0,((s.1.1,(s.1.2.1,(s.1.2.2.1,((decide ((List.getD s.1.2.2.2.1 (Int.toNat 0) 0) < (List.getD s.1.2.2.2.2.2.1 (Int.toNat 0) 0))),())))),(s.2.1,(s.2.2.1,(s.2.2.2.1,(s.2.2.2.2.1,(s.2.2.2.2.2.1,(s.2.2.2.2.2.2.1,(s.2.2.2.2.2.2.2.1,(s.2.2.2.2.2.2.2.2.1,(s.2.2.2.2.2.2.2.2.2.1,(s.2.2.2.2.2.2.2.2.2.2.1,())))))))))))) else none) else none)))))
def G6_k2_L:LoopT:=cutT G6_k2_S0 G6_k2_S1 [.normal] G6_k2_run
def G6_k3_S0:SPat:=⟨[.any,.any,.dat (.int .i64),.any,.any,.any,.any,.any,.any,.any,.any,.any,.any,.any,.any,.fix (.bptr 3 []),.any,.any,.any,.any,.fix (.bptr 7 []),.any,.any,.any,.any,.dat (.int .i64),.any,.dat (.int .i64)]++List.replicate 250 PTy.any,[.dat T40,.dat T25,.dat T118,.dat T126,.cons (.dat (.list T178)) (.cons (.cons (.dat (.int .i64)) (.cons (.dat (.int .i64)) (.nil))) (.nil)),.cons (.dat (.list (.int .i64))) (.cons (.vec 0 8 (.int .i64)) (.dat T94)),.vrow 1 (.int .i64),.dat T89,.vrow 0 (.int .i64),.dat T89],2⟩
def G6_k3_S1:SPat:=⟨[.any,.any,.dat (.int .i64),.any,.any,.any,.any,.any,.any,.any,.any,.any,.any,.any,.any,.fix (.bptr 3 []),.any,.any,.any,.any,.fix (.bptr 7 []),.any,.any,.any,.any,.dat (.int .i64),.any,.dat (.int .i64),.any,.any,.any,.any,.any,.any,.any,.any,.any,.any,.any,.any,.any,.any,.any,.any,.any,.any,.any,.any,.any,.any,.any,.any,.any,.any,.any,.any,.any,.any,.any,.any,.any,.any,.any,.any,.any,.any,.any,.any,.any,.any,.any,.any,.any,.any,.any,.any,.any,.any,.any,.any,.any,.any,.any,.any,.any,.any,.any,.any,.any,.any,.any,.any,.any,.any,.any,.any,.any,.any,.any,.any,.any,.any,.any,.any,.any,.any,.any,.any,.any,.any,.any,.any,.any,.any,.any,.any,.any,.any,.any,.any,.any,.any,.any,.any,.any,.any,.any,.any,.any,.any,.any,.any,.any,.any,.any,.any,.any,.any,.any,.any,.any,.any,.any,.any,.any,.any,.any,.any,.any,.any,.any,.any,.any,.any,.any,.any,.any,.any,.any,.any,.any,.any,.any,.any,.any,.any,.any,.any,.any,.any,.any,.any,.any,.any,.any,.any,.any,.any,.any,.any,.any,.any,.any,.any,.any,.any,.any,.any,.any,.any,.any,.any,.any,.any,.any,.any,.any,.any,.any,.any,.any,.any,.any,.any,.any,.any,.any,.any,.any,.any,.any,.any,.any,.any,.any,.any,.any,.any,.any,.any,.any,.any,.any,.any,.any,.any,.any,.any,.any,.any,.any,.any,.any,.any,.any,.any,.any,.any,.any,.any,.any,.any,.any,.any,.any,.any,.any,.any,.any,.any,.any,.any,.dat .bool]++List.replicate 25 PTy.any,[.dat T40,.dat T25,.dat T118,.dat T126,.cons (.dat (.list T178)) (.cons (.cons (.dat (.int .i64)) (.cons (.dat (.int .i64)) (.nil))) (.nil)),.cons (.dat (.list (.int .i64))) (.cons (.vec 0 8 (.int .i64)) (.dat T94)),.vrow 1 (.int .i64),.dat T89,.vrow 0 (.int .i64),.dat T89],2⟩
abbrev TY76:Type:=((Int×(Int×(Int×Unit)))×(E40×(E25×(E118×(E126×(((List E178)×((Int×(Int×Unit))×Unit))×(((List Int)×(Nat×E94))×((List Int)×(E89×((List Int)×(E89×Unit)))))))))))
abbrev TY77:Type:=(Nat×((Int×(Int×(Int×(Bool×Unit))))×(E40×(E25×(E118×(E126×(((List E178)×((Int×(Int×Unit))×Unit))×(((List Int)×(Nat×E94))×((List Int)×(E89×((List Int)×(E89×Unit))))))))))))
def G6_k3_run (s:TY76):Option TY77:=(bif (decide (s.2.2.2.2.1.1 < 0)) then some (0,((s.1.1,(s.1.2.1,(s.1.2.2.1,(true,())))),(s.2.1,(s.2.2.1,(s.2.2.2.1,(s.2.2.2.2.1,(s.2.2.2.2.2.1,(s.2.2.2.2.2.2.1,(s.2.2.2.2.2.2.2.1,(s.2.2.2.2.2.2.2.2.1,(s.2.2.2.2.2.2.2.2.2.1,(s.2.2.2.2.2.2.2.2.2.2.1,())))))))))))) else (bif (decide (s.2.2.2.2.1.1 > 1000000)) then some (0,((s.1.1,(s.1.2.1,(s.1.2.2.1,(true,())))),(s.2.1,(s.2.2.1,(s.2.2.2.1,(s.2.2.2.2.1,(s.2.2.2.2.2.1,(s.2.2.2.2.2.2.1,(s.2.2.2.2.2.2.2.1,(s.2.2.2.2.2.2.2.2.1,(s.2.2.2.2.2.2.2.2.2.1,(s.2.2.2.2.2.2.2.2.2.2.1,())))))))))))) else (bif (decide (s.2.2.2.2.1.2.1 < 0)) then some (0,((s.1.1,(s.1.2.1,(s.1.2.2.1,(true,())))),(s.2.1,(s.2.2.1,(s.2.2.2.1,(s.2.2.2.2.1,(s.2.2.2.2.2.1,(s.2.2.2.2.2.2.1,(s.2.2.2.2.2.2.2.1,(s.2.2.2.2.2.2.2.2.1,(s.2.2.2.2.2.2.2.2.2.1,(s.2.2.2.2.2.2.2.2.2.2.1,())))))))))))) else (bif (decide (s.2.2.2.2.1.2.1 > 1000000000000)) then some (0,((s.1.1,(s.1.2.1,(s.1.2.2.1,(true,())))),(s.2.1,(s.2.2.1,(s.2.2.2.1,(s.2.2.2.2.1,(s.2.2.2.2.2.1,(s.2.2.2.2.2.2.1,(s.2.2.2.2.2.2.2.1,(s.2.2.2.2.2.2.2.2.1,(s.2.2.2.2.2.2.2.2.2.1,(s.2.2.2.2.2.2.2.2.2.2.1,())))))))))))) else (bif (decide (s.2.2.2.2.1.2.2.2.1 < 0)) then some (0,((s.1.1,(s.1.2.1,(s.1.2.2.1,(true,())))),(s.2.1,(s.2.2.1,(s.2.2.2.1,(s.2.2.2.2.1,(s.2.2.2.2.2.1,(s.2.2.2.2.2.2.1,(s.2.2.2.2.2.2.2.1,(s.2.2.2.2.2.2.2.2.1,(s.2.2.2.2.2.2.2.2.2.1,(s.2.2.2.2.2.2.2.2.2.2.1,())))))))))))) else (bif (decide (s.2.2.2.2.1.2.2.2.1 > 1000000000000)) then some (0,((s.1.1,(s.1.2.1,(s.1.2.2.1,(true,())))),(s.2.1,(s.2.2.1,(s.2.2.2.1,(s.2.2.2.2.1,(s.2.2.2.2.2.1,(s.2.2.2.2.2.2.1,(s.2.2.2.2.2.2.2.1,(s.2.2.2.2.2.2.2.2.1,(s.2.2.2.2.2.2.2.2.2.1,(s.2.2.2.2.2.2.2.2.2.2.1,())))))))))))) else (bif (decide (s.2.2.2.2.2.2.2.2.1.2.1 < 0)) then some (0,((s.1.1,(s.1.2.1,(s.1.2.2.1,(true,())))),(s.2.1,(s.2.2.1,(s.2.2.2.1,(s.2.2.2.2.1,(s.2.2.2.2.2.1,(s.2.2.2.2.2.2.1,(s.2.2.2.2.2.2.2.1,(s.2.2.2.2.2.2.2.2.1,(s.2.2.2.2.2.2.2.2.2.1,(s.2.2.2.2.2.2.2.2.2.2.1,())))))))))))) else (bif (decide (s.2.2.2.2.2.2.2.2.1.2.1 > 1000000000)) then some (0,((s.1.1,(s.1.2.1,(s.1.2.2.1,(true,())))),(s.2.1,(s.2.2.1,(s.2.2.2.1,(s.2.2.2.2.1,(s.2.2.2.2.2.1,(s.2.2.2.2.2.2.1,(s.2.2.2.2.2.2.2.1,(s.2.2.2.2.2.2.2.2.1,(s.2.2.2.2.2.2.2.2.2.1,(s.2.2.2.2.2.2.2.2.2.2.1,())))))))))))) else (bif (decide (s.2.2.2.2.2.2.2.2.1.2.2.1 < 0)) then some (0,((s.1.1,(s.1.2.1,(s.1.2.2.1,(true,())))),(s.2.1,(s.2.2.1,(s.2.2.2.1,(s.2.2.2.2.1,(s.2.2.2.2.2.1,(s.2.2.2.2.2.2.1,(s.2.2.2.2.2.2.2.1,(s.2.2.2.2.2.2.2.2.1,(s.2.2.2.2.2.2.2.2.2.1,(s.2.2.2.2.2.2.2.2.2.2.1,())))))))))))) else some (0,((s.1.1,(s.1.2.1,(s.1.2.2.1,((decide (s.2.2.2.2.2.2.2.2.1.2.2.1 > 1000000000)),())))),(s.2.1,(s.2.2.1,(s.2.2.2.1,(s.2.2.2.2.1,(s.2.2.2.2.2.1,(s.2.2.2.2.2.2.1,(s.2.2.2.2.2.2.2.1,(s.2.2.2.2.2.2.2.2.1,(s.2.2.2.2.2.2.2.2.2.1,(s.2.2.2.2.2.2.2.2.2.2.1,())))))))))))))))))))))
def G6_k3_L:LoopT:=cutT G6_k3_S0 G6_k3_S1 [.normal] G6_k3_run
def G6_k4_S0:SPat:=⟨[.any,.any,.dat (.int .i64),.any,.any,.any,.any,.any,.any,.any,.any,.any,.any,.any,.any,.fix (.bptr 3 []),.any,.any,.any,.any,.fix (.bptr 7 []),.any,.any,.any,.any,.dat (.int .i64),.any,.dat (.int .i64)]++List.replicate 250 PTy.any,[.dat T40,.dat T25,.dat T118,.dat T126,.cons (.dat (.list T178)) (.cons (.cons (.dat (.int .i64)) (.cons (.dat (.int .i64)) (.nil))) (.nil)),.cons (.dat (.list (.int .i64))) (.cons (.vec 0 8 (.int .i64)) (.dat T94)),.vrow 1 (.int .i64),.dat T89,.vrow 0 (.int .i64),.dat T89],2⟩
def G6_k4_S1:SPat:=⟨[.any,.any,.any,.any,.any,.any,.any,.any,.any,.any,.any,.any,.any,.any,.dat .bool]++List.replicate 263 PTy.any,[.dat T40,.dat T25,.dat T118,.dat T126,.cons (.dat (.list T178)) (.cons (.cons (.dat (.int .i64)) (.cons (.dat (.int .i64)) (.nil))) (.nil)),.cons (.dat (.list (.int .i64))) (.cons (.vec 0 8 (.int .i64)) (.dat T94)),.vrow 1 (.int .i64),.dat T89,.vrow 0 (.int .i64),.dat T89],2⟩
abbrev TY78:Type:=(Nat×((Bool×Unit)×(E40×(E25×(E118×(E126×(((List E178)×((Int×(Int×Unit))×Unit))×(((List Int)×(Nat×E94))×((List Int)×(E89×((List Int)×(E89×Unit))))))))))))
def G6_k4_run (s:TY76):Option TY78:=(bif ((IntKind.wrap .i64 ((IntKind.wrap .i64 ((IntKind.wrap .i64 (s.1.2.2.1*s.1.1))+s.2.2.2.2.1.2.1))+s.1.2.1))==(IntKind.wrap .i64 ((IntKind.wrap .i64 ((IntKind.wrap .i64 ((IntKind.wrap .i64 (s.1.2.2.1*s.2.2.2.2.1.1))+s.2.2.2.2.1.2.2.2.1))+s.2.2.2.2.2.2.2.2.1.2.1))+s.2.2.2.2.2.2.2.2.1.2.2.1))) then (Option.bind k40 fun r44=>some (0,((r44,()),(s.2.1,(s.2.2.1,(s.2.2.2.1,(s.2.2.2.2.1,(s.2.2.2.2.2.1,(s.2.2.2.2.2.2.1,(s.2.2.2.2.2.2.2.1,(s.2.2.2.2.2.2.2.2.1,(s.2.2.2.2.2.2.2.2.2.1,(s.2.2.2.2.2.2.2.2.2.2.1,()))))))))))))) else some (0,((false,()),(s.2.1,(s.2.2.1,(s.2.2.2.1,(s.2.2.2.2.1,(s.2.2.2.2.2.1,(s.2.2.2.2.2.2.1,(s.2.2.2.2.2.2.2.1,(s.2.2.2.2.2.2.2.2.1,(s.2.2.2.2.2.2.2.2.2.1,(s.2.2.2.2.2.2.2.2.2.2.1,())))))))))))))
def G6_k4_L:LoopT:=cutT G6_k4_S0 G6_k4_S1 [.normal] G6_k4_run
def G6 (a0:E40) (a1:Int) (a2:Int) (a3:(List E205)) (a4:E25) (a5:(List E73)) (a6:E118):Option Bool:=(Option.bind (G6_k0_run ((a1,(a2,(a3,(a5,())))),(a0,(a4,(a6,()))))) fun q25=>(bif q25.2.1.2.2.2.2.1 then (Option.bind k40 fun r27=>some r27) else (Option.bind (G41 q25.2.2.1 q25.2.1.1 q25.2.1.2.1 q25.2.1.2.2.1) fun r29=>(Option.bind (G6_k1_run ((q25.2.1.1,(q25.2.1.2.1,(q25.2.1.2.2.2.1,(r29.2.1,())))),(q25.2.2.1,(q25.2.2.2.1,(q25.2.2.2.2.1,(r29.1,())))))) fun q30=>(bif q30.2.1.2.2.2.1 then some false else (bif (decide (q30.2.2.2.2.2.1.2.2.1 > 1000000)) then (Option.bind k40 fun r33=>some r33) else (bif (decide (0 < List.length q30.2.2.2.2.1.2.1)&&decide (List.length q30.2.2.2.2.1.2.1≤LIM)) then (bif (decide (0≤(0:Int))&&decide ((0:Int) < ((List.length q30.2.2.2.2.1.2.1):Int))) then (bif (decide ((Int.toNat 0) < List.length q30.2.2.2.2.1.2.1)) then (bif (decide ((List.length q30.2.2.2.2.1.2.1)=List.length (List.set q30.2.2.2.2.1.2.1 (Int.toNat 0) q30.2.2.2.2.2.1.2.2.1))) then (Option.bind (G42 (q30.2.2.2.1.1,((0,((if q30.2.2.2.2.2.1.2.2.1 > q30.2.2.2.1.2.1.2.1 then q30.2.2.2.2.2.1.2.2.1 else q30.2.2.2.1.2.1.2.1),())),q30.2.2.2.1.2.2)) q30.2.1.2.2.1 (q30.2.2.2.2.1.1,((List.set q30.2.2.2.2.1.2.1 (Int.toNat 0) q30.2.2.2.2.2.1.2.2.1),q30.2.2.2.2.1.2.2))) fun r35=>(bif (decide (0 < List.length q30.2.2.2.2.1.2.1)&&decide (List.length q30.2.2.2.2.1.2.1≤LIM)) then (bif (decide (0≤(0:Int))&&decide ((0:Int) < ((List.length q30.2.2.2.2.1.2.1):Int))) then (bif (decide ((Int.toNat 0) < List.length q30.2.2.2.2.1.2.1)) then (bif (decide ((List.length q30.2.2.2.2.1.2.1)=List.length (List.set q30.2.2.2.2.1.2.1 (Int.toNat 0) 0))) then (Option.bind (G42 (q30.2.2.2.1.1,((0,((if q30.2.2.2.2.2.1.2.2.1 > q30.2.2.2.1.2.1.2.1 then q30.2.2.2.2.2.1.2.2.1 else q30.2.2.2.1.2.1.2.1),())),q30.2.2.2.1.2.2)) q30.2.1.2.2.1 (q30.2.2.2.2.1.1,((List.set q30.2.2.2.2.1.2.1 (Int.toNat 0) 0),q30.2.2.2.2.1.2.2))) fun r37=>(Option.bind (G6_k2_run ((q30.2.1.1,(q30.2.1.2.1,(q30.2.1.2.2.1,(r35.1,(r35.2.2.1,(r37.1,(r37.2.2.1,()))))))),(q30.2.2.1,(q30.2.2.2.1,(q30.2.2.2.2.1,(q30.2.2.2.2.2.1,((q30.2.2.2.1.1,((0,((if q30.2.2.2.2.2.1.2.2.1 > q30.2.2.2.1.2.1.2.1 then q30.2.2.2.2.2.1.2.2.1 else q30.2.2.2.1.2.1.2.1),())),q30.2.2.2.1.2.2)),((q30.2.2.2.2.1.1,((List.length q30.2.2.2.2.1.2.1),q30.2.2.2.2.1.2.2)),((List.set q30.2.2.2.2.1.2.1 (Int.toNat 0) q30.2.2.2.2.2.1.2.2.1),(r35.2.1,((List.set q30.2.2.2.2.1.2.1 (Int.toNat 0) 0),(r37.2.1,())))))))))))) fun q38=>(bif q38.2.1.2.2.2.1 then some false else (Option.bind (G6_l0_run ((q38.2.1.1,(q38.2.1.2.1,(q38.2.1.2.2.1,(0,(0,()))))),(q38.2.2.1,(q38.2.2.2.1,(q38.2.2.2.2.1,(q38.2.2.2.2.2.1,(q38.2.2.2.2.2.2.1,(q38.2.2.2.2.2.2.2.1,(q38.2.2.2.2.2.2.2.2.1,(q38.2.2.2.2.2.2.2.2.2.1,(q38.2.2.2.2.2.2.2.2.2.2.1,(q38.2.2.2.2.2.2.2.2.2.2.2.1,())))))))))))) fun q40=>(bif (decide (0≤q40.2.1.1)&&decide (q40.2.1.1 < (List.length q40.2.2.1.1:Int))) then (Option.bind (G6_k3_run ((q40.2.1.2.1,(q40.2.1.2.2.2.1,((List.getD q40.2.2.1.1 (Int.toNat q40.2.1.1) ((0,(0,())),((0,(0,())),((0,(0,())),(0,(0,(0,(0,((0,(0,())),()))))))))).2.2.2.2.1,()))),(q40.2.2.1,(q40.2.2.2.1,(q40.2.2.2.2.1,(q40.2.2.2.2.2.1,(q40.2.2.2.2.2.2.1,(q40.2.2.2.2.2.2.2.1,(q40.2.2.2.2.2.2.2.2.1,(q40.2.2.2.2.2.2.2.2.2.1,(q40.2.2.2.2.2.2.2.2.2.2.1,(q40.2.2.2.2.2.2.2.2.2.2.2.1,())))))))))))) fun q41=>(bif q41.2.1.2.2.2.1 then some false else (Option.bind (G6_k4_run ((q41.2.1.1,(q41.2.1.2.1,(q41.2.1.2.2.1,()))),(q41.2.2.1,(q41.2.2.2.1,(q41.2.2.2.2.1,(q41.2.2.2.2.2.1,(q41.2.2.2.2.2.2.1,(q41.2.2.2.2.2.2.2.1,(q41.2.2.2.2.2.2.2.2.1,(q41.2.2.2.2.2.2.2.2.2.1,(q41.2.2.2.2.2.2.2.2.2.2.1,(q41.2.2.2.2.2.2.2.2.2.2.2.1,())))))))))))) fun q45=>some q45.2.1.1))) else none))))) else none) else none) else none) else none)) else none) else none) else none) else none)))))))
theorem G6_l0_V:LValid 0 Tryz.prog (.loop G6_l0_c) G6_l0_L false:=by
  exact loopT_valid (fuel:=G6_l0_fuel) mixed G6_CV (lvNil _) (by kernel_rfl) (by decide) rfl (by intro s; kernel_rfl) (fun s r h=>h)
def G6_k0_J:Jn:=(.whole [])
theorem G6_k0_JV:JV 0 Tryz.prog false (G6_k0_J) (seqL (seqL (seqR (bodyOf Tryz.f6)))):=jv_nil
theorem G6_k0_V:LValid 0 Tryz.prog (seqL (seqL (seqR (bodyOf Tryz.f6)))) (G6_k0_L) false:=
  cutT_valid (ev:=jnT Tryz.prog G6_C (G6_k0_J) (seqL (seqL (seqR (bodyOf Tryz.f6))))) (jnT_valid mixed G6_CV (G6_k0_JV)) (by kernel_rfl) (by kernel_rfl) (by decide) (by decide) (by intro s; kernel_rfl)
def G6_k1_J:Jn:=(.whole [])
theorem G6_k1_JV:JV 0 Tryz.prog false (G6_k1_J) (seqL (seqL (seqR (seqR (seqR (bodyOf Tryz.f6)))))):=jv_nil
theorem G6_k1_V:LValid 0 Tryz.prog (seqL (seqL (seqR (seqR (seqR (bodyOf Tryz.f6)))))) (G6_k1_L) false:=
  cutT_valid (ev:=jnT Tryz.prog G6_C (G6_k1_J) (seqL (seqL (seqR (seqR (seqR (bodyOf Tryz.f6))))))) (jnT_valid mixed G6_CV (G6_k1_JV)) (by kernel_rfl) (by kernel_rfl) (by decide) (by decide) (by intro s; kernel_rfl)
def G6_k2_J:Jn:=(.whole [])
theorem G6_k2_JV:JV 0 Tryz.prog false (G6_k2_J) (seqL (seqL (seqR (seqR (seqR (seqR (seqR (seqR (seqR (seqR (seqR (seqR (seqR (seqR (seqR (bodyOf Tryz.f6)))))))))))))))):=jv_nil
theorem G6_k2_V:LValid 0 Tryz.prog (seqL (seqL (seqR (seqR (seqR (seqR (seqR (seqR (seqR (seqR (seqR (seqR (seqR (seqR (seqR (bodyOf Tryz.f6)))))))))))))))) (G6_k2_L) false:=
  cutT_valid (ev:=jnT Tryz.prog G6_C (G6_k2_J) (seqL (seqL (seqR (seqR (seqR (seqR (seqR (seqR (seqR (seqR (seqR (seqR (seqR (seqR (seqR (bodyOf Tryz.f6))))))))))))))))) (jnT_valid mixed G6_CV (G6_k2_JV)) (by kernel_rfl) (by kernel_rfl) (by decide) (by decide) (by intro s; kernel_rfl)
def G6_k3_J:Jn:=(.whole [])
theorem G6_k3_JV:JV 0 Tryz.prog false (G6_k3_J) (seqL (seqL (seqR (seqR (seqR (seqR (seqR (seqR (seqR (seqR (seqR (seqR (seqR (seqR (seqR (seqR (seqR (seqR (seqR (bodyOf Tryz.f6)))))))))))))))))))):=jv_nil
theorem G6_k3_V:LValid 0 Tryz.prog (seqL (seqL (seqR (seqR (seqR (seqR (seqR (seqR (seqR (seqR (seqR (seqR (seqR (seqR (seqR (seqR (seqR (seqR (seqR (bodyOf Tryz.f6)))))))))))))))))))) (G6_k3_L) false:=
  cutT_valid (ev:=jnT Tryz.prog G6_C (G6_k3_J) (seqL (seqL (seqR (seqR (seqR (seqR (seqR (seqR (seqR (seqR (seqR (seqR (seqR (seqR (seqR (seqR (seqR (seqR (seqR (bodyOf Tryz.f6))))))))))))))))))))) (jnT_valid mixed G6_CV (G6_k3_JV)) (by kernel_rfl) (by kernel_rfl) (by decide) (by decide) (by intro s; kernel_rfl)
def G6_k4_J:Jn:=(.whole [])
theorem G6_k4_JV:JV 0 Tryz.prog false (G6_k4_J) (seqL (seqR (seqR (seqR (seqR (seqR (seqR (seqR (seqR (seqR (seqR (seqR (seqR (seqR (seqR (seqR (seqR (seqR (seqR (bodyOf Tryz.f6)))))))))))))))))))):=jv_nil
theorem G6_k4_V:LValid 0 Tryz.prog (seqL (seqR (seqR (seqR (seqR (seqR (seqR (seqR (seqR (seqR (seqR (seqR (seqR (seqR (seqR (seqR (seqR (seqR (seqR (bodyOf Tryz.f6)))))))))))))))))))) (G6_k4_L) false:=
  cutT_valid (ev:=jnT Tryz.prog G6_C (G6_k4_J) (seqL (seqR (seqR (seqR (seqR (seqR (seqR (seqR (seqR (seqR (seqR (seqR (seqR (seqR (seqR (seqR (seqR (seqR (seqR (bodyOf Tryz.f6))))))))))))))))))))) (jnT_valid mixed G6_CV (G6_k4_JV)) (by kernel_rfl) (by kernel_rfl) (by decide) (by decide) (by intro s; kernel_rfl)
def G6_J:Jn:=(.seq (.whole []) (.seq (.seq (.cut G6_k0_L) (.whole [])) (.seq (.whole []) (.seq (.seq (.cut G6_k1_L) (.whole [])) (.seq (.whole []) (.seq (.whole []) (.seq (.whole []) (.seq (.whole []) (.seq (.whole []) (.seq (.whole []) (.seq (.whole []) (.seq (.whole []) (.seq (.whole []) (.seq (.seq (.cut G6_k2_L) (.whole [])) (.seq (.whole []) (.seq (.whole [G6_l0_L]) (.seq (.whole []) (.seq (.seq (.cut G6_k3_L) (.whole [])) (.seq (.cut G6_k4_L) (.whole []))))))))))))))))))))
theorem G6_JV:JV 0 Tryz.prog false (G6_J) (bodyOf Tryz.f6):=(jv_seq (by kernel_rfl) jv_nil (jv_seq (by kernel_rfl) (jv_seq (by kernel_rfl) (jv_cut G6_k0_V) jv_nil) (jv_seq (by kernel_rfl) jv_nil (jv_seq (by kernel_rfl) (jv_seq (by kernel_rfl) (jv_cut G6_k1_V) jv_nil) (jv_seq (by kernel_rfl) jv_nil (jv_seq (by kernel_rfl) jv_nil (jv_seq (by kernel_rfl) jv_nil (jv_seq (by kernel_rfl) jv_nil (jv_seq (by kernel_rfl) jv_nil (jv_seq (by kernel_rfl) jv_nil (jv_seq (by kernel_rfl) jv_nil (jv_seq (by kernel_rfl) jv_nil (jv_seq (by kernel_rfl) jv_nil (jv_seq (by kernel_rfl) (jv_seq (by kernel_rfl) (jv_cut G6_k2_V) jv_nil) (jv_seq (by kernel_rfl) jv_nil (jv_seq (by kernel_rfl) (jv_whole (show LV 0 Tryz.prog false (loopsOf (seqL (seqR (seqR (seqR (seqR (seqR (seqR (seqR (seqR (seqR (seqR (seqR (seqR (seqR (seqR (seqR (bodyOf Tryz.f6)))))))))))))))))) [G6_l0_L] from by rw [show loopsOf (seqL (seqR (seqR (seqR (seqR (seqR (seqR (seqR (seqR (seqR (seqR (seqR (seqR (seqR (seqR (seqR (bodyOf Tryz.f6)))))))))))))))))=[.loop G6_l0_c] from by kernel_rfl]; exact ⟨G6_l0_V,trivial⟩)) (jv_seq (by kernel_rfl) jv_nil (jv_seq (by kernel_rfl) (jv_seq (by kernel_rfl) (jv_cut G6_k3_V) jv_nil) (jv_seq (by kernel_rfl) (jv_cut G6_k4_V) jv_nil)))))))))))))))))))
theorem G6_ent:Ent Tryz.prog 6:=⟨by decide,enters_of Tryz.func6 (by kernel_rfl) rfl⟩
theorem G6_hev:∀ x,fnE (jnT Tryz.prog G6_C (G6_J) (bodyOf Tryz.f6)) Tryz.prog Tryz.f6 (encs [.dat T40,.dat (.int .i64),.dat (.int .i64),.dat (.list T205),.dat T25,.dat (.list T73),.dat T118] x) ⟨[],[],0⟩ (frzF (.dat .bool))=G6 x.1 x.2.1 x.2.2.1 x.2.2.2.1 x.2.2.2.2.1 x.2.2.2.2.2.1 x.2.2.2.2.2.2.1:=by
  intro x; kernel_rfl
theorem G6_lcall:∀ x r,(fun x:Els [.dat T40,.dat (.int .i64),.dat (.int .i64),.dat (.list T205),.dat T25,.dat (.list T73),.dat T118]=>G6 x.1 x.2.1 x.2.2.1 x.2.2.2.1 x.2.2.2.2.1 x.2.2.2.2.2.1 x.2.2.2.2.2.2.1) x=some r→LCall 0 Tryz.prog 6 (encs [.dat T40,.dat (.int .i64),.dat (.int .i64),.dat (.list T205),.dat T25,.dat (.list T73),.dat T118] x) ⟨[],[],0⟩ (.d .bool r) ⟨[],[],0⟩:=frz_lcallE (ev:=(jnT Tryz.prog G6_C (G6_J) (bodyOf Tryz.f6))) (R:=.dat .bool) Tryz.func6 rfl G6_ent (jnT_valid mixed G6_CV (G6_JV)) (by kernel_rfl) (by kernel_rfl) G6_hev
end Go.Proofs.YtkeipcalbbmncaaGreat.Abs
set_option linter.unusedVariables false
set_option linter.unusedSimpArgs false
set_option maxRecDepth 100000
namespace Go.Proofs.YtkeipcalbbmncaaGreat.Abs
def sm (t:E118):Nat→Int
  | 0=>0
  | i+1=>sm t i+t.2.2.1.getD i 0+(if i > 0 then t.2.1.getD i 0 else 0)
theorem sm_ins (t:E118) (g:Int) (h:0 < t.2.1.length):∀ i,sm t (i+1)+g=Ins (trU t g) (i+1)
  | 0=>by
    show 0+t.2.2.1.getD 0 0+0+g=0+((t.2.1.set 0 g).getD 0 0+t.2.2.1.getD 0 0)
    rw [getD_set0,if_pos ⟨rfl,h⟩]
    omega
  | i+1=>by
    have ih:=sm_ins t g h i
    show sm t (i+1)+t.2.2.1.getD (i+1) 0+t.2.1.getD (i+1) 0+g=Ins (trU t g) (i+1)+((t.2.1.set 0 g).getD (i+1) 0+t.2.2.1.getD (i+1) 0)
    rw [getD_set0,if_neg (by omega)]
    omega
theorem sm_bd {t:E118} {n:Nat} (h1:∀ i,i < n→0≤t.2.1.getD i 0∧t.2.1.getD i 0≤1000000) (h2:∀ i,i < n→0≤t.2.2.1.getD i 0∧t.2.2.1.getD i 0≤1000000):∀ i,i≤n→0≤sm t i∧sm t i≤2000000*(i:Int)
  | 0,_=>by simp [sm]
  | i+1,hi=>by
    have ih:=sm_bd h1 h2 i (by omega)
    have a1:=h1 i (by omega)
    have a2:=h2 i (by omega)
    show 0≤sm t i+t.2.2.1.getD i 0+(if i > 0 then t.2.1.getD i 0 else 0)∧sm t i+t.2.2.1.getD i 0+(if i > 0 then t.2.1.getD i 0 else 0)≤2000000*((i+1:Nat):Int)
    split<;>omega
theorem heat_l0 {j warm:Int} {l:List E73} {t:E118} (R:(E40×(E25×(E118×(E126×(((List E178)×((Int×(Int×Unit))×Unit))×(((List Int)×(Nat×E94))×((List Int)×(E89×((List Int)×(E89×Unit))))))))))) (hR:R.2.2.1=t) (hl:l.length≤12) (l1:t.2.1.length=l.length) (l2:t.2.2.1.length=l.length)
    (h1:∀ i,i < l.length→0≤t.2.1.getD i 0∧t.2.1.getD i 0≤1000000) (h2:∀ i,i < l.length→0≤t.2.2.1.getD i 0∧t.2.2.1.getD i 0≤1000000) :
    ∃ q,G6_l0_run ((j,(warm,(l,(0,(0,()))))),R)=some (0,q)∧q.1.1=j∧q.1.2.1=warm∧q.1.2.2.1=l∧q.1.2.2.2.1=sm t l.length∧q.2=R:=by
  subst hR
  obtain ⟨q,e1,e2⟩:=iter_all (step:=G6_l0_step) (n:=l.length) (k:=0) (fun i s=>s.1.1=j∧s.1.2.1=warm∧s.1.2.2.1=l∧s.1.2.2.2.1=sm R.2.2.1 i∧s.1.2.2.2.2.1=(i:Int)∧s.2=R) (fun s=>s.1.1=j∧s.1.2.1=warm∧s.1.2.2.1=l∧s.1.2.2.2.1=sm R.2.2.1 l.length∧s.2=R)
    (fun i s hs hi=>by
      obtain ⟨a1,a2,a3,a4,a5,a6⟩:=hs
      have b0:=sm_bd h1 h2 i (by omega)
      have b1:=h1 i hi
      have b2:=h2 i hi
      have g1:(decide (0≤(i:Int))&&decide ((i:Int) < (List.length R.2.2.1.2.2.1:Int)))=true:=inside_lt (by omega)
      have g2:(decide (0≤(i:Int))&&decide ((i:Int) < (List.length R.2.2.1.2.1:Int)))=true:=inside_lt (by omega)
      simp only [G6_l0_step,a1,a2,a3,a4,a5,a6,ltI hi,g1,g2,cond_true,getD_toNat]
      cases hc:decide ((i:Int) > 0) with
      | true=>
        have hc':i > 0:=by simp only [decide_eq_true_eq] at hc; omega
        simp only [cond_true]
        refine ⟨_,rfl,rfl,rfl,rfl,?_,wr (by omega) (by omega),rfl⟩
        show IntKind.wrap .i64 (IntKind.wrap .i64 (sm R.2.2.1 i+R.2.2.1.2.2.1.getD i 0)+R.2.2.1.2.1.getD i 0)=sm R.2.2.1 i+R.2.2.1.2.2.1.getD i 0+(if i > 0 then R.2.2.1.2.1.getD i 0 else 0)
        rw [if_pos hc',wr (n:=sm R.2.2.1 i+R.2.2.1.2.2.1.getD i 0) (by omega) (by omega),wr (by omega) (by omega)]
      | false=>
        have hc':¬ i > 0:=by simp only [decide_eq_false_iff_not] at hc; omega
        simp only [cond_false]
        refine ⟨_,rfl,rfl,rfl,rfl,?_,wr (by omega) (by omega),rfl⟩
        show IntKind.wrap .i64 (sm R.2.2.1 i+R.2.2.1.2.2.1.getD i 0)=sm R.2.2.1 i+R.2.2.1.2.2.1.getD i 0+(if i > 0 then R.2.2.1.2.1.getD i 0 else 0)
        rw [if_neg hc',wr (by omega) (by omega),Int.add_zero])
    (fun s hs=>by
      obtain ⟨a1,a2,a3,a4,a5,a6⟩:=hs
      simp only [G6_l0_step,a1,a2,a3,a4,a5,a6,ltN,cond_false]
      exact ⟨_,rfl,rfl,rfl,rfl,rfl,rfl⟩)
    (G6_l0_fuel ((j,(warm,(l,(0,(0,()))))),R)) ((j,(warm,(l,(0,(0,()))))),R) (by simp [G6_l0_fuel]) ⟨rfl,rfl,rfl,rfl,rfl,rfl⟩
  exact ⟨q,e1,e2⟩
end Go.Proofs.YtkeipcalbbmncaaGreat.Abs
set_option linter.unusedVariables false
set_option linter.unusedSimpArgs false
set_option maxRecDepth 100000
namespace Go.Proofs.YtkeipcalbbmncaaGreat.Abs
theorem o36 (p:E25) (l:List E73) (t:E118):∃ r,G36 p l t=some r∧(r=true→l.length≤10∧okPl p=true∧l.all okY=true∧truB p l t=true):=by
  unfold G36
  cases h1:decide ((List.length p.1:Int) > 10) with
  | true=>exact ⟨_,rfl,fun h=>by cases h⟩
  | false=>
    cases h2:decide ((List.length l:Int) > 10) with
    | true=>exact ⟨_,rfl,fun h=>by cases h⟩
    | false=>
      simp only [decide_eq_false_iff_not] at h1 h2
      have hp:p.1.length < 2^40:=by omega
      have hl:l.length < 2^40:=by omega
      rw [o38 p hp,o53 l hl,o18 p l t hp hl]
      simp only [cond_false,Option.bind_some]
      cases decide ((List.length t.1:Int) > 10)<;>cases decide ((List.length t.2.1:Int) > 10)<;>cases decide ((List.length t.2.2.1:Int) > 10)<;>cases decide ((List.length t.2.2.2.1:Int) > 10)<;>cases decide ((List.length t.2.2.2.2.1:Int) > 10)<;>simp only [cond_true,cond_false]<;>first | exact ⟨_,rfl,fun h=>by cases h⟩ | skip
      cases h3:okPl p<;>cases h4:l.all okY<;>simp only [cond_true,cond_false]<;>first | exact ⟨_,rfl,fun h=>by cases h⟩ | exact ⟨_,rfl,fun h=>⟨by omega,by first | rfl | trivial,by first | rfl | trivial,h⟩⟩
structure Ask (n:E40) (j warm:Int) (hs:List E205) (p:E25) (l:List E73) (t:E118):Prop where
  few:l.length≤10
  one:1≤l.length
  pl:okPl p=true
  yr:l.all okY=true
  tr:truB p l t=true
  net:NetOk n
  loop:0≤j∧j < (n.1.length:Int)
  hours:hs.length≤n.2.1.length
  warm:(lpA n j).1.1≤warm∧warm≤(lpA n j).1.2.1
  truth:(List.range hs.length).all (okH n j hs)=true
theorem heat_k0 (n:E40) (j warm:Int) (hs:List E205) (p:E25) (l:List E73) (t:E118):∃ b,G6_k0_run ((j,(warm,(hs,(l,())))),(n,(p,(t,()))))=some (0,((j,(warm,(hs,(l,(b,()))))),(n,(p,(t,())))))∧(b=false→Ask n j warm hs p l t):=by
  obtain ⟨r,a1,a2⟩:=o36 p l t
  obtain ⟨r',b1,b2⟩:=o37 n
  unfold G6_k0_run
  rw [a1]
  cases r with
  | false=>exact ⟨true,rfl,fun h=>by cases h⟩
  | true=>
  obtain ⟨p1,p2,p3,p4⟩:=a2 rfl
  simp only [Option.bind_some,Bool.not_true,cond_false]
  cases c1:((List.length l:Int)==0) with
  | true=>exact ⟨true,rfl,fun h=>by cases h⟩
  | false=>
  simp only [cond_false,b1,Option.bind_some]
  cases r' with
  | false=>exact ⟨true,rfl,fun h=>by cases h⟩
  | true=>
  have hn:=b2 rfl
  obtain ⟨k1,k2⟩:=hn.many
  obtain ⟨k3,k4⟩:=hn.hours
  simp only [Bool.not_true,cond_false,o38b n j (show n.1.length≤100 by omega),Option.bind_some]
  cases c2:inB j 0 ((n.1.length:Int) - 1) with
  | false=>exact ⟨true,rfl,fun h=>by cases h⟩
  | true=>
  have c2':=inB_spec.1 c2
  simp only [Bool.not_true,cond_false]
  cases c3:decide ((List.length hs:Int) > (List.length n.2.1:Int)) with
  | true=>exact ⟨true,rfl,fun h=>by cases h⟩
  | false=>
  have gj:(decide (0≤j)&&decide (j < (List.length n.1:Int)))=true:=by simp only [Bool.and_eq_true,decide_eq_true_eq]; omega
  simp only [cond_false,gj,cond_true]
  rw [show (((0,(0,())),((0,(0,())),((0,(0,())),(0,(0,(0,(0,((0,(0,())),())))))))):E123)=dP from rfl]
  rw [show n.1.getD (Int.toNat j) dP=lpA n j from rfl]
  simp only [decide_eq_false_iff_not] at c3
  cases c4:decide (warm < (lpA n j).1.1) with
  | true=>exact ⟨true,rfl,fun h=>by cases h⟩
  | false=>
  simp only [cond_false]
  cases c5:decide (warm > (lpA n j).1.2.1) with
  | true=>exact ⟨true,rfl,fun h=>by cases h⟩
  | false=>
  simp only [cond_false,o39 (n:=n) (j:=j) (l:=hs) ⟨by omega,by omega⟩ (by omega),Option.bind_some]
  simp only [decide_eq_false_iff_not] at c4 c5
  refine ⟨_,rfl,fun h=>⟨p1,?_,p2,p3,p4,hn,⟨by omega,by omega⟩,by omega,⟨by omega,by omega⟩,by simpa using h⟩⟩
  have:(l.length:Int)≠0:=by simpa using c1
  omega
abbrev RH:Type:=(E40×(E25×(E118×(E126×(((List E178)×((Int×(Int×Unit))×Unit))×(((List Int)×(Nat×E94))×((List Int)×(E89×((List Int)×(E89×Unit))))))))))
theorem heat_k1 {n:E40} {j warm:Int} {l:List E73} {p:E25} {t:E118} {x:E126} (h:0≤x.2.2.1):G6_k1_run ((j,(warm,(l,(0,())))),(n,(p,(t,(x,())))))=some (0,((j,(warm,(l,(false,())))),(n,(p,(t,(x,())))))):=by
  unfold G6_k1_run
  have h1:decide (x.2.2.1 < 0)=false:=by simp only [decide_eq_false_iff_not]; omega
  simp only [show ((0:Int) != 0)=false from rfl,cond_false,h1]
theorem heat_k2 {j warm:Int} {l:List E73} {D W:List Int} (R:RH) (hD:D.length=l.length) (hW:W.length=l.length) (h0:0 < l.length) (h:W.getD 0 0≤D.getD 0 0):G6_k2_run ((j,(warm,(l,(D,(0,(W,(0,()))))))),R)=some (0,((j,(warm,(l,(false,())))),R)):=by
  unfold G6_k2_run
  have g1:decide ((0:Int) < (List.length D:Int))=true:=by simp only [decide_eq_true_eq]; omega
  have g2:decide ((0:Int) < (List.length W:Int))=true:=by simp only [decide_eq_true_eq]; omega
  have g3:((List.length D:Int) != (List.length l:Int))=false:=by rw [hD]; simp
  have g4:((List.length W:Int) != (List.length l:Int))=false:=by rw [hW]; simp
  have g5:decide (D.getD (Int.toNat 0) 0 < W.getD (Int.toNat 0) 0)=false:=by
    simp only [decide_eq_false_iff_not]
    have:Int.toNat 0=0:=rfl
    rw [this]
    omega
  simp only [show ((0:Int) != 0)=false from rfl,cond_false,g1,g2,g3,g4,g5,show decide (0≤(0:Int))=true from rfl,Bool.and_self,cond_true]
theorem heat_k3 {a b c:Int} (R:RH) (h1:0≤R.2.2.2.1.1∧R.2.2.2.1.1≤1000000) (h2:0≤R.2.2.2.1.2.1∧R.2.2.2.1.2.1≤1000000000000) (h3:0≤R.2.2.2.1.2.2.2.1∧R.2.2.2.1.2.2.2.1≤1000000000000)
    (h4:0≤R.2.2.2.2.2.2.2.1.2.1∧R.2.2.2.2.2.2.2.1.2.1≤1000000000) (h5:0≤R.2.2.2.2.2.2.2.1.2.2.1∧R.2.2.2.2.2.2.2.1.2.2.1≤1000000000):G6_k3_run ((a,(b,(c,()))),R)=some (0,((a,(b,(c,(false,())))),R)):=by
  unfold G6_k3_run
  have lt:∀ {y:Int},0≤y→decide (y < 0)=false:=fun h=>by simp only [decide_eq_false_iff_not]; omega
  have gt:∀ {y m:Int},y≤m→decide (y > m)=false:=fun h=>by simp only [decide_eq_false_iff_not]; omega
  simp only [lt h1.1,gt h1.2,lt h2.1,gt h2.2,lt h3.1,gt h3.2,lt h4.1,gt h4.2,lt h5.1,gt h5.2,cond_false]
theorem heat_k4 {a b c:Int} (R:RH) (h:(IntKind.wrap .i64 ((IntKind.wrap .i64 ((IntKind.wrap .i64 (c*a))+R.2.2.2.1.2.1))+b))=(IntKind.wrap .i64 ((IntKind.wrap .i64 ((IntKind.wrap .i64 ((IntKind.wrap .i64 (c*R.2.2.2.1.1))+R.2.2.2.1.2.2.2.1))+R.2.2.2.2.2.2.2.1.2.1))+R.2.2.2.2.2.2.2.1.2.2.1))):∃ q,G6_k4_run ((a,(b,(c,()))),R)=some (0,q)∧q.1.1=true:=by
  unfold G6_k4_run
  simp only [h,beq_self_eq_true,cond_true,k40,Option.bind_some]
  exact ⟨_,rfl,rfl⟩
theorem TopHeat_true (n:E40) (j warm:Int) (hs:List E205) (p:E25) (l:List E73) (t:E118):G6 n j warm hs p l t=some true:=by
  obtain ⟨b,h0,hb⟩:=heat_k0 n j warm hs p l t
  unfold G6
  rw [h0]
  cases b with
  | true=>rfl
  | false=>
  have A:=hb rfl
  obtain ⟨k3,k4⟩:=A.net.hours
  obtain ⟨k1,k2⟩:=A.net.many
  have hlen:=A.hours
  have hl2:l.length≤12:=by have:=A.few; omega
  have hl1:=A.one
  obtain ⟨x,h1,hx⟩:=o41 A.net A.loop A.hours A.warm A.truth
  obtain ⟨x1,x2⟩:=hx.warm
  obtain ⟨x3,x4⟩:=hx.boiler
  obtain ⟨x5,x6⟩:=hx.ground
  obtain ⟨x7,x8⟩:=hx.sky
  have xa:=hx.all
  simp only [Option.bind_some,cond_false,h1,heat_k1 x5]
  cases c1:decide (x.2.2.1 > 1000000) with
  | true=>rfl
  | false=>
  simp only [decide_eq_false_iff_not] at c1
  obtain ⟨w0,w1,w2,w3,w4⟩:=truB_spec A.tr
  obtain ⟨w1l,w1v⟩:=insI_spec w1
  obtain ⟨w2l,w2v⟩:=insI_spec w2
  have hq:=plQ_ok (g:=x.2.2.1) A.pl x5 (by omega)
  have tq:=trU_ok (g:=x.2.2.1) (e:=x.2.2.1) A.pl A.tr x5 (Int.le_refl _)
  have tz:=trU_ok (g:=x.2.2.1) (e:=0) A.pl A.tr (Int.le_refl _) x5
  have e1:G42 (p.1,((0,((if x.2.2.1 > p.2.1.2.1 then x.2.2.1 else p.2.1.2.1),())),p.2.2)) l (t.1,((List.set t.2.1 (Int.toNat 0) x.2.2.1),t.2.2))=some (Ds (plQ p x.2.2.1) (trU t x.2.2.1) 0 l.length,((Ins (trU t x.2.2.1) l.length,(Outs (trU t x.2.2.1) 0 l.length,((RL (trU t x.2.2.1) 0 l.length).2,()))),(0,()))):=o16_ok hl2 hq A.yr tq
  have e2:G42 (p.1,((0,((if x.2.2.1 > p.2.1.2.1 then x.2.2.1 else p.2.1.2.1),())),p.2.2)) l (t.1,((List.set t.2.1 (Int.toNat 0) 0),t.2.2))=some (Ds (plQ p x.2.2.1) (trU t 0) 0 l.length,((Ins (trU t 0) l.length,(Outs (trU t 0) 0 l.length,((RL (trU t 0) 0 l.length).2,()))),(0,()))):=o16_ok hl2 hq A.yr tz
  have hd:=trU_deeper (g:=x.2.2.1) hl2 A.pl A.yr A.tr x5 (by omega) (i:=0) (by omega)
  obtain ⟨Tq,Lq⟩:=tru_of hl2 hq A.yr tq
  have hb:=sums_bd Tq (Int.le_refl 0) l.length (Nat.le_refl _)
  have hr:=RL_bd Tq (Int.le_refl 0) l.length (Nat.le_refl _)
  have hled:=ledger (trU t x.2.2.1) 0 l.length
  have hsm:sm t l.length+x.2.2.1=Ins (trU t x.2.2.1) l.length:=by
    obtain ⟨i,hi⟩:∃ i,l.length=i+1:=⟨l.length - 1,by omega⟩
    rw [hi]
    exact sm_ins t x.2.2.1 (by omega) i
  obtain ⟨p1,_,p3,_⟩:=okLp_spec (p:=lpA n j) (A.net.loops (Int.toNat j) (by have:=A.loop; omega))
  have hpw:=okPl_warm A.pl
  have v1:∀ i,i < l.length→0≤t.2.1.getD i 0∧t.2.1.getD i 0≤1000000:=fun i hi=>by have:=w1v i hi; omega
  have v2:∀ i,i < l.length→0≤t.2.2.1.getD i 0∧t.2.2.1.getD i 0≤1000000:=fun i hi=>by have:=w2v i hi; have:=(okY_spec A.yr hi).1; omega
  have g1:decide (0 < List.length t.2.1)=true:=by simp only [decide_eq_true_eq]; omega
  have g2:decide (List.length t.2.1≤LIM)=true:=by
    have:(12:Nat)≤LIM:=by unfold LIM; decide
    simp only [decide_eq_true_eq]; omega
  have g3:decide ((0:Int) < ((List.length t.2.1):Int))=true:=by simp only [decide_eq_true_eq]; omega
  have g4:decide ((Int.toNat 0) < List.length t.2.1)=true:=g1
  have g5:∀ y:Int,decide ((List.length t.2.1)=List.length (List.set t.2.1 (Int.toNat 0) y))=true:=fun y=>by simp
  simp only [cond_false,g1,g2,g3,g4,g5,show decide (0≤(0:Int))=true from rfl,Bool.and_self,cond_true,e1,e2,Option.bind_some]
  rw [heat_k2 _ (Ds_len _ _ _ _) (Ds_len _ _ _ _) (by omega) (by rw [Ds_getD (by omega),Ds_getD (by omega)]; exact hd)]
  simp only [Option.bind_some,cond_false]
  obtain ⟨q,q1,q2,q3,q4,q5,q6⟩:=heat_l0 (j:=j) (warm:=warm) (l:=l) (t:=t) (n,(p,(t,(x,((p.1,((0,((if x.2.2.1 > p.2.1.2.1 then x.2.2.1 else p.2.1.2.1),())),p.2.2)),((t.1,((List.length t.2.1),t.2.2)),((List.set t.2.1 (Int.toNat 0) x.2.2.1),((Ins (trU t x.2.2.1) l.length,(Outs (trU t x.2.2.1) 0 l.length,((RL (trU t x.2.2.1) 0 l.length).2,()))),((List.set t.2.1 (Int.toNat 0) 0),((Ins (trU t 0) l.length,(Outs (trU t 0) 0 l.length,((RL (trU t 0) 0 l.length).2,()))),())))))))))) rfl hl2 w1l w2l v1 v2
  rw [q1]
  have gj:(decide (0≤j)&&decide (j < (List.length n.1:Int)))=true:=by
    have:=A.loop
    simp only [Bool.and_eq_true,decide_eq_true_eq]; omega
  simp only [Option.bind_some,q2,q3,q4,q5,q6,gj,cond_true]
  rw [show (((0,(0,())),((0,(0,())),((0,(0,())),(0,(0,(0,(0,((0,(0,())),())))))))):E123)=dP from rfl]
  rw [show n.1.getD (Int.toNat j) dP=lpA n j from rfl]
  rw [heat_k3 _ ⟨x1,by simp only; omega⟩ ⟨x3,by simp only; omega⟩ ⟨x7,by simp only; omega⟩ ⟨by simp only; omega,by simp only; omega⟩ ⟨by simp only; omega,by simp only; omega⟩]
  simp only [Option.bind_some,cond_false]
  have hsb:=sm_bd v1 v2 l.length (Nat.le_refl _)
  have m1:=mul_bd (a:=(lpA n j).2.2.2.2.1) (b:=warm) (A:=10000) (B:=1000) (by omega) p3.2 (by have:=A.warm; omega) (by have:=A.warm; omega)
  have m2:=mul_bd (a:=(lpA n j).2.2.2.2.1) (b:=x.1) (A:=10000) (B:=100000) (by omega) p3.2 x1 (by omega)
  obtain ⟨z,z1,z2⟩:=heat_k4 (a:=warm) (b:=sm t l.length) (c:=(lpA n j).2.2.2.2.1) (n,(p,(t,(x,((p.1,((0,((if x.2.2.1 > p.2.1.2.1 then x.2.2.1 else p.2.1.2.1),())),p.2.2)),((t.1,((List.length t.2.1),t.2.2)),((List.set t.2.1 (Int.toNat 0) x.2.2.1),((Ins (trU t x.2.2.1) l.length,(Outs (trU t x.2.2.1) 0 l.length,((RL (trU t x.2.2.1) 0 l.length).2,()))),((List.set t.2.1 (Int.toNat 0) 0),((Ins (trU t 0) l.length,(Outs (trU t 0) 0 l.length,((RL (trU t 0) 0 l.length).2,()))),())))))))))) (by
    simp only
    generalize (lpA n j).2.2.2.2.1*warm=u at m1 xa ⊢
    generalize (lpA n j).2.2.2.2.1*x.1=v at m2 xa ⊢
    rw [wr (n:=u) (by omega) (by omega),wr (n:=v) (by omega) (by omega),wr (n:=u+x.2.1) (by omega) (by omega),wr (n:=v+x.2.2.2.1) (by omega) (by omega)]
    generalize Outs (trU t x.2.2.1) 0 l.length=o at hb hled ⊢
    generalize (RL (trU t x.2.2.1) 0 l.length).2=r at hr hled ⊢
    rw [wr (n:=v+x.2.2.2.1+o) (by omega) (by omega),wr (n:=v+x.2.2.2.1+o+r) (by omega) (by omega),wr (by omega) (by omega)]
    omega)
  rw [z1]
  simp only [Option.bind_some,z2]
theorem G6_true (x:Els [.dat T40,.dat (.int .i64),.dat (.int .i64),.dat (.list T205),.dat T25,.dat (.list T73),.dat T118]):G6 x.1 x.2.1 x.2.2.1 x.2.2.2.1 x.2.2.2.2.1 x.2.2.2.2.2.1 x.2.2.2.2.2.2.1=some true:=TopHeat_true _ _ _ _ _ _ _
end Go.Proofs.YtkeipcalbbmncaaGreat.Abs
set_option linter.unusedVariables false
set_option maxRecDepth 100000
namespace Go.Proofs.YtkeipcalbbmncaaGreat.Abs.topHeat
open Go.ChangeShapes Go.WideShapes Go.RowKit
theorem own:ownKnob Tryz.prog.godebug=none:=by kernel_rfl
theorem laidOut:laidOutB Tryz.prog=true:=by kernel_rfl
def laidWorld (os:Os):World:={ World.holding Tryz.prog os ⟨#[],#[],[]⟩ with heap:=(World.holding Tryz.prog os ⟨#[],#[],[]⟩).heap }
theorem laid_met (os:Os):laidMet Tryz.prog Rows.topHeatRow.laid ((laidWorld os).forCall (fun _ _=>0) ⟨#[],#[(Value.agg #[.slice none 0 0,.slice none 0 0,.slice none 0 0]),(Value.int .i64 0),(Value.int .i64 0),(Value.slice none 0 0),(Value.agg #[.slice none 0 0,.int .i64 0,.int .i64 0]),(Value.slice none 0 0),(Value.agg #[.slice none 0 0,.slice none 0 0,.slice none 0 0,.slice none 0 0,.slice none 0 0])],[]⟩).memory:=
  laidMet_of_run' 8 (by kernel_rfl) (by kernel_rfl)
theorem reads (os:Os) {H:Type} (enc:TypeId×Value→H):∃ places,DataW.whole enc Tryz.prog ((laidWorld os).forCall (fun _ _=>0) ⟨#[],#[(Value.agg #[.slice none 0 0,.slice none 0 0,.slice none 0 0]),(Value.int .i64 0),(Value.int .i64 0),(Value.slice none 0 0),(Value.agg #[.slice none 0 0,.int .i64 0,.int .i64 0]),(Value.slice none 0 0),(Value.agg #[.slice none 0 0,.slice none 0 0,.slice none 0 0,.slice none 0 0,.slice none 0 0])],[]⟩).memory Tryz.f6.params.toList Rows.topHeatSpec.vars false #[(Value.agg #[.slice none 0 0,.slice none 0 0,.slice none 0 0]),(Value.int .i64 0),(Value.int .i64 0),(Value.slice none 0 0),(Value.agg #[.slice none 0 0,.int .i64 0,.int .i64 0]),(Value.slice none 0 0),(Value.agg #[.slice none 0 0,.slice none 0 0,.slice none 0 0,.slice none 0 0,.slice none 0 0])].toList 16=some ([.agg [.nil,.nil,.nil],.lit (.int .i64 0),.lit (.int .i64 0),.nil,.agg [.nil,.agg [.lit (.int .i64 0),.lit (.int .i64 0)]],.nil,.agg [.nil,.nil,.nil,.nil,.nil]],[],places):=
  ⟨[],by kernel_rfl⟩
theorem spec_fn (H:Type):(ds:List (DataW H))→ds.length=Tryz.f6.params.toList.length→(Rows.topHeatSpec.fn H ds).results=[.lit (.bool true)]∧(Rows.topHeatSpec.fn H ds).args=ds∧(Rows.topHeatSpec.fn H ds).vars=[]
  | [],h=>by rw [show Tryz.f6.params.toList.length=7 from by kernel_rfl] at h; simp at h
  | [d0],h=>by rw [show Tryz.f6.params.toList.length=7 from by kernel_rfl] at h; simp at h
  | [d0,d1],h=>by rw [show Tryz.f6.params.toList.length=7 from by kernel_rfl] at h; simp at h
  | [d0,d1,d2],h=>by rw [show Tryz.f6.params.toList.length=7 from by kernel_rfl] at h; simp at h
  | [d0,d1,d2,d3],h=>by rw [show Tryz.f6.params.toList.length=7 from by kernel_rfl] at h; simp at h
  | [d0,d1,d2,d3,d4],h=>by rw [show Tryz.f6.params.toList.length=7 from by kernel_rfl] at h; simp at h
  | [d0,d1,d2,d3,d4,d5],h=>by rw [show Tryz.f6.params.toList.length=7 from by kernel_rfl] at h; simp at h
  | [d0,d1,d2,d3,d4,d5,d6],_=>⟨rfl,rfl,rfl⟩
  | d0::d1::d2::d3::d4::d5::d6::_::_,h=>by rw [show Tryz.f6.params.toList.length=7 from by kernel_rfl] at h; simp at h
theorem contract (H:Type) (enc:TypeId×Value→H) (W:World) (base:Nat) (args:Array Value) (ds gs:List (DataW H)) (before:List MemPlace)
    (hval:∀ (j:Nat) t v,Tryz.f6.params[j]?=some t→args[j]?=some v→Value.okWide Tryz.prog W .any base t v)
    (hW:DataW.Whole enc Tryz.prog Tryz.f6.params.toList Rows.topHeatSpec.vars false W args.toList ds gs before) (hL:laidMetH Tryz.prog Rows.topHeatRow.laid W) :
    Calls Tryz.prog 6 args W fun e W'=>∃ v,e=.returned v∧Rows.topHeatSpec.post enc Tryz.prog Tryz.f6 false true false false W args v W':=
  law_contract (n:=20) (fun x r h=>G6_lcall x r h) (fun x _=>G6_true x) (by decide) (show Tryz.f6.resultTypes=#[4] by kernel_rfl) (by kernel_rfl) (by kernel_rfl) laidOut (by
    intro t ht
    have:(Tryz.f6.params.toList.all fun t=>Tryz.prog.readableRec t&&decide (t < Tryz.prog.types.size))=true:=by kernel_rfl
    have:=List.all_eq_true.1 this t ht
    simpa using this) rfl spec_fn hval hW (fun q hq=>by cases hq)
theorem lifted (os:Os) (started:os.Started) (H:Type) (enc:TypeId×Value→H) (F:Stop.Interp) :
    ReturnsInHanded {} Tryz.checked os 6 .any ((OpenSpec.ofChange Rows.topHeatSpec).preRow enc Tryz.prog Tryz.f6 Rows.topHeatRow.domain false Rows.topHeatRow.laid) (((OpenSpec.ofChange Rows.topHeatSpec).at F).post enc Tryz.prog Tryz.f6 false true false false):=by
  obtain ⟨places,hx⟩:=reads os enc
  refine returnsInHanded_of_row (C:=Tryz.checked) (s:=OpenSpec.ofChange Rows.topHeatSpec) own started (by kernel_rfl) Tryz.func6
    (witness_row_at (enc:=enc) (C:=Tryz.checked) false (laidWorld os) #[(Value.agg #[.slice none 0 0,.slice none 0 0,.slice none 0 0]),(Value.int .i64 0),(Value.int .i64 0),(Value.slice none 0 0),(Value.agg #[.slice none 0 0,.int .i64 0,.int .i64 0]),(Value.slice none 0 0),(Value.agg #[.slice none 0 0,.slice none 0 0,.slice none 0 0,.slice none 0 0,.slice none 0 0])] rfl (by kernel_rfl) (by kernel_rfl) (by kernel_rfl)
      (OpenSpec.preRow_of_cond 16 hx (by kernel_rfl) (fun k hk=>by cases hk) (by kernel_rfl) (laid_met os))) ?_
  intro W base args ds gs before hval hW _ _ _ hL _ _
  exact contract H enc W base args ds gs before hval hW hL
theorem and2 {a b:Bool} (h:a=true) (k:b=true):(a&&b)=true:=by rw [h,k]; rfl
theorem fact0:(Rows.topHeatRow.wf (OpenSpec.ofChange (OpenSpec.ofChange Rows.topHeatSpec).bare))=true:=by kernel_rfl
theorem fact1:(laidOutB Tryz.prog)=true:=by kernel_rfl
theorem fact2:(mapsRowed Tryz.prog)=true:=by kernel_rfl
theorem fact3:(Tryz.f6.params.all (Tryz.prog.readableRec ·))=true:=by kernel_rfl
theorem fact4:(namedTie Tryz.prog Rows.topHeatRow.named (OpenSpec.ofChange Rows.topHeatSpec).bare.vars)=true:=by kernel_rfl
theorem fact5:((Rows.topHeatRow.stops==[]))=true:=by kernel_rfl
theorem fact6:((Tryz.prog.stops==[]))=true:=by kernel_rfl
theorem fact7:((Rows.topHeatRow.knobs==[]))=true:=by kernel_rfl
theorem fact8:((Tryz.prog.stopKnobs==[]))=true:=by kernel_rfl
theorem fact9:((Rows.topHeatRow.inPlace==Tryz.prog.inPlace 6))=true:=by kernel_rfl
theorem fact10:((Rows.topHeatRow.unfollowed==Tryz.prog.unfollowed 6))=true:=by kernel_rfl
theorem fact11:((Rows.topHeatRow.recurses==Tryz.prog.recurses 6))=true:=by kernel_rfl
theorem fact12:((Rows.topHeatRow.named==Tryz.prog.varsNamed 6))=true:=by kernel_rfl
theorem fact13:((Rows.topHeatRow.maps==(Tryz.f6.params.toList++(OpenSpec.ofChange Rows.topHeatSpec).bare.plain.varTypes Tryz.prog).any (Tryz.prog.mapsRec ·)))=true:=by kernel_rfl
theorem fact14:((Rows.topHeatRow.ifaces==(Tryz.f6.params.toList++(OpenSpec.ofChange Rows.topHeatSpec).bare.plain.varTypes Tryz.prog).any (Tryz.prog.ifacesRec ·)))=true:=by kernel_rfl
theorem fact15:((Rows.topHeatRow.mapsOut==Tryz.prog.mapsAmong Tryz.f6.resultTypes.toList))=true:=by kernel_rfl
theorem fact16:((Rows.topHeatRow.loops==(Tryz.f6.params.toList++(OpenSpec.ofChange Rows.topHeatSpec).bare.plain.varTypes Tryz.prog).any (Tryz.prog.loopsFrom ·)))=true:=by kernel_rfl
theorem fact17:((Rows.topHeatRow.wideKeys==(Tryz.f6.params.toList++(OpenSpec.ofChange Rows.topHeatSpec).bare.plain.varTypes Tryz.prog++Tryz.f6.resultTypes.toList).any (Tryz.prog.wideKeysFrom ·)))=true:=by kernel_rfl
theorem fact18:((OpenSpec.ofChange Rows.topHeatSpec).bare.vars.all (Tryz.prog.varReadable ·))=true:=by kernel_rfl
theorem fact19:(Tryz.f6.resultTypes.all (fun t=>Tryz.prog.readableRec t&&decide (t < Tryz.prog.types.size)))=true:=by kernel_rfl
theorem fact20:((Rows.topHeatRow.ifacesOut==Tryz.f6.resultTypes.toList.any (Tryz.prog.ifacesRec ·)))=true:=by kernel_rfl
theorem fact21:((Rows.topHeatRow.loopsOut==Tryz.f6.resultTypes.toList.any (Tryz.prog.loopsFrom ·)))=true:=by kernel_rfl
theorem fact22:((Rows.topHeatRow.plainKeys==Tryz.prog.plainKeys))=true:=by kernel_rfl
theorem fact23:(Rows.topHeatRow.shortTexts.isNone)=true:=by kernel_rfl
theorem fact24:(Tryz.prog.stopsHeard)=true:=by kernel_rfl
theorem fact25:(Tryz.prog.mayEnter)=true:=by kernel_rfl
theorem fact26:((Rows.topHeatRow.lifted==Tryz.prog.liftsFinal))=true:=by kernel_rfl
theorem fact27:((Tryz.prog.make==some Rows.topHeatRow.make))=true:=by kernel_rfl
theorem fact28:((Rows.topHeatRow.kinds==(if Rows.topHeatRow.domain.isEmpty then [] else Tryz.f6.params.toList.map fun t=>match Tryz.prog.underlying t with | some (.int k)=>some k | _=>none)))=true:=by kernel_rfl
theorem fact29:((Rows.topHeatRow.pinned==Rows.topHeatRow.pinnedBy))=true:=by kernel_rfl
theorem fact30:((Rows.topHeatRow.veiled==(Tryz.f6.params.toList++(OpenSpec.ofChange Rows.topHeatSpec).bare.plain.varTypes Tryz.prog++Tryz.f6.resultTypes.toList).any (Tryz.prog.veiledRec ·)))=true:=by kernel_rfl
theorem fact31:(Rows.topHeatRow.veiledFits Tryz.prog Tryz.f6.params.toList (Tryz.f6.params.toList++(OpenSpec.ofChange Rows.topHeatSpec).bare.plain.varTypes Tryz.prog++Tryz.f6.resultTypes.toList))=true:=by kernel_rfl
theorem facts:joinedFacts Tryz.prog 6 Tryz.f6 (OpenSpec.ofChange Rows.topHeatSpec).bare Rows.topHeatRow=true:=by unfold joinedFacts; exact (and2 (and2 (and2 (and2 (and2 (and2 (and2 (and2 (and2 (and2 (and2 (and2 (and2 (and2 (and2 (and2 (and2 (and2 (and2 (and2 (and2 (and2 (and2 (and2 (and2 (and2 (and2 (and2 (and2 (and2 (and2 fact0 fact1) fact2) fact3) fact4) fact5) fact6) fact7) fact8) fact9) fact10) fact11) fact12) fact13) fact14) fact15) fact16) fact17) fact18) fact19) fact20) fact21) fact22) fact23) fact24) fact25) fact26) fact27) fact28) fact29) fact30) fact31)
theorem hfn : Tryz.prog.funcNamed "talik/taliktop.TopHeat" = some 6 := by kernel_rfl
theorem hinst:Tryz.f6.isInstance Tryz.prog Rows.topHeatRow.origin Rows.topHeatRow.targs:=of_decide_eq_true (by kernel_rfl)
theorem hwrap:Tryz.f6.isWrapper Tryz.prog Rows.topHeatRow.wrapper Rows.topHeatRow.mainSum:=by unfold Func.isWrapper; first | (rw [if_pos (by decide +kernel)]; kernel_rfl) | (rw [if_neg (by decide +kernel)]; exact ⟨rfl,rfl⟩)
theorem said:Rows.TopHeatSaid:=
  OpenClaim.holds_of_cond 6 Tryz.f6 rfl rfl rfl rfl rfl rfl rfl ⟨rfl,rfl,rfl,rfl,rfl⟩ rfl rfl rfl rfl rfl hfn Tryz.func6 facts hinst hwrap
    (fun os started H enc _ F=>by rw [OpenClaim.pre_eq_preRow]; exact lifted os started H enc F)
end Go.Proofs.YtkeipcalbbmncaaGreat.Abs.topHeat
namespace Go.Proofs.YtkeipcalbbmncaaGreat
theorem topHeat_said:Rows.TopHeatSaid:=Abs.topHeat.said
end Go.Proofs.YtkeipcalbbmncaaGreat
end
