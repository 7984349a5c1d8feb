import Derived.Test.YtkeipcalbbmncaaGreatF3
import Derived.Test.YtkeipcalbbmncaaGreatP2
import Derived.Test.YtkeipcalbbmncaaGreatRows
import Derived.Test.YtkeipcalbbmncaaGreatA4
import Derived.WalkKit
import Derived.ProofKit
import Derived.OpenShut
import Derived.Deep.DeepHandedRow
import Derived.Lib.LaidTab
import Derived.Stop.LaidErr
set_option linter.unusedVariables false
set_option maxRecDepth 100000
namespace Go.Proofs.YtkeipcalbbmncaaGreat.Abs
open Go.Shelf
noncomputable def G7_C:CalT:=tabC [G36_E,k40_E,G18_E,G42_E,G43_E,G44_E,G45_E,G46_E,G47_E]
theorem G7_CV:CV Tryz.prog G7_C:=tabC_valid (l:=_) ⟨G36_valid,k40_valid,G18_valid,G42_valid,G43_valid,G44_valid,G45_valid,G46_valid,G47_valid,trivial⟩
noncomputable def G7_l0_c:Code:=loopAt (bodyOf Tryz.f7) 0
noncomputable def G7_l1_c:Code:=loopAt (bodyOf Tryz.f7) 1
noncomputable def G7_l2_c:Code:=loopAt (bodyOf Tryz.f7) 2
abbrev PA56:PTy:=(.cons (.dat (.list T126)) (.cons (.dat (.list (.int .i64))) (.cons (.dat (.list (.int .i64))) (.cons (.own 0 T23) (.dat (.cons (.list T257) .nil))))))
noncomputable def G7_l0_S:SPat:=⟨[.any,.dat (.list T73),.any,.any,.dat (.list (.int .i64)),.any,.any,.any,.any,.any,.dat .bool,.dat (.list T71),.any,.dat (.list (.int .i64)),.any,.any,.fix (.bptr 4 []),.dat (.int .i64),.any,.any,.any,.any,.any,.any,.any,.any,.any,.any,.any,.any,.any,.any,.any,.any,.any,.any,.any,.any,.any,.any,.any,.any,.any,.any,.any,.any,.any,.any,.any,.any,.any,.any,.any,.any,.any,.any,.any,.any,.any,.any,.any,.any,.any,.any,.any,.any,.any,.any,.any,.any,.any,.any,.any,.any,.any,.any,.any,.any,.any,.any,.any,.any,.any,.any,.any,.any,.any,.any,.any,.any,.any,.any,.any,.any,.any,.any,.any,.any,.any,.any,.any,.any,.any,.any,.any,.any,.any,.any,.any,.any,.any,.any,.any,.any,.any,.any,.any,.any,.any,.any,.any,.any,.any,.any,.any,.any,.any,.any,.any,.any,.any,.any,.any,.any,.any,.any,.any,.any,.any,.any,.any,.any,.any,.any,.any,.any,.any,.any,.any,.any,.any,.any,.any,.any,.any,.any,.any,.any,.any,.any,.any,.any,.any,.any,.any,.any,.any,.any,.any,.any,.any,.any,.any,.any,.any,.any,.any,.any,.any,.any,.any,.any,.any,.any,.any,.any,.any,.any,.any,.any,.any,.any,.any,.any,.any,.any,.any,.any,.any,.any,.any,.any,.any,.any,.any,.any,.any,.any,.any,.any,.any,.any,.any,.any,.any,.any,.any,.any,.any,.any,.any,.any,.any,.any,.any,.any,.any,.any,.any,.any,.any,.any,.any,.any,.any,.any,.any,.any,.any,.any,.any,.any,.any,.any,.any,.any,.any,.any,.any,.any,.any,.any,.any,.any,.any,.any,.any,.any],[.dat T25,.dat T118,.dat T137,.dat T89,.cons (.dat (.int .i64)) PA56],1⟩
abbrev TY57:Type:=(((List E73)×((List Int)×(Bool×((List E71)×((List Int)×(Int×Unit))))))×(E25×(E118×(E137×(E89×((Int×((List E126)×((List Int)×((List Int)×((List E23)×((List E257)×Unit))))))×Unit))))))
abbrev TY58:Type:=(Nat×(((List E73)×((List Int)×(Bool×((List E71)×((List Int)×(Int×Unit))))))×(E25×(E118×(E137×(E89×((Int×((List E126)×((List Int)×((List Int)×((List E23)×((List E257)×Unit))))))×Unit)))))))
noncomputable def G7_l0_step (s:TY57):Option TY58:=
  (bif (decide (s.1.2.2.2.2.2.1 < (List.length s.1.2.2.2.1:Int))) then
  (bif (decide (0≤s.1.2.2.2.2.2.1)&&decide (s.1.2.2.2.2.2.1 < (List.length s.1.2.2.2.1:Int))) then
    (bif (decide ((List.getD s.1.2.2.2.1 (Int.toNat s.1.2.2.2.2.2.1) ((0,(0,())),((0,(0,())),(0,())))).1.2.1 > 20000)) then
      (Option.bind k40 fun r10=>
        some (1,((s.1.1,(s.1.2.1,(r10,(s.1.2.2.2.1,(s.1.2.2.2.2.1,(s.1.2.2.2.2.2.1,())))))),(s.2.1,(s.2.2.1,(s.2.2.2.1,(s.2.2.2.2.1,(s.2.2.2.2.2.1,()))))))))
      else
      (bif (decide (0≤s.1.2.2.2.2.2.1)&&decide (s.1.2.2.2.2.2.1 < (List.length s.1.2.2.2.2.1:Int))) then
        (bif (decide ((List.getD s.1.2.2.2.2.1 (Int.toNat s.1.2.2.2.2.2.1) 0) < (List.getD s.1.2.2.2.1 (Int.toNat s.1.2.2.2.2.2.1) ((0,(0,())),((0,(0,())),(0,())))).1.1)) then
          some (1,((s.1.1,(s.1.2.1,(false,(s.1.2.2.2.1,(s.1.2.2.2.2.1,(s.1.2.2.2.2.2.1,())))))),(s.2.1,(s.2.2.1,(s.2.2.2.1,(s.2.2.2.2.1,(s.2.2.2.2.2.1,())))))))
          else
          (bif (decide (0≤s.1.2.2.2.2.2.1)&&decide (s.1.2.2.2.2.2.1 < (List.length s.1.2.2.2.2.1:Int))) then
            (bif (decide ((List.getD s.1.2.2.2.2.1 (Int.toNat s.1.2.2.2.2.2.1) 0) > (List.getD s.1.2.2.2.1 (Int.toNat s.1.2.2.2.2.2.1) ((0,(0,())),((0,(0,())),(0,())))).1.2.1)) then
              some (1,((s.1.1,(s.1.2.1,(false,(s.1.2.2.2.1,(s.1.2.2.2.2.1,(s.1.2.2.2.2.2.1,())))))),(s.2.1,(s.2.2.1,(s.2.2.2.1,(s.2.2.2.2.1,(s.2.2.2.2.2.1,())))))))
              else
              (bif (decide (List.length s.2.2.2.2.2.1.2.2.2.2.1+List.length [(List.getD s.1.2.2.2.1 (Int.toNat s.1.2.2.2.2.2.1) ((0,(0,())),((0,(0,())),(0,())))).1]≤LIM)) then
                some (0,((s.1.1,(s.1.2.1,(s.1.2.2.1,(s.1.2.2.2.1,(s.1.2.2.2.2.1,((IntKind.wrap .i64 (s.1.2.2.2.2.2.1+1)),())))))),(s.2.1,(s.2.2.1,(s.2.2.2.1,(s.2.2.2.2.1,((s.2.2.2.2.2.1.1,(s.2.2.2.2.2.1.2.1,(s.2.2.2.2.2.1.2.2.1,(s.2.2.2.2.2.1.2.2.2.1,((s.2.2.2.2.2.1.2.2.2.2.1++[(List.getD s.1.2.2.2.1 (Int.toNat s.1.2.2.2.2.2.1) ((0,(0,())),((0,(0,())),(0,())))).1]),s.2.2.2.2.2.1.2.2.2.2.2))))),())))))))
                else
                none))
            else
            none))
        else
        none))
    else
    none)
  else
  some (2,((s.1.1,(s.1.2.1,(s.1.2.2.1,(s.1.2.2.2.1,(s.1.2.2.2.2.1,(s.1.2.2.2.2.2.1,())))))),(s.2.1,(s.2.2.1,(s.2.2.2.1,(s.2.2.2.2.1,(s.2.2.2.2.2.1,()))))))))
noncomputable def G7_l0_fuel (s:TY57):Nat:=Int.toNat ((List.length s.1.2.2.2.1:Int) - s.1.2.2.2.2.2.1)+1
noncomputable def G7_l0_run (s:TY57):Option TY58:=iter G7_l0_step (G7_l0_fuel s) s
noncomputable def G7_l0_L:LoopT:=loopT G7_l0_S [.ret,.exit 0] G7_l0_run
noncomputable def G7_l1_S:SPat:=⟨[.any,.dat (.list T73),.any,.any,.dat (.list (.int .i64)),.any,.any,.any,.any,.any,.dat .bool,.any,.any,.dat (.list (.int .i64)),.any,.any,.fix (.bptr 4 []),.any,.any,.any,.any,.any,.dat (.list (.int .i64)),.any,.dat (.int .i64),.any,.any,.any,.any,.any,.any,.any,.any,.any,.any,.any,.any,.any,.any,.any,.any,.any,.any,.any,.any,.any,.any,.any,.any,.any,.any,.any,.any,.any,.any,.any,.any,.any,.any,.any,.any,.any,.any,.any,.any,.any,.any,.any,.any,.any,.any,.any,.any,.any,.any,.any,.any,.any,.any,.any,.any,.any,.any,.any,.any,.any,.any,.any,.any,.any,.any,.any,.any,.any,.any,.any,.any,.any,.any,.any,.any,.any,.any,.any,.any,.any,.any,.any,.any,.any,.any,.any,.any,.any,.any,.any,.any,.any,.any,.any,.any,.any,.any,.any,.any,.any,.any,.any,.any,.any,.any,.any,.any,.any,.any,.any,.any,.any,.any,.any,.any,.any,.any,.any,.any,.any,.any,.any,.any,.any,.any,.any,.any,.any,.any,.any,.any,.any,.any,.any,.any,.any,.any,.any,.any,.any,.any,.any,.any,.any,.any,.any,.any,.any,.any,.any,.any,.any,.any,.any,.any,.any,.any,.any,.any,.any,.any,.any,.any,.any,.any,.any,.any,.any,.any,.any,.any,.any,.any,.any,.any,.any,.any,.any,.any,.any,.any,.any,.any,.any,.any,.any,.any,.any,.any,.any,.any,.any,.any,.any,.any,.any,.any,.any,.any,.any,.any,.any,.any,.any,.any,.any,.any,.any,.any,.any,.any,.any,.any,.any,.any,.any,.any,.any,.any,.any,.any,.any,.any,.any,.any,.any,.any,.any,.any,.any,.any,.any],[.dat T25,.dat T118,.dat T137,.dat T89,.cons (.dat (.int .i64)) PA56],1⟩
abbrev TY59:Type:=(((List E73)×((List Int)×(Bool×((List Int)×((List Int)×(Int×Unit))))))×(E25×(E118×(E137×(E89×((Int×((List E126)×((List Int)×((List Int)×((List E23)×((List E257)×Unit))))))×Unit))))))
abbrev TY60:Type:=(Nat×(((List E73)×((List Int)×(Bool×((List Int)×((List Int)×(Int×Unit))))))×(E25×(E118×(E137×(E89×((Int×((List E126)×((List Int)×((List Int)×((List E23)×((List E257)×Unit))))))×Unit)))))))
noncomputable def G7_l1_step (s:TY59):Option TY60:=
  (bif (decide (s.1.2.2.2.2.2.1 < (List.length s.2.2.2.2.2.1.2.2.2.1:Int))) then
  (bif (decide (0≤s.1.2.2.2.2.2.1)&&decide (s.1.2.2.2.2.2.1 < (List.length s.2.2.2.2.2.1.2.2.2.1:Int))) then
    (bif (decide (0≤(List.getD s.2.2.2.2.2.1.2.2.2.1 (Int.toNat s.1.2.2.2.2.2.1) 0))&&decide ((List.getD s.2.2.2.2.2.1.2.2.2.1 (Int.toNat s.1.2.2.2.2.2.1) 0) < (List.length s.1.2.2.2.2.1:Int))) then
      (bif ((List.getD s.1.2.2.2.2.1 (Int.toNat (List.getD s.2.2.2.2.2.1.2.2.2.1 (Int.toNat s.1.2.2.2.2.2.1) 0)) 0) != (List.length s.1.1:Int)) then
        some (1,((s.1.1,(s.1.2.1,(false,(s.1.2.2.2.1,(s.1.2.2.2.2.1,(s.1.2.2.2.2.2.1,())))))),(s.2.1,(s.2.2.1,(s.2.2.2.1,(s.2.2.2.2.1,(s.2.2.2.2.2.1,())))))))
        else
        some (0,((s.1.1,(s.1.2.1,(s.1.2.2.1,(s.1.2.2.2.1,(s.1.2.2.2.2.1,((IntKind.wrap .i64 (s.1.2.2.2.2.2.1+1)),())))))),(s.2.1,(s.2.2.1,(s.2.2.2.1,(s.2.2.2.2.1,(s.2.2.2.2.2.1,()))))))))
      else
      none)
    else
    none)
  else
  some (2,((s.1.1,(s.1.2.1,(s.1.2.2.1,(s.1.2.2.2.1,(s.1.2.2.2.2.1,(s.1.2.2.2.2.2.1,())))))),(s.2.1,(s.2.2.1,(s.2.2.2.1,(s.2.2.2.2.1,(s.2.2.2.2.2.1,()))))))))
noncomputable def G7_l1_fuel (s:TY59):Nat:=Int.toNat ((List.length s.2.2.2.2.2.1.2.2.2.1:Int) - s.1.2.2.2.2.2.1)+1
noncomputable def G7_l1_run (s:TY59):Option TY60:=iter G7_l1_step (G7_l1_fuel s) s
noncomputable def G7_l1_L:LoopT:=loopT G7_l1_S [.ret,.exit 2] G7_l1_run
noncomputable def G7_l2_S:SPat:=⟨[.any,.any,.any,.any,.any,.any,.any,.any,.any,.any,.dat .bool,.any,.any,.any,.any,.any,.fix (.bptr 4 []),.any,.any,.any,.any,.any,.any,.any,.any,.dat (.list T23),.any,.dat (.list (.int .i64)),.any,.dat (.int .i64),.any,.any,.any,.any,.any,.any,.any,.any,.any,.any,.any,.any,.any,.any,.any,.any,.any,.any,.any,.any,.any,.any,.any,.any,.any,.any,.any,.any,.any,.any,.any,.any,.any,.any,.any,.any,.any,.any,.any,.any,.any,.any,.any,.any,.any,.any,.any,.any,.any,.any,.any,.any,.any,.any,.any,.any,.any,.any,.any,.any,.any,.any,.any,.any,.any,.any,.any,.any,.any,.any,.any,.any,.any,.any,.any,.any,.any,.any,.any,.any,.any,.any,.any,.any,.any,.any,.any,.any,.any,.any,.any,.any,.any,.any,.any,.any,.any,.any,.any,.any,.any,.any,.any,.any,.any,.any,.any,.any,.any,.any,.any,.any,.any,.any,.any,.any,.any,.any,.any,.any,.any,.any,.any,.any,.any,.any,.any,.any,.any,.any,.any,.any,.any,.any,.any,.any,.any,.any,.any,.any,.any,.any,.any,.any,.any,.any,.any,.any,.any,.any,.any,.any,.any,.any,.any,.any,.any,.any,.any,.any,.any,.any,.any,.any,.any,.any,.any,.any,.any,.any,.any,.any,.any,.any,.any,.any,.any,.any,.any,.any,.any,.any,.any,.any,.any,.any,.any,.any,.any,.any,.any,.any,.any,.any,.any,.any,.any,.any,.any,.any,.any,.any,.any,.any,.any,.any,.any,.any,.any,.any,.any,.any,.any,.any,.any,.any,.any,.any,.any,.any,.any,.any,.any,.any,.any,.any,.any,.any],[.dat T25,.dat T118,.dat T137,.dat T89,.cons (.dat (.int .i64)) PA56],1⟩
abbrev TY61:Type:=(E25×(E118×(E137×(E89×((Int×((List E126)×((List Int)×((List Int)×((List E23)×((List E257)×Unit))))))×Unit)))))
abbrev TY62:Type:=(Nat×((Bool×((List E23)×((List Int)×(Int×Unit))))×(E25×(E118×(E137×(E89×((Int×((List E126)×((List Int)×((List Int)×((List E23)×((List E257)×Unit))))))×Unit)))))))
noncomputable def G7_l2_step (s:((Bool×((List E23)×((List Int)×(Int×Unit))))×TY61)):Option TY62:=
  (bif (decide (s.1.2.2.2.1 < s.2.2.2.2.2.1.1)) then
  (bif (decide (0≤s.1.2.2.2.1)&&decide (s.1.2.2.2.1 < (List.length s.1.2.2.1:Int))) then
    (bif (decide (0≤s.1.2.2.2.1)&&decide (s.1.2.2.2.1 < (List.length s.1.2.1:Int))) then
      (bif (decide ((List.getD s.1.2.2.1 (Int.toNat s.1.2.2.2.1) 0) < (List.getD s.1.2.1 (Int.toNat s.1.2.2.2.1) (0,(0,()))).1)) then
        some (1,((false,(s.1.2.1,(s.1.2.2.1,(s.1.2.2.2.1,())))),(s.2.1,(s.2.2.1,(s.2.2.2.1,(s.2.2.2.2.1,(s.2.2.2.2.2.1,())))))))
        else
        (bif (decide (0≤s.1.2.2.2.1)&&decide (s.1.2.2.2.1 < (List.length s.1.2.2.1:Int))) then
          (bif (decide (0≤s.1.2.2.2.1)&&decide (s.1.2.2.2.1 < (List.length s.1.2.1:Int))) then
            (bif (decide ((List.getD s.1.2.2.1 (Int.toNat s.1.2.2.2.1) 0) > (List.getD s.1.2.1 (Int.toNat s.1.2.2.2.1) (0,(0,()))).2.1)) then
              some (1,((false,(s.1.2.1,(s.1.2.2.1,(s.1.2.2.2.1,())))),(s.2.1,(s.2.2.1,(s.2.2.2.1,(s.2.2.2.2.1,(s.2.2.2.2.2.1,())))))))
              else
              some (0,((s.1.1,(s.1.2.1,(s.1.2.2.1,((IntKind.wrap .i64 (s.1.2.2.2.1+1)),())))),(s.2.1,(s.2.2.1,(s.2.2.2.1,(s.2.2.2.2.1,(s.2.2.2.2.2.1,()))))))))
            else
            none)
          else
          none))
      else
      none)
    else
    none)
  else
  some (2,((s.1.1,(s.1.2.1,(s.1.2.2.1,(s.1.2.2.2.1,())))),(s.2.1,(s.2.2.1,(s.2.2.2.1,(s.2.2.2.2.1,(s.2.2.2.2.2.1,()))))))))
noncomputable def G7_l2_fuel (s:((Bool×((List E23)×((List Int)×(Int×Unit))))×TY61)):Nat:=Int.toNat (s.2.2.2.2.2.1.1 - s.1.2.2.2.1)+1
noncomputable def G7_l2_run (s:((Bool×((List E23)×((List Int)×(Int×Unit))))×TY61)):Option TY62:=iter G7_l2_step (G7_l2_fuel s) s
noncomputable def G7_l2_L:LoopT:=loopT G7_l2_S [.ret,.exit 4] G7_l2_run
noncomputable def G7 (a0:E25) (a1:(List E73)) (a2:E118) (a3:E137) (a4:(List Int)):Option Bool:=
  (Option.bind (G36 a0 a1 a2) fun r1=>
  (bif (!r1) then
    (Option.bind k40 fun r2=>
      some r2)
    else
    (bif (decide ((List.length a3.2.1:Int) > 15)) then
      (Option.bind k40 fun r3=>
        some r3)
      else
      (bif (decide ((List.length a3.2.2.1:Int) > 15)) then
        (Option.bind k40 fun r4=>
          some r4)
        else
        (bif (decide ((List.length a3.2.2.2.1:Int) > 15)) then
          (Option.bind k40 fun r5=>
            some r5)
          else
          (bif (decide ((List.length a3.2.2.2.2.2.1:Int) > 10)) then
            (Option.bind k40 fun r6=>
              some r6)
            else
            (bif (decide ((List.length a4:Int) > 15)) then
              (Option.bind k40 fun r7=>
                some r7)
              else
              (Option.bind (G18 a0 a1) fun r8=>
                (Option.bind (G42 a0 a1 a2) fun r9=>
                  (bif (r8.2.1 != 0) then
                    some false
                    else
                    (bif (r9.2.2.1 != 0) then
                      some false
                      else
                      (bif ((List.length r8.1:Int) != (List.length a1:Int)) then
                        some false
                        else
                        (bif ((List.length r9.1:Int) != (List.length a1:Int)) then
                          some false
                          else
                          (Option.bind (G7_l0_run ((a1,(a4,(false,(r8.1,(r9.1,(0,())))))),(a0,(a2,(a3,(r9.2.1,((a3.1,(a3.2.1,(a3.2.2.1,(a3.2.2.2.1,([],a3.2.2.2.2.2))))),()))))))) fun q11=>
                            (natK q11.1
                              (some q11.2.1.2.2.1)
                              (fun _=>(Option.bind (G43 q11.2.2.2.2.2.2.1) fun r12=>
                                (bif (!r12) then
                                  (Option.bind k40 fun r13=>
                                    some r13)
                                  else
                                  (Option.bind (G44 q11.2.2.2.2.2.2.1 q11.2.1.2.1) fun r14=>
                                    (bif (!r14) then
                                      (Option.bind k40 fun r15=>
                                        some r15)
                                      else
                                      (Option.bind (G45 q11.2.2.2.2.2.2.1) fun r16=>
                                        (bif (r16.2.2.1==0) then
                                          (Option.bind (G44 q11.2.2.2.2.2.2.1 r16.1) fun r17=>
                                            (bif (!r17) then
                                              some false
                                              else
                                              (Option.bind (G46 q11.2.2.2.2.2.2.1 r16.1 q11.2.1.2.2.2.2.1) fun r18=>
                                                (bif (r18.2.1 != 0) then
                                                  some false
                                                  else
                                                  (bif ((List.length r18.1:Int) != q11.2.2.2.2.2.2.1.1) then
                                                    some false
                                                    else
                                                    (Option.bind (G7_l1_run ((q11.2.1.1,(q11.2.1.2.1,(q11.2.1.2.2.1,(q11.2.1.2.2.2.2.1,(r18.1,(0,())))))),(q11.2.2.1,(q11.2.2.2.1,(q11.2.2.2.2.1,(q11.2.2.2.2.2.1,(q11.2.2.2.2.2.2.1,()))))))) fun q19=>
                                                      (natK q19.1
                                                        (some q19.2.1.2.2.1)
                                                        (fun _=>(Option.bind (G47 q19.2.2.2.2.2.2.1 q19.2.1.2.1) fun r20=>
                                                          (Option.bind (G46 q19.2.2.2.2.2.2.1 q19.2.1.2.1 q19.2.1.2.2.2.1) fun r21=>
                                                            (bif (r20.2.1 != 0) then
                                                              some false
                                                              else
                                                              (bif (r21.2.1 != 0) then
                                                                some false
                                                                else
                                                                (bif ((List.length r20.1:Int) != q19.2.2.2.2.2.2.1.1) then
                                                                  some false
                                                                  else
                                                                  (bif ((List.length r21.1:Int) != q19.2.2.2.2.2.2.1.1) then
                                                                    some false
                                                                    else
                                                                    (Option.bind (G7_l2_run ((q19.2.1.2.2.1,(r20.1,(r21.1,(0,())))),(q19.2.2.1,(q19.2.2.2.1,(q19.2.2.2.2.1,(q19.2.2.2.2.2.1,(q19.2.2.2.2.2.2.1,()))))))) fun q22=>
                                                                      (natK q22.1
                                                                        (some q22.2.1.1)
                                                                        (fun _=>(Option.bind k40 fun r23=>
                                                                          some r23))))))))))))))))))
                                          else
                                          (bif (r16.2.2.1 != 5) then
                                            some false
                                            else
                                            (Option.bind (G47 q11.2.2.2.2.2.2.1 q11.2.1.2.1) fun r24=>
                                              (Option.bind (G46 q11.2.2.2.2.2.2.1 q11.2.1.2.1 q11.2.1.2.2.2.2.1) fun r25=>
                                                (bif (r24.2.1 != 0) then
                                                  some false
                                                  else
                                                  (bif (r25.2.1 != 0) then
                                                    some false
                                                    else
                                                    (bif ((List.length r24.1:Int) != q11.2.2.2.2.2.2.1.1) then
                                                      some false
                                                      else
                                                      (bif ((List.length r25.1:Int) != q11.2.2.2.2.2.2.1.1) then
                                                        some false
                                                        else
                                                        (Option.bind (G7_l2_run ((q11.2.1.2.2.1,(r24.1,(r25.1,(0,())))),(q11.2.2.1,(q11.2.2.2.1,(q11.2.2.2.2.1,(q11.2.2.2.2.2.1,(q11.2.2.2.2.2.2.1,()))))))) fun q26=>
                                                          (natK q26.1
                                                            (some q26.2.1.1)
                                                            (fun _=>(Option.bind k40 fun r27=>
                                                              some r27)))))))))))))))))))))))))))))))))
theorem G7_l0_V:LValid 0 Tryz.prog (.loop G7_l0_c) G7_l0_L false:=by
  exact loopT_valid (fuel:=G7_l0_fuel) mixed G7_CV (lvNil _) (by kernel_rfl) (by decide) rfl (by intro s; kernel_rfl) (fun s r h=>h)
theorem G7_l1_V:LValid 0 Tryz.prog (.loop G7_l1_c) G7_l1_L false:=by
  exact loopT_valid (fuel:=G7_l1_fuel) mixed G7_CV (lvNil _) (by kernel_rfl) (by decide) rfl (by intro s; kernel_rfl) (fun s r h=>h)
theorem G7_l2_V:LValid 0 Tryz.prog (.loop G7_l2_c) G7_l2_L false:=by
  exact loopT_valid (fuel:=G7_l2_fuel) mixed G7_CV (lvNil _) (by kernel_rfl) (by decide) rfl (by intro s; kernel_rfl) (fun s r h=>h)
theorem G7_LV:LV 0 Tryz.prog false (loopsOf (bodyOf Tryz.f7)) [G7_l0_L,G7_l1_L,G7_l2_L]:=by
  have hl:loopsOf (bodyOf Tryz.f7)=[.loop G7_l0_c,.loop G7_l1_c,.loop G7_l2_c]:=by kernel_rfl
  rw [hl]; exact ⟨G7_l0_V,G7_l1_V,G7_l2_V,trivial⟩
theorem G7_ent:Ent Tryz.prog 7:=⟨by decide,enters_of Tryz.func7 (by kernel_rfl) rfl⟩
theorem G7_hev:∀ x,fnR Tryz.prog G7_C [G7_l0_L,G7_l1_L,G7_l2_L] Tryz.f7 (bodyOf Tryz.f7) (encs [.dat T25,.dat (.list T73),.dat T118,.dat T137,.dat (.list (.int .i64))] x) ⟨[],[],0⟩ (frzF (.dat .bool))=G7 x.1 x.2.1 x.2.2.1 x.2.2.2.1 x.2.2.2.2.1:=by
  intro x; kernel_rfl
theorem G7_lcall:∀ x r,(fun x:Els [.dat T25,.dat (.list T73),.dat T118,.dat T137,.dat (.list (.int .i64))]=>G7 x.1 x.2.1 x.2.2.1 x.2.2.2.1 x.2.2.2.2.1) x=some r→LCall 0 Tryz.prog 7 (encs [.dat T25,.dat (.list T73),.dat T118,.dat T137,.dat (.list (.int .i64))] x) ⟨[],[],0⟩ (.d .bool r) ⟨[],[],0⟩:=frz_lcall (R:=.dat .bool) mixed Tryz.func7 rfl G7_ent G7_CV G7_LV (by kernel_rfl) (by kernel_rfl) G7_hev
end Go.Proofs.YtkeipcalbbmncaaGreat.Abs
set_option linter.unusedVariables false
set_option linter.unusedSimpArgs false
set_option maxRecDepth 100000
namespace Go.Proofs.YtkeipcalbbmncaaGreat.Abs
theorem o36 (p:E25) (l:List E73) (t:E118):∃ r,G36 p l t=some r∧(r=true→l.length≤10∧okPl p=true∧l.all okY=true∧truB p l t=true):=by
  unfold G36
  cases h1:decide ((List.length p.1:Int) > 10) with
  | true=>exact ⟨_,rfl,fun h=>by cases h⟩
  | false=>
    cases h2:decide ((List.length l:Int) > 10) with
    | true=>exact ⟨_,rfl,fun h=>by cases h⟩
    | false=>
      simp only [decide_eq_false_iff_not] at h1 h2
      have hp:p.1.length < 2^40:=by omega
      have hl:l.length < 2^40:=by omega
      rw [o38 p hp,o53 l hl,o18 p l t hp hl]
      simp only [cond_false,Option.bind_some]
      cases decide ((List.length t.1:Int) > 10)<;>cases decide ((List.length t.2.1:Int) > 10)<;>cases decide ((List.length t.2.2.1:Int) > 10)<;>cases decide ((List.length t.2.2.2.1:Int) > 10)<;>cases decide ((List.length t.2.2.2.2.1:Int) > 10)<;>simp only [cond_true,cond_false]<;>first | exact ⟨_,rfl,fun h=>by cases h⟩ | skip
      cases h3:okPl p<;>cases h4:l.all okY<;>simp only [cond_true,cond_false]<;>first | exact ⟨_,rfl,fun h=>by cases h⟩ | exact ⟨_,rfl,fun h=>⟨by omega,by first | rfl | trivial,by first | rfl | trivial,h⟩⟩
def mapX (m:E137) (th:List E23):E137:=(m.1,(m.2.1,(m.2.2.1,(m.2.2.2.1,(th,m.2.2.2.2.2)))))
def thX (p:E25) (l:List E73) (n:Nat):List E23:=(List.range n).map fun k=>(kno p l k).1
theorem thX_len (p:E25) (l:List E73) (n:Nat):(thX p l n).length=n:=by simp [thX]
theorem thX_get {p:E25} {l:List E73} {n i:Nat} {d:E23} (h:i < n):(thX p l n).getD i d=(kno p l i).1:=map_range_getD h
theorem top_l0 {p:E25} {l:List E73} {t:E118} {m:E137} {ds:List Int} {z:E89} (hl:l.length≤12) (hp:okPl p=true) (hy:l.all okY=true) (ht:truB p l t=true) :
    ∃ q,G7_l0_run ((l,(ds,(false,(Kno p l l.length,(Ds p t 0 l.length,(0,())))))),(p,(t,(m,(z,((m.1,(m.2.1,(m.2.2.1,(m.2.2.2.1,([],m.2.2.2.2.2))))),()))))))=some q∧((q.1=0∧q.2.1.2.2.1=true)∨(q.1=1∧q.2.1.1=l∧q.2.1.2.1=ds∧q.2.1.2.2.2.2.1=Ds p t 0 l.length∧q.2.2.2.2.2.2.1=mapX m (thX p l l.length))):=by
  rcases iter_find (step:=G7_l0_step) (bad:=fun i=>decide ((kno p l i).1.2.1 > 20000)) (n:=l.length) (k1:=0) (k2:=1)
    (fun i s=>s.1.1=l∧s.1.2.1=ds∧s.1.2.2.2.1=Kno p l l.length∧s.1.2.2.2.2.1=Ds p t 0 l.length∧s.1.2.2.2.2.2.1=(i:Int)∧s.2.2.2.2.2.1=mapX m (thX p l i))
    (fun _ s=>s.1.2.2.1=true) (fun s=>s.1.1=l∧s.1.2.1=ds∧s.1.2.2.2.2.1=Ds p t 0 l.length∧s.2.2.2.2.2.1=mapX m (thX p l l.length))
    (fun i s h hi hb=>by
      obtain ⟨a1,a2,a3,a4,a5,a6⟩:=h
      have g1:(decide (0≤(i:Int))&&decide ((i:Int) < (List.length (Kno p l l.length):Int)))=true:=inside_lt (by rw [Kno_len]; exact hi)
      have g2:(decide (0≤(i:Int))&&decide ((i:Int) < (List.length (Ds p t 0 l.length):Int)))=true:=inside_lt (by rw [Ds_len]; exact hi)
      have g3:decide ((i:Int) < (List.length (Kno p l l.length):Int))=true:=ltI (by rw [Kno_len]; exact hi)
      have c1:decide (thw p t 0 i < (kno p l i).1.1)=false:=by
        have h:(kno p l i).1.1=thw p (eT false p l) 0 i:=rfl
        have:=thw_cold hl hp hy ht (a:=0) (Int.le_refl _) hi
        simp only [decide_eq_false_iff_not]; omega
      have c2:decide (thw p t 0 i > (kno p l i).1.2.1)=false:=by
        have h:(kno p l i).1.2.1=thw p (eT true p l) 0 i:=rfl
        have:=thw_hot hl hp hy ht (a:=0) (Int.le_refl _) hi
        simp only [decide_eq_false_iff_not]; omega
      have g5:decide (0≤(i:Int))=true:=by simp
      have g6:decide ((i:Int) < (List.length (Ds p t 0 l.length):Int))=true:=ltI (by rw [Ds_len]; exact hi)
      have g4:=lim_ok (a:=(thX p l i).length) (b:=List.length [(kno p l i).1]) (by rw [thX_len]; simp; omega)
      simp only [G7_l0_step,a1,a2,a3,a4,a5,a6,g1,g2,g3,getD_toNat,Kno_getD hi,Ds_getD hi,cond_true,hb,cond_false,c1,c2,g5,g6,Bool.true_and,Bool.and_true]
      simp only [mapX]
      erw [g4]
      simp only [cond_true]
      refine ⟨_,rfl,rfl,rfl,rfl,rfl,wr (by omega) (by omega),?_⟩
      simp only [thX,List.range_succ,List.map_append,List.map_cons,List.map_nil])
    (fun i s h hi hb=>by
      obtain ⟨a1,a2,a3,a4,a5,a6⟩:=h
      have g1:(decide (0≤(i:Int))&&decide ((i:Int) < (List.length (Kno p l l.length):Int)))=true:=inside_lt (by rw [Kno_len]; exact hi)
      have g3:decide ((i:Int) < (List.length (Kno p l l.length):Int))=true:=ltI (by rw [Kno_len]; exact hi)
      simp only [G7_l0_step,a1,a2,a3,a4,a5,a6,g1,g3,getD_toNat,Kno_getD hi,cond_true,hb,k40,Option.bind_some]
      exact ⟨_,rfl,rfl⟩)
    (fun s h=>by
      obtain ⟨a1,a2,a3,a4,a5,a6⟩:=h
      simp only [G7_l0_step,a1,a2,a3,a4,a5,Kno_len,ltN,cond_false]
      exact ⟨_,rfl,rfl,rfl,rfl,a6⟩)
    l.length 0 (G7_l0_fuel ((l,(ds,(false,(Kno p l l.length,(Ds p t 0 l.length,(0,())))))),(p,(t,(m,(z,((m.1,(m.2.1,(m.2.2.1,(m.2.2.2.1,([],m.2.2.2.2.2))))),()))))))) ((l,(ds,(false,(Kno p l l.length,(Ds p t 0 l.length,(0,())))))),(p,(t,(m,(z,((m.1,(m.2.1,(m.2.2.1,(m.2.2.2.1,([],m.2.2.2.2.2))))),())))))) (by omega) (by simp [G7_l0_fuel,Kno_len]) ⟨rfl,rfl,rfl,rfl,rfl,rfl⟩ with ⟨j,q,_,_,_,_,h1,h2⟩ | ⟨_,q,h1,h2⟩
  · exact ⟨_,h1,.inl ⟨rfl,h2⟩⟩
  · exact ⟨_,h1,.inr ⟨rfl,h2⟩⟩
theorem top_l1 {X:E137} {l:List E73} {ds F D:List Int} {p:E25} {t:E118} {m:E137} {z:E89} {bb:Bool} (hX:OkM X) (hF:F.length=Int.toNat X.1) (hw:X.2.2.2.1.length < 2^40) (h:∀ i,i < X.2.2.2.1.length→F.getD (Int.toNat (X.2.2.2.1.getD i 0)) 0=(l.length:Int)) :
    ∃ q,G7_l1_run ((l,(ds,(bb,(D,(F,(0,())))))),(p,(t,(m,(z,(X,()))))))=some (1,q)∧q.1.2.1=ds∧q.1.2.2.2.1=D∧q.2.2.2.2.2.1=X:=by
  obtain ⟨q,h1,h2⟩:=iter_all (step:=G7_l1_step) (n:=X.2.2.2.1.length) (k:=1) (fun i s=>s.1.1=l∧s.1.2.1=ds∧s.1.2.2.2.1=D∧s.1.2.2.2.2.1=F∧s.1.2.2.2.2.2.1=(i:Int)∧s.2.2.2.2.2.1=X) (fun s=>s.1.2.1=ds∧s.1.2.2.2.1=D∧s.2.2.2.2.2.1=X)
    (fun i s hs hi=>by
      obtain ⟨a1,a2,a3,a4,a5,a6⟩:=hs
      obtain ⟨b1,b2⟩:=hX.wells i hi
      have g1:(decide (0≤X.2.2.2.1.getD i 0)&&decide (X.2.2.2.1.getD i 0 < (List.length F:Int)))=true:=by
        simp only [Bool.and_eq_true,decide_eq_true_eq]
        rw [hF]
        omega
      have g2:((l.length:Int) != (l.length:Int))=false:=by simp
      simp only [G7_l1_step,a1,a2,a3,a4,a5,a6,inside_lt hi,getD_toNat,ltI hi,cond_true,g1,h i hi,g2,cond_false]
      exact ⟨_,rfl,rfl,rfl,rfl,rfl,wr (by omega) (by omega),rfl⟩)
    (fun s hs=>by
      obtain ⟨a1,a2,a3,a4,a5,a6⟩:=hs
      simp only [G7_l1_step,a1,a2,a3,a4,a5,a6,ltN,cond_false]
      exact ⟨_,rfl,rfl,rfl,rfl⟩)
    (G7_l1_fuel ((l,(ds,(bb,(D,(F,(0,())))))),(p,(t,(m,(z,(X,()))))))) ((l,(ds,(bb,(D,(F,(0,())))))),(p,(t,(m,(z,(X,())))))) (by simp [G7_l1_fuel]) ⟨rfl,rfl,rfl,rfl,rfl,rfl⟩
  exact ⟨q,h1,h2⟩
theorem top_l2 {X:E137} {ys:List E23} {F:List Int} {p:E25} {t:E118} {m:E137} {z:E89} {bb:Bool} (hX:OkM X) (hF:F.length=Int.toNat X.1) (hy:ys.length=Int.toNat X.1) (h:∀ j,j < Int.toNat X.1→(ys.getD j dT).1≤F.getD j 0∧F.getD j 0≤(ys.getD j dT).2.1) :
    ∃ q,G7_l2_run ((bb,(ys,(F,(0,())))),(p,(t,(m,(z,(X,()))))))=some (1,q):=by
  obtain ⟨k1,k2⟩:=hX.pts
  obtain ⟨q,h1,h2⟩:=iter_all (step:=G7_l2_step) (n:=Int.toNat X.1) (k:=1) (fun i s=>s.1.2.1=ys∧s.1.2.2.1=F∧s.1.2.2.2.1=(i:Int)∧s.2.2.2.2.2.1=X) (fun s=>True)
    (fun i s hs hi=>by
      obtain ⟨a1,a2,a3,a4⟩:=hs
      obtain ⟨b1,b2⟩:=h i hi
      have g0:decide ((i:Int) < X.1)=true:=by simp only [decide_eq_true_eq]; omega
      have g1:(decide (0≤(i:Int))&&decide ((i:Int) < (List.length F:Int)))=true:=inside_lt (by rw [hF]; exact hi)
      have g2:(decide (0≤(i:Int))&&decide ((i:Int) < (List.length ys:Int)))=true:=inside_lt (by rw [hy]; exact hi)
      have g3:decide (F.getD i 0 < (ys.getD i dT).1)=false:=by simp only [decide_eq_false_iff_not]; omega
      have g4:decide (F.getD i 0 > (ys.getD i dT).2.1)=false:=by simp only [decide_eq_false_iff_not]; omega
      simp only [G7_l2_step,a1,a2,a3,a4,g0,g1,g2,cond_true,getD_toNat]
      rw [show ((0,(0,())):E23)=dT from rfl]
      simp only [g3,g4,cond_false]
      exact ⟨_,rfl,rfl,rfl,wr (by omega) (by omega),rfl⟩)
    (fun s hs=>by
      obtain ⟨a1,a2,a3,a4⟩:=hs
      have g0:decide (((Int.toNat X.1:Nat):Int) < X.1)=false:=by simp only [decide_eq_false_iff_not]; omega
      simp only [G7_l2_step,a1,a2,a3,a4,g0,cond_false]
      exact ⟨_,rfl,trivial⟩)
    (G7_l2_fuel ((bb,(ys,(F,(0,())))),(p,(t,(m,(z,(X,()))))))) ((bb,(ys,(F,(0,())))),(p,(t,(m,(z,(X,())))))) (by simp [G7_l2_fuel]) ⟨rfl,rfl,rfl,rfl⟩
  exact ⟨q,h1⟩
theorem TopSeeped_true (p:E25) (l:List E73) (t:E118) (m:E137) (ds:List Int):G7 p l t m ds=some true:=by
  obtain ⟨r,h0,h1⟩:=o36 p l t
  unfold G7
  rw [h0]
  cases r with
  | false=>rfl
  | true=>
    obtain ⟨hl,hp,hy,ht⟩:=h1 rfl
    have hl2:l.length≤12:=by omega
    simp only [Option.bind_some,Bool.not_true,cond_false,k40]
    cases c1:decide ((List.length m.2.1:Int) > 15) with
    | true=>rfl
    | false=>
    cases c2:decide ((List.length m.2.2.1:Int) > 15) with
    | true=>rfl
    | false=>
    cases c3:decide ((List.length m.2.2.2.1:Int) > 15) with
    | true=>rfl
    | false=>
    cases c4:decide ((List.length m.2.2.2.2.2.1:Int) > 10) with
    | true=>rfl
    | false=>
    cases c5:decide ((List.length ds:Int) > 15) with
    | true=>rfl
    | false=>
    simp only [decide_eq_false_iff_not] at c1 c2 c3 c4 c5
    have he:errOf p l true=0:=by
      unfold errOf
      rw [hp,hy,show decide ((l.length:Int) > 12)=false from by simp; omega]
      rfl
    obtain ⟨q,e1,e2⟩:=top_l0 (m:=m) (ds:=ds) (z:=(Ins t l.length,(Outs t 0 l.length,((RL t 0 l.length).2,())))) hl2 hp hy ht
    simp only [cond_false,o23_ok he,o16_ok hl2 hp hy ht,Option.bind_some,Kno_len,Ds_len,show ((0:Int) != 0)=false from rfl,show ((l.length:Int) != (l.length:Int))=false from by simp]
    rw [e1]
    rcases e2 with ⟨b1,b2⟩ | ⟨b1,b2,b3,b4,b5⟩
    · simp only [Option.bind_some,b1,natK,b2]
    · simp only [Option.bind_some,b1,natK,b2,b3,b4,b5]
      have x1:(mapX m (thX p l l.length)).2.2.2.2.1.length=l.length:=thX_len p l l.length
      have x2:(mapX m (thX p l l.length)).2.1=m.2.1:=rfl
      have x3:(mapX m (thX p l l.length)).2.2.1=m.2.2.1:=rfl
      have x4:(mapX m (thX p l l.length)).2.2.2.1=m.2.2.2.1:=rfl
      have x5:(mapX m (thX p l l.length)).2.2.2.2.2.1=m.2.2.2.2.2.1:=rfl
      have x6:∀ i,i < l.length→(mapX m (thX p l l.length)).2.2.2.2.1.getD i dT=(kno p l i).1:=fun i hi=>thX_get hi
      generalize mapX m (thX p l l.length)=X at x1 x2 x3 x4 x5 x6
      rw [o43 X (by rw [x2]; omega) (by rw [x3]; omega) (by rw [x4]; omega) (by omega) (by rw [x5]; omega)]
      simp only [Option.bind_some]
      cases hM:mapB X with
      | false=>rfl
      | true=>
      simp only [Bool.not_true,cond_false]
      rw [o44 X ds (by rw [x2]; omega) (by omega)]
      simp only [Option.bind_some]
      cases hD:damB X ds with
      | false=>rfl
      | true=>
      simp only [Bool.not_true,cond_false]
      have hX:SB X:={ ok:=okM_of hM,was:=by rw [x3]; omega,wells:=by rw [x4]; omega,map:=hM,kids:=by rw [x5]; omega }
      obtain ⟨k1,k2⟩:=hX.ok.pts
      have hPl:((Int.toNat X.1:Nat):Int)=X.1:=by omega
      have hin:∀ i,i < (Ds p t 0 l.length).length→(X.2.2.2.2.1.getD i dT).1≤(Ds p t 0 l.length).getD i 0∧(Ds p t 0 l.length).getD i 0≤(X.2.2.2.2.1.getD i dT).2.1:=fun i hi=>by
        rw [Ds_len] at hi
        rw [x6 i hi,Ds_getD hi]
        exact ⟨thw_cold hl2 hp hy ht (a:=0) (Int.le_refl _) hi,thw_hot hl2 hp hy ht (a:=0) (Int.le_refl _) hi⟩
      have hDl:(Ds p t 0 l.length).length=X.2.2.2.2.1.length:=by rw [Ds_len,x1]
      have hall:∀ b:Int,(fo (X,(b,())) (Ds p t 0 l.length)).length=Int.toNat X.1∧∀ j,j < Int.toNat X.1→((fo (X,(b,())) (hiT X)).getD j 0≤(fo (X,(b,())) (Ds p t 0 l.length)).getD j 0∧(fo (X,(b,())) (Ds p t 0 l.length)).getD j 0≤(fo (X,(b,())) (loT X)).getD j 0)∧(fo (X,(b,())) (Ds p t 0 l.length)).getD j 0≤(l.length:Int):=fun b=>by
        obtain ⟨_,f1⟩:=fo_spec (d:=(X,(b,()))) hX.ok hX.was (hiT X) (by rw [hiT_len]; omega)
        obtain ⟨_,f2⟩:=fo_spec (d:=(X,(b,()))) hX.ok hX.was (loT X) (by rw [loT_len]; omega)
        obtain ⟨_,f3⟩:=fo_spec (d:=(X,(b,()))) hX.ok hX.was (Ds p t 0 l.length) (by rw [Ds_len]; omega)
        refine ⟨f3.len,fun j hj=>⟨⟨?_,?_⟩,?_⟩⟩
        · refine yrs_mono (by rw [hiT_len,hDl]) f1 f3 (fun y hy=>?_) j hj
          rw [hiT_len] at hy
          rw [hiT_get hy]
          exact (hin y (by omega)).2
        · refine yrs_mono (by rw [loT_len,hDl]) f3 f2 (fun y hy=>?_) j hj
          rw [loT_get (by omega)]
          exact (hin y hy).1
        · have:=f3.rng j hj
          rw [Ds_len] at this
          omega
      obtain ⟨b,hb⟩:=(o143B hX ds (by omega)).1 hD
      obtain ⟨ys,y1,y2,y3⟩:=o47 hX.toSM hb
      obtain ⟨F1,F2⟩:=hall b
      have hpl:=o46 hX.toSM hb (Ds p t 0 l.length) hDl hin
      have n1:(((ys.length:Nat):Int) != X.1)=false:=by rw [y2,hPl]; simp
      have n2:((((fo (X,(b,())) (Ds p t 0 l.length)).length:Nat):Int) != X.1)=false:=by rw [F1,hPl]; simp
      have hl2':∀ (bb:Bool) (p':E25) (t':E118) (m':E137) (z':E89),∃ q,G7_l2_run ((bb,(ys,(fo (X,(b,())) (Ds p t 0 l.length),(0,())))),(p',(t',(m',(z',(X,()))))))=some (1,q):=fun bb p' t' m' z'=>
        top_l2 hX.ok F1 y2 (fun j hj=>by
          obtain ⟨z1,z2⟩:=y3 j hj
          obtain ⟨⟨w1,w2⟩,_⟩:=F2 j hj
          rw [z1,z2]
          exact ⟨w1,w2⟩)
      obtain ⟨bl,bz,be,d1,d2⟩:=o45 hX
      rw [d1]
      simp only [Option.bind_some]
      rcases d2 with ⟨rfl,g1,g2,g3⟩ | rfl
      · simp only [show ((0:Int)==0)=true from rfl,cond_true]
        rw [o44 X bl (by rw [x2]; omega) (by have:bl.length≤12:=g1; omega),g2]
        obtain ⟨b',hb'⟩:=(o143B hX bl (by have:bl.length≤12:=g1; omega)).1 g2
        obtain ⟨G1,G2⟩:=hall b'
        have n3:((((fo (X,(b',())) (Ds p t 0 l.length)).length:Nat):Int) != X.1)=false:=by rw [G1,hPl]; simp
        simp only [Option.bind_some,Bool.not_true,cond_false,o46 hX.toSM hb' (Ds p t 0 l.length) hDl hin,show ((0:Int) != 0)=false from rfl,n3]
        obtain ⟨q1,u1,u2,u3,u4⟩:=top_l1 (ds:=q.2.1.2.1) (bb:=q.2.1.2.2.1) (D:=Ds p t 0 l.length) (p:=q.2.2.1) (t:=q.2.2.2.1) (m:=q.2.2.2.2.1) (z:=q.2.2.2.2.2.1) (l:=l) hX.ok G1 hX.wells (fun i hi=>by
          obtain ⟨v1,v2⟩:=hX.ok.wells i hi
          have w1:=g3 b' hb' i hi
          obtain ⟨⟨w2,_⟩,w3⟩:=G2 (Int.toNat (X.2.2.2.1.getD i 0)) (by omega)
          omega)
        rw [b3] at u1 u2
        rw [u1]
        simp only [Option.bind_some,natK,u2,u3,u4,y1,hpl,show ((0:Int) != 0)=false from rfl,cond_false,n1,n2]
        obtain ⟨q2,v1⟩:=hl2' q1.1.2.2.1 q1.2.1 q1.2.2.1 q1.2.2.2.1 q1.2.2.2.2.1
        rw [v1]
        rfl
      · simp only [show ((5:Int)==0)=false from rfl,show ((5:Int) != 5)=false from rfl,cond_false,y1,hpl,Option.bind_some,show ((0:Int) != 0)=false from rfl,n1,n2]
        obtain ⟨q2,v1⟩:=hl2' q.2.1.2.2.1 q.2.2.1 q.2.2.2.1 q.2.2.2.2.1 q.2.2.2.2.2.1
        rw [v1]
        rfl
theorem G7_true (x:Els [.dat T25,.dat (.list T73),.dat T118,.dat T137,.dat (.list (.int .i64))]):G7 x.1 x.2.1 x.2.2.1 x.2.2.2.1 x.2.2.2.2.1=some true:=TopSeeped_true _ _ _ _ _
end Go.Proofs.YtkeipcalbbmncaaGreat.Abs
set_option linter.unusedVariables false
set_option maxRecDepth 100000
namespace Go.Proofs.YtkeipcalbbmncaaGreat.Abs.topSeeped
open Go.ChangeShapes Go.WideShapes Go.RowKit
theorem own:ownKnob Tryz.prog.godebug=none:=by kernel_rfl
theorem laidOut:laidOutB Tryz.prog=true:=by kernel_rfl
noncomputable def laidWorld (os:Os):World:=
  { World.holding Tryz.prog os ⟨#[],#[],[]⟩ with heap:=(World.holding Tryz.prog os ⟨#[],#[],[]⟩).heap }
theorem laid_met (os:Os):laidMet Tryz.prog Rows.topSeepedRow.laid ((laidWorld os).forCall (fun _ _=>0) ⟨#[],#[(Value.agg #[.slice none 0 0,.int .i64 0,.int .i64 0]),(Value.slice none 0 0),(Value.agg #[.slice none 0 0,.slice none 0 0,.slice none 0 0,.slice none 0 0,.slice none 0 0]),(Value.agg #[.int .i64 0,.slice none 0 0,.slice none 0 0,.slice none 0 0,.slice none 0 0,.slice none 0 0]),(Value.slice none 0 0)],[]⟩).memory:=
  laidMet_of_run' 8 (by kernel_rfl) (by kernel_rfl)
theorem reads (os:Os) {H:Type} (enc:TypeId×Value→H):∃ places,DataW.whole enc Tryz.prog ((laidWorld os).forCall (fun _ _=>0) ⟨#[],#[(Value.agg #[.slice none 0 0,.int .i64 0,.int .i64 0]),(Value.slice none 0 0),(Value.agg #[.slice none 0 0,.slice none 0 0,.slice none 0 0,.slice none 0 0,.slice none 0 0]),(Value.agg #[.int .i64 0,.slice none 0 0,.slice none 0 0,.slice none 0 0,.slice none 0 0,.slice none 0 0]),(Value.slice none 0 0)],[]⟩).memory Tryz.f7.params.toList Rows.topSeepedSpec.vars false #[(Value.agg #[.slice none 0 0,.int .i64 0,.int .i64 0]),(Value.slice none 0 0),(Value.agg #[.slice none 0 0,.slice none 0 0,.slice none 0 0,.slice none 0 0,.slice none 0 0]),(Value.agg #[.int .i64 0,.slice none 0 0,.slice none 0 0,.slice none 0 0,.slice none 0 0,.slice none 0 0]),(Value.slice none 0 0)].toList 16=some ([.agg [.nil,.agg [.lit (.int .i64 0),.lit (.int .i64 0)]],.nil,.agg [.nil,.nil,.nil,.nil,.nil],.agg [.lit (.int .i64 0),.nil,.nil,.nil,.nil,.nil],.nil],[],places):=
  ⟨[],by kernel_rfl⟩
theorem spec_fn (H:Type):(ds:List (DataW H))→ds.length=Tryz.f7.params.toList.length→(Rows.topSeepedSpec.fn H ds).results=[.lit (.bool true)]∧(Rows.topSeepedSpec.fn H ds).args=ds∧(Rows.topSeepedSpec.fn H ds).vars=[]
  | [],h=>by rw [show Tryz.f7.params.toList.length=5 from by kernel_rfl] at h; simp at h
  | [d0],h=>by rw [show Tryz.f7.params.toList.length=5 from by kernel_rfl] at h; simp at h
  | [d0,d1],h=>by rw [show Tryz.f7.params.toList.length=5 from by kernel_rfl] at h; simp at h
  | [d0,d1,d2],h=>by rw [show Tryz.f7.params.toList.length=5 from by kernel_rfl] at h; simp at h
  | [d0,d1,d2,d3],h=>by rw [show Tryz.f7.params.toList.length=5 from by kernel_rfl] at h; simp at h
  | [d0,d1,d2,d3,d4],_=>⟨rfl,rfl,rfl⟩
  | d0::d1::d2::d3::d4::_::_,h=>by rw [show Tryz.f7.params.toList.length=5 from by kernel_rfl] at h; simp at h
theorem contract (H:Type) (enc:TypeId×Value→H) (W:World) (base:Nat) (args:Array Value) (ds gs:List (DataW H)) (before:List MemPlace)
    (hval:∀ (j:Nat) t v,Tryz.f7.params[j]?=some t→args[j]?=some v→Value.okWide Tryz.prog W .any base t v)
    (hW:DataW.Whole enc Tryz.prog Tryz.f7.params.toList Rows.topSeepedSpec.vars false W args.toList ds gs before) (hL:laidMetH Tryz.prog Rows.topSeepedRow.laid W) :
    Calls Tryz.prog 7 args W fun e W'=>∃ v,e=.returned v∧Rows.topSeepedSpec.post enc Tryz.prog Tryz.f7 false true false false W args v W':=
  law_contract (n:=20) (fun x r h=>G7_lcall x r h) (fun x _=>G7_true x) (by decide) (show Tryz.f7.resultTypes=#[4] by kernel_rfl) (by kernel_rfl) (by kernel_rfl) laidOut (by
    intro t ht
    have:(Tryz.f7.params.toList.all fun t=>Tryz.prog.readableRec t&&decide (t < Tryz.prog.types.size))=true:=by kernel_rfl
    have:=List.all_eq_true.1 this t ht
    simpa using this) rfl spec_fn hval hW (fun q hq=>by cases hq)
theorem lifted (os:Os) (started:os.Started) (H:Type) (enc:TypeId×Value→H) (F:Stop.Interp) :
    ReturnsInHanded {} Tryz.checked os 7 .any ((OpenSpec.ofChange Rows.topSeepedSpec).preRow enc Tryz.prog Tryz.f7 Rows.topSeepedRow.domain false Rows.topSeepedRow.laid) (((OpenSpec.ofChange Rows.topSeepedSpec).at F).post enc Tryz.prog Tryz.f7 false true false false):=by
  obtain ⟨places,hx⟩:=reads os enc
  refine returnsInHanded_of_row (C:=Tryz.checked) (s:=OpenSpec.ofChange Rows.topSeepedSpec) own started (by kernel_rfl) Tryz.func7
    (witness_row_at (enc:=enc) (C:=Tryz.checked) false (laidWorld os) #[(Value.agg #[.slice none 0 0,.int .i64 0,.int .i64 0]),(Value.slice none 0 0),(Value.agg #[.slice none 0 0,.slice none 0 0,.slice none 0 0,.slice none 0 0,.slice none 0 0]),(Value.agg #[.int .i64 0,.slice none 0 0,.slice none 0 0,.slice none 0 0,.slice none 0 0,.slice none 0 0]),(Value.slice none 0 0)] rfl (by kernel_rfl) (by kernel_rfl) (by kernel_rfl)
      (OpenSpec.preRow_of_cond 16 hx (by kernel_rfl) (fun k hk=>by cases hk) (by kernel_rfl) (laid_met os))) ?_
  intro W base args ds gs before hval hW _ _ _ hL _ _
  exact contract H enc W base args ds gs before hval hW hL
theorem and2 {a b:Bool} (h:a=true) (k:b=true):(a&&b)=true:=by rw [h,k]; rfl
theorem fact0:(Rows.topSeepedRow.wf (OpenSpec.ofChange (OpenSpec.ofChange Rows.topSeepedSpec).bare))=true:=by kernel_rfl
theorem fact1:(laidOutB Tryz.prog)=true:=by kernel_rfl
theorem fact2:(mapsRowed Tryz.prog)=true:=by kernel_rfl
theorem fact3:(Tryz.f7.params.all (Tryz.prog.readableRec ·))=true:=by kernel_rfl
theorem fact4:(namedTie Tryz.prog Rows.topSeepedRow.named (OpenSpec.ofChange Rows.topSeepedSpec).bare.vars)=true:=by kernel_rfl
theorem fact5:((Rows.topSeepedRow.stops==[]))=true:=by kernel_rfl
theorem fact6:((Tryz.prog.stops==[]))=true:=by kernel_rfl
theorem fact7:((Rows.topSeepedRow.knobs==[]))=true:=by kernel_rfl
theorem fact8:((Tryz.prog.stopKnobs==[]))=true:=by kernel_rfl
theorem fact9:((Rows.topSeepedRow.inPlace==Tryz.prog.inPlace 7))=true:=by kernel_rfl
theorem fact10:((Rows.topSeepedRow.unfollowed==Tryz.prog.unfollowed 7))=true:=by kernel_rfl
theorem fact11:((Rows.topSeepedRow.recurses==Tryz.prog.recurses 7))=true:=by kernel_rfl
theorem fact12:((Rows.topSeepedRow.named==Tryz.prog.varsNamed 7))=true:=by kernel_rfl
theorem fact13:((Rows.topSeepedRow.maps==(Tryz.f7.params.toList++(OpenSpec.ofChange Rows.topSeepedSpec).bare.plain.varTypes Tryz.prog).any (Tryz.prog.mapsRec ·)))=true:=by kernel_rfl
theorem fact14:((Rows.topSeepedRow.ifaces==(Tryz.f7.params.toList++(OpenSpec.ofChange Rows.topSeepedSpec).bare.plain.varTypes Tryz.prog).any (Tryz.prog.ifacesRec ·)))=true:=by kernel_rfl
theorem fact15:((Rows.topSeepedRow.mapsOut==Tryz.prog.mapsAmong Tryz.f7.resultTypes.toList))=true:=by kernel_rfl
theorem fact16:((Rows.topSeepedRow.loops==(Tryz.f7.params.toList++(OpenSpec.ofChange Rows.topSeepedSpec).bare.plain.varTypes Tryz.prog).any (Tryz.prog.loopsFrom ·)))=true:=by kernel_rfl
theorem fact17:((Rows.topSeepedRow.wideKeys==(Tryz.f7.params.toList++(OpenSpec.ofChange Rows.topSeepedSpec).bare.plain.varTypes Tryz.prog++Tryz.f7.resultTypes.toList).any (Tryz.prog.wideKeysFrom ·)))=true:=by kernel_rfl
theorem fact18:((OpenSpec.ofChange Rows.topSeepedSpec).bare.vars.all (Tryz.prog.varReadable ·))=true:=by kernel_rfl
theorem fact19:(Tryz.f7.resultTypes.all (fun t=>Tryz.prog.readableRec t&&decide (t < Tryz.prog.types.size)))=true:=by kernel_rfl
theorem fact20:((Rows.topSeepedRow.ifacesOut==Tryz.f7.resultTypes.toList.any (Tryz.prog.ifacesRec ·)))=true:=by kernel_rfl
theorem fact21:((Rows.topSeepedRow.loopsOut==Tryz.f7.resultTypes.toList.any (Tryz.prog.loopsFrom ·)))=true:=by kernel_rfl
theorem fact22:((Rows.topSeepedRow.plainKeys==Tryz.prog.plainKeys))=true:=by kernel_rfl
theorem fact23:(Rows.topSeepedRow.shortTexts.isNone)=true:=by kernel_rfl
theorem fact24:(Tryz.prog.stopsHeard)=true:=by kernel_rfl
theorem fact25:(Tryz.prog.mayEnter)=true:=by kernel_rfl
theorem fact26:((Rows.topSeepedRow.lifted==Tryz.prog.liftsFinal))=true:=by kernel_rfl
theorem fact27:((Tryz.prog.make==some Rows.topSeepedRow.make))=true:=by kernel_rfl
theorem fact28:((Rows.topSeepedRow.kinds==(if Rows.topSeepedRow.domain.isEmpty then [] else Tryz.f7.params.toList.map fun t=>match Tryz.prog.underlying t with | some (.int k)=>some k | _=>none)))=true:=by kernel_rfl
theorem fact29:((Rows.topSeepedRow.pinned==Rows.topSeepedRow.pinnedBy))=true:=by kernel_rfl
theorem fact30:((Rows.topSeepedRow.veiled==(Tryz.f7.params.toList++(OpenSpec.ofChange Rows.topSeepedSpec).bare.plain.varTypes Tryz.prog++Tryz.f7.resultTypes.toList).any (Tryz.prog.veiledRec ·)))=true:=by kernel_rfl
theorem fact31:(Rows.topSeepedRow.veiledFits Tryz.prog Tryz.f7.params.toList (Tryz.f7.params.toList++(OpenSpec.ofChange Rows.topSeepedSpec).bare.plain.varTypes Tryz.prog++Tryz.f7.resultTypes.toList))=true:=by kernel_rfl
theorem facts:joinedFacts Tryz.prog 7 Tryz.f7 (OpenSpec.ofChange Rows.topSeepedSpec).bare Rows.topSeepedRow=true:=by unfold joinedFacts; exact (and2 (and2 (and2 (and2 (and2 (and2 (and2 (and2 (and2 (and2 (and2 (and2 (and2 (and2 (and2 (and2 (and2 (and2 (and2 (and2 (and2 (and2 (and2 (and2 (and2 (and2 (and2 (and2 (and2 (and2 (and2 fact0 fact1) fact2) fact3) fact4) fact5) fact6) fact7) fact8) fact9) fact10) fact11) fact12) fact13) fact14) fact15) fact16) fact17) fact18) fact19) fact20) fact21) fact22) fact23) fact24) fact25) fact26) fact27) fact28) fact29) fact30) fact31)
theorem hfn : Tryz.prog.funcNamed "talik/taliktop.TopSeeped" = some 7 := by kernel_rfl
theorem hinst:Tryz.f7.isInstance Tryz.prog Rows.topSeepedRow.origin Rows.topSeepedRow.targs:=of_decide_eq_true (by kernel_rfl)
theorem hwrap:Tryz.f7.isWrapper Tryz.prog Rows.topSeepedRow.wrapper Rows.topSeepedRow.mainSum:=by unfold Func.isWrapper; first | (rw [if_pos (by decide +kernel)]; kernel_rfl) | (rw [if_neg (by decide +kernel)]; exact ⟨rfl,rfl⟩)
theorem said:Rows.TopSeepedSaid:=
  OpenClaim.holds_of_cond 7 Tryz.f7 rfl rfl rfl rfl rfl rfl rfl ⟨rfl,rfl,rfl,rfl,rfl⟩ rfl rfl rfl rfl rfl hfn Tryz.func7 facts hinst hwrap
    (fun os started H enc _ F=>by rw [OpenClaim.pre_eq_preRow]; exact lifted os started H enc F)
end Go.Proofs.YtkeipcalbbmncaaGreat.Abs.topSeeped
namespace Go.Proofs.YtkeipcalbbmncaaGreat
theorem topSeeped_said:Rows.TopSeepedSaid:=Abs.topSeeped.said
end Go.Proofs.YtkeipcalbbmncaaGreat
