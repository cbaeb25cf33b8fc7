/- Plain mathematics: what the functions answer (part 1). Conditions: stated in each theorem. -/
import Derived.Test.YtkmhlpopclahcabK3
import Derived.Test.YtkmhlpopclahcabGT
set_option linter.unusedVariables false
set_option linter.unusedSimpArgs false
namespace Go.Zq
def Kz (F:Nat) (x_1:LI):Option (NL Int):=
 (wS [] x_1).bind fun ap_2=>
 some (.of ap_2)
def Yv (F:Nat) (x_1:LI) (x_2:Int) (x_6:Int)  (x_13:Bool):Option LI:=
 bif x_13 then
  some x_1
 else
  (sub x_1 0 x_6).bind fun sub_14=>
  (wS [] sub_14).bind fun ap_15=>
  (wS ap_15 [x_2]).bind fun ap_16=>
  (sub x_1 x_6 (x_1.length:Int)).bind fun sub_17=>
  (wS ap_16 sub_17).bind fun ap_18=>
  some ap_18
def YA (F:Nat) (x_1:LI) (x_2:Int) (x_6:Int) (c1:Int→Option LI) (x_11:Bool):Option LI:=
 bif x_11 then
  c1 (w64 (x_6 + 1))
 else
  bif decide (x_6 < (x_1.length:Int)) then
   (idx x_1 x_6).bind fun e_19=>
   Yv F x_1 x_2 x_6 (e_19 == x_2)
  else
   Yv F x_1 x_2 x_6 false
def ui (F:Nat) (x_1:LI) (x_2:Int) :Nat→Int→Option LI
 | 0,_=>none
 | k + 1,x_6=>
   bif decide (x_6 < (x_1.length:Int)) then
    (idx x_1 x_6).bind fun e_20=>
    YA F x_1 x_2 x_6 (ui F x_1 x_2 k) (decide (e_20 < x_2))
   else
    YA F x_1 x_2 x_6 (ui F x_1 x_2 k) false
def WR (F:Nat) (x_1:LI) (x_2:Int):Option LI:=
 ui F x_1 x_2 F 0
def Xj (F:Nat) (x_2:LI) (x_1:GR) (x_42:Int) (x_94:Int) (c1:LI→Int→Option LI) (c4:LI→Int→Option LI) (x_113:LI):Option LI:=
 c4 x_113 (w64 (x_94 + 1))
def Xf (F:Nat) (x_2:LI) (x_1:GR) (x_93:LI) (x_42:Int) (x_94:Int) (c1:LI→Int→Option LI) (c4:LI→Int→Option LI) (x_110:Bool):Option LI:=
 bif x_110 then
  (idx x_2 x_42).bind fun e_114=>
  (WR F x_93 e_114).bind fun r_115=>
  Xj F x_2 x_1 x_42 x_94 c1 c4 r_115
 else
  Xj F x_2 x_1 x_42 x_94 c1 c4 x_93
def wT (F:Nat) (x_2:LI) (x_1:GR) (x_42:Int) (c1:LI→Int→Option LI):Nat→LI→Int→Option LI
 | 0,_,_=>none
 | k + 1,x_93,x_94=>
   bif decide (x_94 < x_1.1) then
    (idx x_2 x_42).bind fun e_116=>
    (uo F x_1 e_116 x_94).bind fun r_117=>
    bif r_117 then
     (wC F x_2 x_94).bind fun r_118=>
     Xf F x_2 x_1 x_93 x_42 x_94 c1 (wT F x_2 x_1 x_42 c1 k) (!r_118)
    else
     Xf F x_2 x_1 x_93 x_42 x_94 c1 (wT F x_2 x_1 x_42 c1 k) false
   else
    c1 x_93 (w64 (x_42 + 1))
def wA (F:Nat) (x_2:LI) (x_1:GR) :Nat→LI→Int→Option LI
 | 0,_,_=>none
 | k + 1,x_41,x_42=>
   bif decide (x_42 < (x_2.length:Int)) then
    wT F x_2 x_1 x_42 (wA F x_2 x_1 k) F x_41 0
   else
    some x_41
def uX (F:Nat) (x_1:GR) (x_2:LI):Option LI:=
 wA F x_2 x_1 F [] 0
def X5 (F:Nat) (x_1:GR) (x_45:LI) (x_46:Int) (x_104:Int) (c1:LI→Int→Option LI) (c4:Int→Int→Option LI) (x_123:Int):Option LI:=
 c4 x_123 (w64 (x_104 + 1))
def YN (F:Nat) (x_1:GR) (x_45:LI) (x_46:Int) (x_103:Int) (x_104:Int) (c1:LI→Int→Option LI) (c4:Int→Int→Option LI) (x_120:Bool):Option LI:=
 bif x_120 then
  (vR .i64 1 x_104).bind fun q_124=>
  (idx x_45 (w64 (x_46 - q_124))).bind fun e_125=>
  X5 F x_1 x_45 x_46 x_104 c1 c4 e_125
 else
  X5 F x_1 x_45 x_46 x_104 c1 c4 x_103
def vJ (F:Nat) (x_1:GR) (x_45:LI) (x_46:Int) (c1:LI→Int→Option LI):Nat→Int→Int→Option LI
 | 0,_,_=>none
 | k + 1,x_103,x_104=>
   bif decide (x_104 < x_1.1) then
    (Wn .i64 x_46 x_104).bind fun q_126=>
    bif ((yf .i64 q_126 1) == 1) then
     bif decide (x_103 < 0) then
      YN F x_1 x_45 x_46 x_103 x_104 c1 (vJ F x_1 x_45 x_46 c1 k) true
     else
      (vR .i64 1 x_104).bind fun q_127=>
      (idx x_45 (w64 (x_46 - q_127))).bind fun e_128=>
      YN F x_1 x_45 x_46 x_103 x_104 c1 (vJ F x_1 x_45 x_46 c1 k) (decide (e_128 < x_103))
    else
     YN F x_1 x_45 x_46 x_103 x_104 c1 (vJ F x_1 x_45 x_46 c1 k) false
   else
    (Zx F x_1.1 x_46).bind fun r_129=>
    (uX F x_1 r_129).bind fun r_130=>
    (Zo F x_103 (r_130.length:Int)).bind fun r_131=>
    (wS x_45 [r_131]).bind fun ap_132=>
    c1 ap_132 (w64 (x_46 + 1))
def vP (F:Nat) (x_1:GR) :Nat→LI→Int→Option LI
 | 0,_,_=>none
 | k + 1,x_45,x_46=>
   (vR .i64 1 x_1.1).bind fun q_90=>
   bif decide (x_46 < q_90) then
    vJ F x_1 x_45 x_46 (vP F x_1 k) F (-1) 0
   else
    some x_45
def Jr (F:Nat) (x_1:GR):Option LI:=
 vP F x_1 F [0] 1
def ut (F:Nat) (x_1:GR):Option Int:=
 (Jr F x_1).bind fun r_2=>
 (vR .i64 1 x_1.1).bind fun q_3=>
 (idx r_2 (w64 (q_3 - 1))).bind fun e_4=>
 some e_4
def Jb (F:Nat) (x_1:GR):Option (Int×Bool):=
 (uk F x_1).bind fun r_2=>
 bif (!r_2) then
  some (0,false)
 else
  (ut F x_1).bind fun r_3=>
  some (r_3,true)
def yV (F:Nat) (x_2:LI) (x_3:(Cl 64 ((S1 LI)×Unit) Unit)) (x_1:(S1 LI)) (x_35:(NL Int)) (x_36:Int) (r_70:LI) (c1:(NL Int)→Int→Option LI):Nat→Int→Option LI
 | 0,_=>none
 | k + 1,x_80=>
   bif decide (x_80 < (r_70.length:Int)) then
    (idx r_70 x_80).bind fun e_90=>
    (xj F x_3.fs.1 x_36 e_90).bind fun r_91=>
    (vR .i64 1 e_90).bind fun q_92=>
    (idx x_2 (ior .i64 x_36 q_92)).bind fun e_93=>
    (idx x_2 0).bind fun e_94=>
    bif decide ((if e_93 > r_91 then e_93 else r_91)≤e_94) then
     (wS x_35.list [e_90]).bind fun ap_97=>
     (vR .i64 1 e_90).bind fun q_98=>
     c1 (.of ap_97) (ior .i64 x_36 q_98)
    else
     (yV F x_2 x_3 x_1 x_35 x_36 r_70 c1 k) (w64 (x_80 + 1))
   else
    c1 x_35 x_36
def yT (F:Nat) (x_2:LI) (x_3:(Cl 64 ((S1 LI)×Unit) Unit)) (x_1:(S1 LI)) :Nat→(NL Int)→Int→Option LI
 | 0,_,_=>none
 | k + 1,x_35,x_36=>
   (yg F x_1).bind fun r_68=>
   bif (x_36 != r_68) then
    (yg F x_1).bind fun r_69=>
    (vG F (zK .i64 r_69 x_36)).bind fun r_70=>
    yV F x_2 x_3 x_1 x_35 x_36 r_70 (yT F x_2 x_3 x_1 k) F 0
   else
    some x_35.list
def w4 (F:Nat) (x_1:(S1 LI)) (x_2:LI) (x_3:(Cl 64 ((S1 LI)×Unit) Unit)):Option LI:=
 yT F x_2 x_3 x_1 F .nil 0
def WM (F:Nat) (x_1:GR):Option (LI×Bool):=
 (wq F x_1).bind fun r_2=>
 bif (!r_2) then
  some ([],false)
 else
  (vS F x_1).bind fun r_3=>
  (zX F r_3 0 (Cl.mk (r_3,()) ():(Cl 64 ((S1 LI)×Unit) Unit))).bind fun r_4=>
  (w4 F r_3 r_4 (Cl.mk (r_3,()) ():(Cl 64 ((S1 LI)×Unit) Unit))).bind fun r_5=>
  some (r_5,true)
def wk (F:Nat) (rc:GR→LI→Int→Option (LI×Bool)) (x_2:LI) (x_3:Int) (x_1:GR) :Nat→Int→Option (LI×Bool)
 | 0,_=>none
 | k + 1,x_9=>
   bif decide (x_9 < x_1.1) then
    (wC F x_2 x_9).bind fun r_14=>
    bif r_14 then
     (wk F rc x_2 x_3 x_1 k) (w64 (x_9 + 1))
    else
     (Kz F x_2).bind fun r_15=>
     (wS r_15.list [x_9]).bind fun ap_16=>
     (rc x_1 ap_16 x_3).bind fun r_17=>
     bif r_17.2 then
      some (r_17.1,true)
     else
      (wk F rc x_2 x_3 x_1 k) (w64 (x_9 + 1))
   else
    some ([],false)
def ub (F:Nat) (rc:GR→LI→Int→Option (LI×Bool)) (x_1:GR) (x_2:LI) (x_3:Int):Option (LI×Bool):=
 (uX F x_1 x_2).bind fun r_4=>
 bif decide ((r_4.length:Int) > x_3) then
  some ([],false)
 else
  bif ((x_2.length:Int) == x_1.1) then
   some (x_2,true)
  else
   wk F rc x_2 x_3 x_1 F 0
def xt (F:Nat):Nat→GR→LI→Int→Option (LI×Bool)
 | 0,_,_,_=>none
 | k + 1,x0,x1,x2=>ub F (xt F k) x0 x1 x2
def LQ (F:Nat) (x0:GR) (x1:LI) (x2:Int):Option (LI×Bool):=xt F F x0 x1 x2
def J8 (F:Nat) (x_1:GR):Option (LI×Bool):=
 (uk F x_1).bind fun r_2=>
 bif (!r_2) then
  some ([],false)
 else
  (ut F x_1).bind fun r_3=>
  (LQ F x_1 [] r_3).bind fun r_4=>
  some (r_4.1,r_4.2)
def Z9 (F:Nat) (x_2:(List Int)) (x_1:(Int×(List (Int×Int)))) (x_53:Int) (r_102:(List Int)) (x_119:Int) (c1:(List Int)→(List Int)→Int→Option (List Int)) (c4:(List Int)→(List Int)→Int→Option (List Int)) (x_142:(List Int)) (x_143:(List Int)):Option (List Int):=
 c4 x_142 x_143 (w64 (x_119 + 1))
def xg (F:Nat) (x_2:(List Int)) (x_1:(Int×(List (Int×Int)))) (x_53:Int) (r_102:(List Int)) (c1:(List Int)→(List Int)→Int→Option (List Int)):Nat→(List Int)→(List Int)→Int→Option (List Int)
 | 0,_,_,_=>none
 | k + 1,x_117,x_118,x_119=>
   bif decide (x_119 < (r_102.length:Int)) then
    (idx r_102 x_119).bind fun e_134=>
    (wC F x_118 e_134).bind fun r_135=>
    bif r_135 then
     (xg F x_2 x_1 x_53 r_102 c1 k) x_117 x_118 (w64 (x_119 + 1))
    else
     (idx r_102 x_119).bind fun e_136=>
     (wC F x_2 e_136).bind fun r_137=>
     bif r_137 then
      (idx r_102 x_119).bind fun e_144=>
      (wS x_118 [e_144]).bind fun ap_145=>
      Z9 F x_2 x_1 x_53 r_102 x_119 c1 (xg F x_2 x_1 x_53 r_102 c1 k) x_117 ap_145
     else
      (idx r_102 x_119).bind fun e_146=>
      (WR F x_117 e_146).bind fun r_147=>
      Z9 F x_2 x_1 x_53 r_102 x_119 c1 (xg F x_2 x_1 x_53 r_102 c1 k) r_147 x_118
   else
    c1 x_117 x_118 (w64 (x_53 + 1))
def x8 (F:Nat) (x_2:(List Int)) (x_1:(Int×(List (Int×Int)))) :Nat→(List Int)→(List Int)→Int→Option (List Int)
 | 0,_,_,_=>none
 | k + 1,x_51,x_52,x_53=>
   bif decide (x_53 < (x_52.length:Int)) then
    (idx x_52 x_53).bind fun e_101=>
    (xU F x_1 e_101).bind fun r_102=>
    xg F x_2 x_1 x_53 r_102 (x8 F x_2 x_1 k) F x_51 x_52 0
   else
    some x_51
def Yz (F:Nat) (x_1:(Int×(List (Int×Int)))) (x_2:(List Int)) (x_3:Int):Option (List Int):=
 x8 F x_2 x_1 F [] [x_3] 0
def zZ (F:Nat) (best_2:(List Int)) (cost_3:(Cl 26 ((S1 (List Int))×Unit) Unit)) (w_1:(S1 (List Int))) (order_35:(NL Int)) (set_36:Int) (r_70:(List Int)) (c1:(NL Int)→Int→Option (NL Int)):Nat→Int→Option (NL Int)
 | 0,_=>none
 | k + 1,t21_80=>
   bif decide (t21_80 < (r_70.length:Int)) then
    (idx r_70 t21_80).bind fun e_90=>
    (xl F cost_3.fs.1 set_36 e_90).bind fun r_91=>
    (vR .i64 1 e_90).bind fun q_92=>
    (idx best_2 (ior .i64 set_36 q_92)).bind fun e_93=>
    (idx best_2 0).bind fun e_94=>
    bif decide ((if e_93 > r_91 then e_93 else r_91)≤e_94) then
     (wS order_35.list [e_90]).bind fun ap_97=>
     (vR .i64 1 e_90).bind fun q_98=>
     c1 (.of ap_97) (ior .i64 set_36 q_98)
    else
     (zZ F best_2 cost_3 w_1 order_35 set_36 r_70 c1 k) (w64 (t21_80 + 1))
   else
    c1 order_35 set_36
def zO (F:Nat) (best_2:(List Int)) (cost_3:(Cl 26 ((S1 (List Int))×Unit) Unit)) (w_1:(S1 (List Int))) :Nat→(NL Int)→Int→Option (NL Int)
 | 0,_,_=>none
 | k + 1,order_35,set_36=>
   (yg F w_1).bind fun r_68=>
   bif (set_36 != r_68) then
    (yg F w_1).bind fun r_69=>
    (vG F (zK .i64 r_69 set_36)).bind fun r_70=>
    zZ F best_2 cost_3 w_1 order_35 set_36 r_70 (zO F best_2 cost_3 w_1 k) F 0
   else
    some order_35
def xC (F:Nat) (w_1:(S1 (List Int))) (best_2:(List Int)) (cost_3:(Cl 26 ((S1 (List Int))×Unit) Unit)):Option (NL Int):=
 zO F best_2 cost_3 w_1 F .nil 0
def Zm (F:Nat) (g_1:(Int×(List (Int×Int)))):Option ((NL Int)×Bool):=
 (wq F g_1).bind fun r_2=>
 bif (!r_2) then
  some (.nil,false)
 else
  (vS F g_1).bind fun r_3=>
  (xv F r_3).bind fun r_4=>
  (xC F r_3 r_4 (Cl.mk (r_3,()) ():(Cl 26 ((S1 (List Int))×Unit) Unit))).bind fun r_5=>
  some (r_5,true)
def z6 (F:Nat) (best_2:(List Int)) (cost_3:(Cl 64 ((S1 (List Int))×Unit) Unit)) (w_1:(S1 (List Int))) (order_35:(NL Int)) (set_36:Int) (r_70:(List Int)) (c1:(NL Int)→Int→Option (NL Int)):Nat→Int→Option (NL Int)
 | 0,_=>none
 | k + 1,t21_80=>
   bif decide (t21_80 < (r_70.length:Int)) then
    (idx r_70 t21_80).bind fun e_90=>
    (xj F cost_3.fs.1 set_36 e_90).bind fun r_91=>
    (vR .i64 1 e_90).bind fun q_92=>
    (idx best_2 (ior .i64 set_36 q_92)).bind fun e_93=>
    (idx best_2 0).bind fun e_94=>
    bif decide ((if e_93 > r_91 then e_93 else r_91)≤e_94) then
     (wS order_35.list [e_90]).bind fun ap_97=>
     (vR .i64 1 e_90).bind fun q_98=>
     c1 (.of ap_97) (ior .i64 set_36 q_98)
    else
     (z6 F best_2 cost_3 w_1 order_35 set_36 r_70 c1 k) (w64 (t21_80 + 1))
   else
    c1 order_35 set_36
def zP (F:Nat) (best_2:(List Int)) (cost_3:(Cl 64 ((S1 (List Int))×Unit) Unit)) (w_1:(S1 (List Int))) :Nat→(NL Int)→Int→Option (NL Int)
 | 0,_,_=>none
 | k + 1,order_35,set_36=>
   (yg F w_1).bind fun r_68=>
   bif (set_36 != r_68) then
    (yg F w_1).bind fun r_69=>
    (vG F (zK .i64 r_69 set_36)).bind fun r_70=>
    z6 F best_2 cost_3 w_1 order_35 set_36 r_70 (zP F best_2 cost_3 w_1 k) F 0
   else
    some order_35
def xG (F:Nat) (w_1:(S1 (List Int))) (best_2:(List Int)) (cost_3:(Cl 64 ((S1 (List Int))×Unit) Unit)):Option (NL Int):=
 zP F best_2 cost_3 w_1 F .nil 0
def Yi (F:Nat) (g_1:(Int×(List (Int×Int)))):Option ((NL Int)×Bool):=
 (wq F g_1).bind fun r_2=>
 bif (!r_2) then
  some (.nil,false)
 else
  (vS F g_1).bind fun r_3=>
  (zX F r_3 0 (Cl.mk (r_3,()) ():(Cl 64 ((S1 (List Int))×Unit) Unit))).bind fun r_4=>
  (xG F r_3 r_4 (Cl.mk (r_3,()) ():(Cl 64 ((S1 (List Int))×Unit) Unit))).bind fun r_5=>
  some (r_5,true)
def ZB (F:Nat) (r_3:(S1 (List Int))) (r_4:Int) (t16_13:Int) (c1:(NL Int)→Int→Option ((NL Int)×Bool)) (best_25:(NL Int)):Option ((NL Int)×Bool):=
 c1 best_25 (w64 (t16_13 + 1))
def ZD (F:Nat) (r_3:(S1 (List Int))) (best_12:(NL Int)) (r_21:(NL Int)) (r_4:Int) (t16_13:Int) (c1:(NL Int)→Int→Option ((NL Int)×Bool)) (t28_24:Bool):Option ((NL Int)×Bool):=
 bif t28_24 then
  ZB F r_3 r_4 t16_13 c1 r_21
 else
  ZB F r_3 r_4 t16_13 c1 best_12
def wu (F:Nat) (r_3:(S1 (List Int))) (r_4:Int) :Nat→(NL Int)→Int→Option ((NL Int)×Bool)
 | 0,_,_=>none
 | k + 1,best_12,t16_13=>
   bif decide (t16_13 < (w64 (r_4 + 1))) then
    (Ys F t16_13).bind fun r_21=>
    (wG F r_3 t16_13).bind fun r_26=>
    bif r_26 then
     (w7 F best_12.list r_21.list).bind fun r_27=>
     ZD F r_3 best_12 r_21 r_4 t16_13 (wu F r_3 r_4 k) r_27
    else
     ZD F r_3 best_12 r_21 r_4 t16_13 (wu F r_3 r_4 k) false
   else
    some (best_12,true)
def Xg (F:Nat) (g_1:(Int×(List (Int×Int)))):Option ((NL Int)×Bool):=
 (wq F g_1).bind fun r_2=>
 bif (!r_2) then
  some (.nil,false)
 else
  (vS F g_1).bind fun r_3=>
  (yg F r_3).bind fun r_4=>
  wu F r_3 r_4 F .nil 0
theorem xp {x:Int} (h1:-9223372036854775808≤x) (h2:x < 9223372036854775808):w64 x=x:=by
 show IntKind.wrap .i64 x=x
 simp only [IntKind.wrap,IntKind.bits,IntKind.signed,Bool.true_and]
 have e1:((2:Int) ^ 64)=18446744073709551616:=by decide
 have e2:((2:Int) ^ (64 - 1))=9223372036854775808:=by decide
 simp only [e1,e2]
 split
 · rename_i h;simp only [ge_iff_le,decide_eq_true_eq] at h;omega
 · rename_i h;simp only [ge_iff_le,decide_eq_true_eq] at h;omega
def Sm (n:Nat):Prop:=n≤4611686018427387904
theorem z5 {i n:Nat} (hi:i < n) (hn:Sm n):w64 ((i:Int) + 1)=((i + 1:Nat):Int):=by
 unfold Sm at hn
 rw [xp (by omega) (by omega)];omega
theorem zcs {i n:Nat} (h0:0 < i) (hi:i < n) (hn:Sm n):w64 ((i:Int) - 1)=((i - 1:Nat):Int):=by
 unfold Sm at hn
 rw [xp (by omega) (by omega)];omega
theorem UZ {α:Type} {xs:List α} {i:Nat} (h:i < xs.length):idx xs (i:Int)=some xs[i]:=by
 unfold idx
 rw [if_pos (by omega)]
 simp [h]
theorem zL {α:Type} {xs:List α} {i:Nat} {d:α} (h:i < xs.length):idx xs (i:Int)=some (xs.getD i d):=by
 rw [UZ h];simp [h]
def Yb (p:Nat→Bool):Nat→Bool
 | 0=>true
 | n + 1=>Yb p n && p n
def xF (p:Nat→Bool):Nat→Bool
 | 0=>false
 | n + 1=>xF p n || p n
theorem xI {p:Nat→Bool}:∀ {n:Nat},Yb p n=true↔∀ i,i < n→p i=true
 | 0=>by simp [Yb]
 | n + 1=>by
   simp only [Yb,Bool.and_eq_true,xI]
   constructor
   · rintro ⟨h1,h2⟩ i hi
     by_cases e:i=n
     · subst e;exact h2
     · exact h1 i (by omega)
   · intro h
     exact ⟨fun i hi=>h i (by omega),h n (by omega)⟩
theorem L9 {p q:Nat→Bool} {n:Nat} (h:∀ i,i < n→p i=q i):Yb p n=Yb q n:=by
 rw [Bool.eq_iff_iff,xI,xI]
 constructor
 · intro h1 i hi;rw [← h i hi];exact h1 i hi
 · intro h1 i hi;rw [h i hi];exact h1 i hi
theorem xd {p:Nat→Bool}:∀ {n:Nat},xF p n=true↔∃ i,i < n∧p i=true
 | 0=>by simp [xF]
 | n + 1=>by
   simp only [xF,Bool.or_eq_true,xd]
   constructor
   · rintro (⟨i,h1,h2⟩ | h)
     · exact ⟨i,by omega,h2⟩
     · exact ⟨n,by omega,h⟩
   · rintro ⟨i,h1,h2⟩
     by_cases e:i=n
     · subst e;exact .inr h2
     · exact .inl ⟨i,by omega,h2⟩
theorem LF {p:Nat→Bool} {n:Nat}:xF p n=!Yb (fun i=>!p i) n:=by
 induction n with
 | zero=>rfl
 | succ n ih=>simp [xF,Yb,ih,Bool.not_and]
theorem Ju {p q:Nat→Bool} {n:Nat} (h:∀ i,i < n→p i=q i):xF p n=xF q n:=by
 rw [LF,LF,L9];intro i hi;rw [h i hi]
theorem XT {β:Type} {L:Nat→Int→Option β} {n:Nat} {p:Nat→Bool} {bad fin:Option β} (hs:∀ k i,i < n→L (k + 1) (i:Int)=bif p i then L k ((i + 1:Nat):Int) else bad) (he:∀ k,L (k + 1) (n:Int)=fin) :
    ∀ k,n < k→L k 0=bif Yb p n then fin else bad:=by
 have key:∀ d k i,i + d=n→d < k→(∀ j,j < i→p j=true)→L k (i:Int)=bif Yb p n then fin else bad:=by
  intro d
  induction d with
  | zero=>
    intro k i hi hk hp
    obtain ⟨k,rfl⟩:∃ k',k=k' + 1:=⟨k - 1,by omega⟩
    obtain rfl:i=n:=by omega
    rw [he,show Yb p i=true from xI.2 hp];rfl
  | succ d ih=>
    intro k i hi hk hp
    obtain ⟨k,rfl⟩:∃ k',k=k' + 1:=⟨k - 1,by omega⟩
    rw [hs k i (by omega)]
    cases hpi:p i with
    | true=>
      simp only [cond_true]
      refine ih k (i + 1) (by omega) (by omega) ?_
      intro j hj
      by_cases e:j=i
      · subst e;exact hpi
      · exact hp j (by omega)
    | false=>
      have:Yb p n=false:=by
       rw [Bool.eq_false_iff];intro h
       have:=xI.1 h i (by omega);rw [hpi] at this;cases this
      rw [this];rfl
 intro k hk
 exact key n k 0 (by omega) hk (by simp)
theorem zfs {β σ:Type} {L:Nat→Int→σ→Option β} {n:Nat} (I:Nat→σ→Prop) {fin:σ→Option β} (st:Nat→σ→σ)
    (hs:∀ k i s,i < n→I i s→L (k + 1) (i:Int) s=L k ((i + 1:Nat):Int) (st i s)) (hi:∀ i s,i < n→I i s→I (i + 1) (st i s)) (he:∀ k s,I n s→L (k + 1) (n:Int) s=fin s) :
    ∀ k s0,n < k→I 0 s0→∃ s,I n s∧L k 0 s0=fin s∧s=(List.range n).foldl (fun s i=>st i s) s0:=by
 have key:∀ d k i s,i + d=n→d < k→I i s→∃ s',I n s'∧L k (i:Int) s=fin s'∧s'=(List.range' i d).foldl (fun s i=>st i s) s:=by
  intro d
  induction d with
  | zero=>
    intro k i s hi hk hI
    obtain ⟨k,rfl⟩:∃ k',k=k' + 1:=⟨k - 1,by omega⟩
    obtain rfl:i=n:=by omega
    exact ⟨s,hI,he k s hI,rfl⟩
  | succ d ih=>
    intro k i s hd hk hI
    obtain ⟨k,rfl⟩:∃ k',k=k' + 1:=⟨k - 1,by omega⟩
    rw [hs k i s (by omega) hI]
    obtain ⟨s',h1,h2,h3⟩:=ih k (i + 1) (st i s) (by omega) (by omega) (hi i s (by omega) hI)
    exact ⟨s',h1,h2,by rw [h3,List.range'_succ];rfl⟩
 intro k s0 hk hI
 obtain ⟨s',h1,h2,h3⟩:=key n k 0 s0 (by omega) hk hI
 exact ⟨s',h1,h2,by rw [h3,List.range_eq_range']⟩
theorem we {β σ:Type} {L:Nat→Int→σ→Option β} {n:Nat} (I:Nat→σ→Prop) {r:Option β}
    (hs:∀ k i s,i < n→I i s→∃ s',I (i + 1) s'∧L (k + 1) (i:Int) s=L k ((i + 1:Nat):Int) s') (he:∀ k s,I n s→L (k + 1) (n:Int) s=r) :
    ∀ k s0,n < k→I 0 s0→L k 0 s0=r:=by
 have key:∀ d k i s,i + d=n→d < k→I i s→L k (i:Int) s=r:=by
  intro d
  induction d with
  | zero=>
    intro k i s hi hk hI
    obtain ⟨k,rfl⟩:∃ k',k=k' + 1:=⟨k - 1,by omega⟩
    obtain rfl:i=n:=by omega
    exact he k s hI
  | succ d ih=>
    intro k i s hd hk hI
    obtain ⟨k,rfl⟩:∃ k',k=k' + 1:=⟨k - 1,by omega⟩
    obtain ⟨s',h1,h2⟩:=hs k i s (by omega) hI
    rw [h2]
    exact ih k (i + 1) s' (by omega) (by omega) h1
 intro k s0 hk hI
 exact key n k 0 s0 (by omega) hk hI
theorem Lr {α:Type} {n:Nat} {x:α} (h:n≤1099511627776):mkN (n:Int) x=some (List.replicate n x):=by
 unfold mkN
 rw [if_pos ⟨by omega,by have:((2:Int) ^ 40)=1099511627776:=by decide
                         omega⟩]
 simp
theorem zdH {β:Type} {L:Nat→Int→Option β} {n:Nat} {r:Option β} (hs:∀ k i,i < n→L (k + 1) (i:Int)=L k ((i + 1:Nat):Int)) (he:∀ k,L (k + 1) (n:Int)=r):∀ k,n < k→L k 0=r:=by
 intro k hk
 exact we (L:=fun k i (_:Unit)=>L k i) (fun _ _=>True) (fun k i s hi _=>⟨(),trivial,hs k i hi⟩) (fun k s _=>he k) k () hk trivial
theorem ww {α:Type} {l:List α} {i:Nat} {d:α} (h:i < l.length):l.getD i d∈l:=by
 rw [List.getD_eq_getElem?_getD,List.getElem?_eq_getElem h];exact List.getElem_mem h
theorem vF {α:Type} {xs:List α} {y:α} (h:xs.length < 1099511627776):wS xs [y]=some (xs++[y]):=by
 unfold wS
 rw [if_pos]
 have:(2:Nat) ^ 40=1099511627776:=by decide
 simp;omega
theorem YJ {β σ:Type} {L:Nat→Int→σ→Option β} {n:Nat} (I:Nat→σ→Prop) {fin:σ→Option β}
    (hs:∀ k i s,i < n→I i s→∃ s',I (i + 1) s'∧L (k + 1) (i:Int) s=L k ((i + 1:Nat):Int) s') (he:∀ k s,I n s→L (k + 1) (n:Int) s=fin s) :
    ∀ k s0,n < k→I 0 s0→∃ s,I n s∧L k 0 s0=fin s:=by
 have key:∀ d k i s,i + d=n→d < k→I i s→∃ s',I n s'∧L k (i:Int) s=fin s':=by
  intro d
  induction d with
  | zero=>
    intro k i s hi hk hI
    obtain ⟨k,rfl⟩:∃ k',k=k' + 1:=⟨k - 1,by omega⟩
    obtain rfl:i=n:=by omega
    exact ⟨s,hI,he k s hI⟩
  | succ d ih=>
    intro k i s hd hk hI
    obtain ⟨k,rfl⟩:∃ k',k=k' + 1:=⟨k - 1,by omega⟩
    obtain ⟨s',h1,h2⟩:=hs k i s (by omega) hI
    rw [h2]
    exact ih k (i + 1) s' (by omega) (by omega) h1
 intro k s0 hk hI
 exact key n k 0 s0 (by omega) hk hI
end Go.Zq
namespace Go.Zq
theorem w1:w64 1=1:=by decide
theorem w2:w64 2=2:=by decide
end Go.Zq
namespace Go.Zq
theorem LD {n:Nat} (h:n < 9223372036854775808):w64 (n:Int)=n:=xp (by omega) (by omega)
theorem KZ (n:Nat) (h:n < 9223372036854775808):(BitVec.ofInt (IntKind.bits .i64) (n:Int)).toNat=n:=by
 show (BitVec.ofInt 64 (n:Int)).toNat=n
 rw [BitVec.ofInt_natCast,BitVec.toNat_ofNat]
 exact Nat.mod_eq_of_lt (by omega)
theorem Za {a b:Nat} (ha:a < 9223372036854775808) (hb:b < 9223372036854775808):ior .i64 a b=((a ||| b:Nat):Int):=by
 unfold ior
 rw [BitVec.toNat_or,KZ a ha,KZ b hb]
 exact LD (Nat.or_lt_two_pow (n:=63) ha hb)
theorem J6 {a b:Nat} (ha:a < 9223372036854775808) (hb:b < 9223372036854775808):yf .i64 a b=((a &&& b:Nat):Int):=by
 unfold yf
 rw [BitVec.toNat_and,KZ a ha,KZ b hb]
 exact LD (Nat.and_lt_two_pow (n:=63) a hb)
theorem w8 {a b:Nat} (ha:a < 9223372036854775808) (hb:b < 9223372036854775808):∃ c:Nat,zK .i64 a b=(c:Int)∧c≤a∧∀ j,c.testBit j=(a.testBit j && !b.testBit j):=by
 refine ⟨a &&& (18446744073709551615 - b),?_,Nat.and_le_left,?_⟩
 · unfold zK
   rw [BitVec.toNat_and,BitVec.toNat_not,KZ a ha,KZ b hb]
   have e:(2:Nat) ^ (IntKind.bits .i64) - 1 - b=18446744073709551615 - b:=rfl
   rw [e]
   exact LD (Nat.lt_of_le_of_lt Nat.and_le_left ha)
 · intro j
   rw [Nat.testBit_and]
   have e:18446744073709551615 - b=2 ^ 64 - (b + 1):=by
    have:(2:Nat) ^ 64=18446744073709551616:=by decide
    omega
   rw [e,Nat.testBit_two_pow_sub_succ (by have:(2:Nat) ^ 64=18446744073709551616:=by decide
                                          omega)]
   by_cases hj:j < 64
   · simp [hj]
   · have:a.testBit j=false:=Nat.testBit_lt_two_pow (Nat.lt_of_lt_of_le ha (Nat.pow_le_pow_right (n:=2) (by decide) (show 63≤j by omega)))
     simp [this]
theorem zkD {a j:Nat} (hj:j≤62) (ha:a * 2 ^ j < 9223372036854775808):vR .i64 (a:Int) (j:Int)=some (((a * 2 ^ j:Nat)):Int):=by
 unfold vR
 rw [if_neg (by omega)]
 have e:(min (j:Int).toNat (IntKind.bits .i64))=j:=by
  simp only [Int.toNat_natCast]
  exact Nat.min_eq_left (by show j≤64;omega)
 rw [e]
 have:=LD ha
 rw [show ((a:Int) * 2 ^ j)=((a * 2 ^ j:Nat):Int) by simp]
 rw [show IntKind.i64.wrap ((a * 2 ^ j:Nat):Int)=w64 ((a * 2 ^ j:Nat):Int) from rfl,this]
theorem yP {j:Nat} (hj:j≤62):vR .i64 1 (j:Int)=some ((2 ^ j:Nat):Int):=by
 have h:1 * 2 ^ j < 9223372036854775808:=by
  have:=Nat.pow_le_pow_right (n:=2) (by decide) hj
  have e:(2:Nat) ^ 62=4611686018427387904:=by decide
  omega
 have:=zkD (a:=1) hj h
 simpa using this
theorem zfl {a j:Nat}:Wn .i64 (a:Int) (j:Int)=some ((a / 2 ^ (min j 64):Nat):Int):=by
 unfold Wn
 rw [if_neg (by omega)]
 simp only [Int.toNat_natCast]
 have:(IntKind.bits .i64)=64:=rfl
 rw [this]
 rw [Int.fdiv_eq_ediv_of_nonneg _ (by exact_mod_cast Nat.zero_le _)]
 simp
theorem uc {j:Nat} (hj:j≤62):(2:Nat) ^ j < 9223372036854775808:=by
 have:=Nat.pow_le_pow_right (n:=2) (by decide) hj
 have e:(2:Nat) ^ 62=4611686018427387904:=by decide
 omega
def zcT (m:Nat) (p:Nat→Bool):Prop:=m < 9223372036854775808∧∀ j,m.testBit j=p j
theorem zdu {n:Nat} (hn:n≤62):zcT (2 ^ n - 1) (fun j=>decide (j < n)):=
 ⟨by have:=uc hn;omega,fun j=>by rw [Nat.testBit_two_pow_sub_one]⟩
theorem U7:∀ (n:Nat) (l:List Int),(∀ j,j < n→(j:Int)∈l)→n≤l.length∧(l.length=n→∀ y∈l,0≤y∧y < n)
 | 0,l,_=>⟨Nat.zero_le _,fun h y hy=>by rw [List.length_eq_zero_iff.1 h] at hy;cases hy⟩
 | n + 1,l,h=>by
   have hn:=h n (by omega)
   have hp:=List.length_pos_of_mem hn
   have ih:=U7 n (l.erase (n:Int)) (fun j hj=>(List.mem_erase_of_ne (by omega)).2 (h j (by omega)))
   rw [List.length_erase_of_mem hn] at ih
   refine ⟨by omega,fun hl y hy=>?_⟩
   by_cases e:y=n
   · subst e;omega
   · have:=ih.2 (by omega) y ((List.mem_erase_of_ne e).2 hy)
     omega
theorem Nc:∀ (n:Nat) (l:List Int),l.Nodup→(∀ x∈l,0≤x∧x < n)→l.length≤n
 | 0,l,_,h=>by
   cases l with
   | nil=>simp
   | cons x l=>have:=h x (by simp);omega
 | n + 1,l,hn,h=>by
   have hs:∀ x∈l.erase (n:Int),0≤x∧x < n:=by
    intro x hx
    have h1:=(hn.mem_erase_iff).1 hx
    have:=h x h1.2
    omega
   have ih:=Nc n (l.erase (n:Int)) (hn.erase _) hs
   by_cases hm:(n:Int)∈l
   · rw [List.length_erase_of_mem hm] at ih;omega
   · rw [List.erase_of_not_mem hm] at ih;omega
theorem zaJ {m j:Nat} (hm:m < 9223372036854775808) (hj:j≤62):∃ q:Int,Wn .i64 (m:Int) (j:Int)=some q∧(yf .i64 q 1 == 1)=m.testBit j∧(yf .i64 q 1 == 0)=!m.testBit j:=by
 refine ⟨_,zfl,?_⟩
 have e:min j 64=j:=by omega
 rw [e]
 have hq:m / 2 ^ j < 9223372036854775808:=Nat.lt_of_le_of_lt (Nat.div_le_self _ _) hm
 have:=J6 hq (b:=1) (by omega)
 rw [show ((1:Nat):Int)=1 from rfl] at this
 rw [this,Nat.and_one_is_mod]
 have hb:m.testBit j=decide (m / 2 ^ j % 2=1):=by
  rw [Nat.testBit_eq_decide_div_mod_eq]
 rw [hb]
 have h2:=Nat.mod_two_eq_zero_or_one (m / 2 ^ j)
 rcases h2 with h2 | h2 <;> simp [h2]
end Go.Zq
namespace Go.Zq
abbrev Gr:=Int×List (Int×Int)
theorem Nr {F:Nat} {n lo hi:Int}:YX F n lo hi=some (decide (lo≤n) && decide (n≤hi)):=by
 unfold YX
 by_cases h:n≥lo
 · simp [h]
 · have:¬ lo≤n:=h
   simp [this]
theorem zeX {F:Nat} {n lo hi:Int}:W1 F n lo hi=some (decide (lo≤n) && decide (n≤hi)):=by
 unfold W1
 by_cases h:n≥lo
 · simp [h]
 · have:¬ lo≤n:=h
   simp [this]
def bef (a b:Int×Int):Bool:=decide (a.1 < b.1) || (a.1 == b.1) && decide (a.2 < b.2)
theorem UJ {F:Nat} {a b:Int×Int}:uN F a b=some (bef a b):=by
 unfold uN bef
 by_cases h:a.1 < b.1
 · simp [h]
 · cases e:(a.1 == b.1) <;> simp [h]
theorem znr {F:Nat} {x y:Int}:x7 F x y=some (if x < y then -1 else if x > y then 1 else 0):=by
 unfold x7 wY
 by_cases h:x < y
 · simp [h]
 · by_cases h2:y < x <;> simp [h,h2]
theorem zjm {F:Nat} {a b:Int×Int} (hF:3≤F):∃ r,xX F [a.1,a.2] [b.1,b.2]=some r∧(decide (r≥0)=!bef a b):=by
 obtain ⟨k,rfl⟩:∃ k,F=k + 3:=⟨F - 3,by omega⟩
 obtain ⟨a1,a2⟩:=a
 obtain ⟨b1,b2⟩:=b
 unfold xX
 simp only [xM,znr,bef]
 by_cases h1:a1 < b1
 · refine ⟨-1,?_,?_⟩ <;> simp [idx,h1]
 · by_cases h2:b1 < a1
   · have e:¬ a1=b1:=by omega
     refine ⟨1,?_,?_⟩
     · simp [idx,h1,h2]
     · simp [h1,e]
   · obtain rfl:a1=b1:=by omega
     by_cases h3:a2 < b2
     · refine ⟨-1,?_,?_⟩ <;> simp [idx,h3,w1]
     · by_cases h4:b2 < a2
       · refine ⟨1,?_,?_⟩ <;> simp [idx,h3,h4,w1]
       · obtain rfl:a2=b2:=by omega
         refine ⟨0,?_,?_⟩ <;> simp [idx,w1,w2]
def okE (n:Int) (es:List (Int×Int)) (i:Nat):Bool:=
 decide (0≤(es.getD i (0,0)).1) && decide ((es.getD i (0,0)).1 < (es.getD i (0,0)).2) && decide ((es.getD i (0,0)).2 < n) && (i == 0 || bef (es.getD (i - 1) (0,0)) (es.getD i (0,0)))
def xa (g:Gr):Bool:=decide (0≤g.1) && decide (g.1≤8) && Yb (okE g.1 g.2) g.2.length
theorem ug {F:Nat} {g:Gr} (hF:g.2.length < F) (h3:3≤F) (hl:Sm g.2.length):wq F g=some (xa g):=by
 unfold wq
 rw [Nr,Option.bind_some]
 unfold xa
 by_cases h:0≤g.1∧g.1≤8
 · simp only [h.1,h.2,decide_true,Bool.and_self,Bool.not_true,cond_false,Bool.true_and]
   rw [XT (L:=fun k i=>yZ F g k i) (n:=g.2.length) (p:=okE g.1 g.2) (bad:=some false) (fin:=some true) ?_ ?_ F hF]
   · cases Yb (okE g.1 g.2) g.2.length <;> rfl
   · intro k i hi
     simp only [yZ,vH]
     rw [zL (d:=(0,0)) hi,z5 hi hl]
     have hlt:decide ((i:Int) < g.2.length)=true:=by simp [hi]
     simp only [hlt,cond_true,Option.bind_some,okE]
     generalize g.2.getD i (0,0)=e
     by_cases h1:e.1 < 0
     · have:¬ 0≤e.1:=by omega
       simp [h1,this]
     · by_cases h2:e.1≥e.2
       · have:¬ e.1 < e.2:=by omega
         simp [h1,h2,this]
       · by_cases h4:e.2≥g.1
         · have:¬ e.2 < g.1:=by omega
           simp [h1,h2,h4,this]
         · have a1:0≤e.1:=by omega
           have a2:e.1 < e.2:=by omega
           have a3:e.2 < g.1:=by omega
           simp only [h1,h2,h4,a1,a2,a3,decide_true,decide_false,cond_false,Bool.and_self,Bool.true_and]
           by_cases h5:i=0
           · subst h5;simp
           · have h6:decide ((i:Int) > 0)=true:=by simp;omega
             have h7:(i == 0)=false:=by simpa using h5
             rw [h6,cond_true,zcs (by omega) hi hl,zL (d:=(0,0)) (by omega),h7]
             obtain ⟨r,hr,hr2⟩:=zjm (F:=F) (a:=g.2.getD (i - 1) (0,0)) (b:=e) h3
             simp only [Option.bind_some,hr,hr2,Bool.false_or]
             cases bef (g.2.getD (i - 1) (0,0)) e <;> rfl
   · intro k;simp [yZ]
 · have:(decide (0≤g.1) && decide (g.1≤8))=false:=by
    rw [Bool.eq_false_iff];intro h';apply h;simpa using h'
   simp [this]
theorem ZW {F:Nat} {g:Gr} (hF:g.2.length < F) (hl:Sm g.2.length):uk F g=some (xa g):=by
 unfold uk
 let p:Nat→Bool:=fun i=>decide (0≤(g.2.getD i (0,0)).1) && decide ((g.2.getD i (0,0)).1≤w64 (g.1 - 1)) && (decide (0≤(g.2.getD i (0,0)).2) && decide ((g.2.getD i (0,0)).2≤w64 (g.1 - 1))) && decide ((g.2.getD i (0,0)).1 < (g.2.getD i (0,0)).2) && (i == 0 || bef (g.2.getD (i - 1) (0,0)) (g.2.getD i (0,0)))
 rw [XT (L:=fun k i=>xn F g k i) (n:=g.2.length) (p:=p) (bad:=some false) (fin:=some (decide (0≤g.1) && decide (g.1≤8))) ?_ ?_ F hF]
 · unfold xa
   by_cases h:0≤g.1∧g.1≤8
   · have hw:w64 (g.1 - 1)=g.1 - 1:=xp (by omega) (by omega)
     rw [L9 (q:=okE g.1 g.2)]
     · cases Yb (okE g.1 g.2) g.2.length <;> simp [h.1,h.2]
     · intro i _
       simp only [p,okE,hw]
       generalize g.2.getD i (0,0)=e
       generalize (i == 0 || bef (g.2.getD (i - 1) (0,0)) e)=b
       rw [Bool.eq_iff_iff]
       simp only [Bool.and_eq_true,decide_eq_true_eq]
       constructor
       · rintro ⟨⟨⟨⟨a1,a2⟩,a3,a4⟩,a5⟩,a6⟩;exact ⟨⟨⟨a1,a5⟩,by omega⟩,a6⟩
       · rintro ⟨⟨⟨a1,a5⟩,a4⟩,a6⟩;exact ⟨⟨⟨⟨a1,by omega⟩,by omega,by omega⟩,a5⟩,a6⟩
   · have:(decide (0≤g.1) && decide (g.1≤8))=false:=by
      rw [Bool.eq_false_iff];intro h';apply h;simpa using h'
     rw [this];cases Yb p g.2.length <;> rfl
 · intro k i hi
   simp only [xn,v7,zeX,Option.bind_some]
   rw [zL (d:=(0,0)) hi,z5 hi hl]
   have hlt:decide ((i:Int) < g.2.length)=true:=by simp [hi]
   simp only [hlt,cond_true,Option.bind_some,p]
   generalize g.2.getD i (0,0)=e
   generalize (decide (0≤e.1) && decide (e.1≤w64 (g.1 - 1)))=b1
   generalize (decide (0≤e.2) && decide (e.2≤w64 (g.1 - 1)))=b2
   cases b1
   · rfl
   cases b2
   · rfl
   by_cases h2:e.1≥e.2
   · have:¬ e.1 < e.2:=by omega
     simp [h2,this]
   · have:e.1 < e.2:=by omega
     simp only [Bool.not_true,cond_false,h2,this,decide_true,decide_false,Bool.and_self,Bool.true_and]
     by_cases h5:i=0
     · subst h5;simp
     · have h6:decide ((i:Int) > 0)=true:=by simp;omega
       have h7:(i == 0)=false:=by simpa using h5
       rw [h6,cond_true,zcs (by omega) hi hl,zL (d:=(0,0)) (by omega),h7]
       simp only [Option.bind_some,UJ,Bool.false_or]
       cases bef (g.2.getD (i - 1) (0,0)) e <;> rfl
 · intro k;simp [xn,zeX]
theorem zY {g:Gr} (h:xa g=true):0≤g.1∧g.1≤8:=by
 unfold xa at h
 simp only [Bool.and_eq_true,decide_eq_true_eq] at h
 exact h.1
theorem YW {F:Nat} {l:List Int} {n:Int} (hF:l.length < F) (hl:Sm l.length):wC F l n=some (decide (n∈l)):=by
 unfold wC
 rw [XT (L:=fun k i=>ZK F l n k i) (n:=l.length) (p:=fun i=>!(l.getD i 0 == n)) (bad:=some true) (fin:=some false) ?_ ?_ F hF]
 · by_cases h:n∈l
   · have:Yb (fun i=>!(l.getD i 0 == n)) l.length=false:=by
      rw [Bool.eq_false_iff];intro h'
      obtain ⟨i,hi,e⟩:=List.mem_iff_getElem.1 h
      have:=xI.1 h' i hi
      simp [List.getD_eq_getElem?_getD,hi,e] at this
     rw [this];simp [h]
   · have:Yb (fun i=>!(l.getD i 0 == n)) l.length=true:=by
      rw [xI];intro i hi
      simp only [List.getD_eq_getElem?_getD,List.getElem?_eq_getElem hi,Option.getD_some,Bool.not_eq_true',beq_eq_false_iff_ne]
      intro e;exact h (e ▸ List.getElem_mem hi)
     rw [this];simp [h]
 · intro k i hi
   simp only [ZK]
   rw [zL (d:=0) hi,z5 hi hl]
   have hlt:decide ((i:Int) < l.length)=true:=by simp [hi]
   simp only [hlt,cond_true,Option.bind_some]
   cases (l.getD i 0 == n) <;> rfl
 · intro k;simp [ZK]
def w3 (n:Int) (l:List Int):Bool:=decide ((l.length:Int)=n) && Yb (fun j=>decide ((j:Int)∈l)) n.toNat
theorem zax {F:Nat} {l:List Int} {lo hi:Int} (hF:l.length < F) (hl:Sm l.length):uJ F l lo hi=some (l.all fun x=>decide (lo≤x) && decide (x≤hi)):=by
 unfold uJ
 rw [XT (L:=fun k i=>vl F lo hi l k i) (n:=l.length) (p:=fun i=>decide (lo≤l.getD i 0) && decide (l.getD i 0≤hi)) (bad:=some false) (fin:=some true) ?_ ?_ F hF]
 · have:Yb (fun i=>decide (lo≤l.getD i 0) && decide (l.getD i 0≤hi)) l.length=l.all fun x=>decide (lo≤x) && decide (x≤hi):=by
    rw [Bool.eq_iff_iff,xI,List.all_eq_true]
    constructor
    · intro h x hx
      obtain ⟨i,hi,rfl⟩:=List.mem_iff_getElem.1 hx
      have:=h i hi
      simpa [List.getD_eq_getElem?_getD,hi] using this
    · intro h i hi
      simpa [List.getD_eq_getElem?_getD,hi] using h l[i] (List.getElem_mem hi)
   rw [this];cases (l.all fun x=>decide (lo≤x) && decide (x≤hi)) <;> rfl
 · intro k i hi
   simp only [vl,Nr]
   rw [zL (d:=0) hi,z5 hi hl]
   have hlt:decide ((i:Int) < l.length)=true:=by simp [hi]
   simp only [hlt,cond_true,Option.bind_some]
   cases (decide (lo≤l.getD i 0) && decide (l.getD i 0≤_)) <;> rfl
 · intro k;simp [vl]
theorem zf5 {F:Nat} {l:List Int} (hF:l.length < F) (hl:Sm l.length) (h:∀ x∈l,0≤x∧x≤62):∃ m:Nat,XJ F l=some (m:Int)∧zcT m (fun j=>decide ((j:Int)∈l)):=by
 unfold XJ
 have key:∃ s:Int,(∃ m:Nat,s=(m:Int)∧m < 9223372036854775808∧∀ j,m.testBit j=decide ((j:Int)∈l.take l.length))∧v9 F l F 0 0=some s:=by
  refine Exists.imp (fun s h=>⟨h.1,h.2.1⟩) (zfs (L:=fun k i s=>v9 F l k s i) (n:=l.length) (fun i s=>∃ m:Nat,s=(m:Int)∧m < 9223372036854775808∧∀ j,m.testBit j=decide ((j:Int)∈l.take i)) (fin:=fun s=>some s)
   (fun i s=>ior .i64 s ((2 ^ (l.getD i 0).toNat:Nat):Int)) ?_ ?_ ?_ F 0 hF ⟨0,rfl,by omega,by simp⟩)
  · rintro k i s hi ⟨m,rfl,hm1,hm2⟩
    simp only [v9]
    rw [zL (d:=0) hi,z5 hi hl]
    have hlt:decide ((i:Int) < l.length)=true:=by simp [hi]
    simp only [hlt,cond_true,Option.bind_some]
    have hx:=h (l.getD i 0) (by rw [List.getD_eq_getElem?_getD,List.getElem?_eq_getElem hi];exact List.getElem_mem hi)
    obtain ⟨x,hx'⟩:∃ x:Nat,l.getD i 0=x:=⟨(l.getD i 0).toNat,by omega⟩
    rw [hx',yP (by omega)];simp
  · rintro i s hi ⟨m,rfl,hm1,hm2⟩
    have hx:=h (l.getD i 0) (by rw [List.getD_eq_getElem?_getD,List.getElem?_eq_getElem hi];exact List.getElem_mem hi)
    obtain ⟨x,hx'⟩:∃ x:Nat,l.getD i 0=x:=⟨(l.getD i 0).toNat,by omega⟩
    rw [hx',Int.toNat_natCast,Za hm1 (uc (by omega))]
    refine ⟨_,rfl,Nat.or_lt_two_pow (n:=63) hm1 (uc (by omega)),fun j=>?_⟩
    rw [Nat.testBit_or,hm2,Nat.testBit_two_pow,List.take_add_one,List.getElem?_eq_getElem hi]
    have:l[i]=x:=by rw [← hx',List.getD_eq_getElem?_getD,List.getElem?_eq_getElem hi];rfl
    rw [Bool.eq_iff_iff]
    simp [this]
    constructor
    · rintro (h | h)
      · exact .inl h
      · exact .inr (by omega)
    · rintro (h | h)
      · exact .inl h
      · exact .inr (by omega)
  · rintro k s ⟨m,rfl,hm1,hm2⟩
    simp [v9]
 obtain ⟨s,⟨m,rfl,hm1,hm2⟩,h2⟩:=key
 exact ⟨m,h2,hm1,by simpa using hm2⟩
theorem zdo {F:Nat} {g:Gr} {l:List Int} (h0:0≤g.1) (h8:g.1≤8) (hF:l.length < F) (hl:Sm l.length):Yw F g l=some (w3 g.1 l):=by
 unfold Yw w3
 obtain ⟨n,hn⟩:∃ n:Nat,g.1=n:=⟨g.1.toNat,by omega⟩
 have hw:w64 (g.1 - 1)=g.1 - 1:=xp (by omega) (by omega)
 rw [zax hF hl,hw,hn]
 by_cases e:l.length=n
 · have e':((l.length:Int) == (n:Int))=true:=by simp [e]
   simp only [e',cond_true,Option.bind_some,Int.toNat_natCast]
   by_cases ha:(l.all fun x=>decide (0≤x) && decide (x≤(n:Int) - 1))=true
   · rw [ha,cond_true]
     have ha':∀ x∈l,0≤x∧x≤62:=by
      intro x hx;have:=List.all_eq_true.1 ha x hx;simp at this;omega
     obtain ⟨m,hm,hmask⟩:=zf5 hF hl ha'
     rw [hm,Option.bind_some,yP (by omega),Option.bind_some]
     have hw2:w64 (((2 ^ n:Nat):Int) - 1)=((2 ^ n - 1:Nat):Int):=by
      have:=uc (j:=n) (by omega)
      have:0 < 2 ^ n:=Nat.two_pow_pos n
      rw [xp (by omega) (by omega)];omega
     rw [hw2]
     congr 1
     rw [Bool.eq_iff_iff]
     have hall:=zdu (n:=n) (by omega)
     simp only [beq_iff_eq,Bool.and_eq_true,decide_eq_true_eq,xI]
     constructor
     · intro h
       have h':m=2 ^ n - 1:=by omega
       refine ⟨by omega,fun j hj=>?_⟩
       have:=hmask.2 j
       rw [h',hall.2] at this
       simpa [hj] using this.symm
     · rintro ⟨_,h⟩
       have:m=2 ^ n - 1:=by
        apply Nat.eq_of_testBit_eq
        intro j
        rw [hmask.2,hall.2]
        by_cases hj:j < n
        · simp [hj,h j hj]
        · simp only [hj,decide_false,decide_eq_false_iff_not]
          intro hm'
          have:=List.all_eq_true.1 ha _ hm'
          simp at this;omega
       rw [this]
   · rw [Bool.not_eq_true] at ha
     rw [ha,cond_false]
     congr 1
     symm
     rw [Bool.eq_false_iff];intro h
     simp only [Bool.and_eq_true,decide_eq_true_eq,xI] at h
     have:=(U7 n l h.2).2 e
     have h2:(l.all fun x=>decide (0≤x) && decide (x≤(n:Int) - 1))=true:=by
      rw [List.all_eq_true];intro x hx;have:=this x hx;simp;omega
     rw [ha] at h2;cases h2
 · have e':((l.length:Int) == (n:Int))=false:=by simp;omega
   have e2:decide ((l.length:Int)=(n:Int))=false:=by simp;omega
   rw [e',e2];simp
end Go.Zq
namespace Go.Zq
theorem Ly {F:Nat} {a b:Int}:Zo F a b=some (max a b):=by
 unfold Zo
 by_cases h:a > b
 · simp [h];omega
 · simp [h];omega
def far (l:List Int) (e:Int×Int):Int:=max ((l.idxOf e.1:Int) - l.idxOf e.2) ((l.idxOf e.2:Int) - l.idxOf e.1)
theorem zmo {n:Int} {es:List (Int×Int)} (h:Yb (okE n es) es.length=true) {i:Nat} (hi:i < es.length):0≤(es.getD i (0,0)).1∧(es.getD i (0,0)).1 < (es.getD i (0,0)).2∧(es.getD i (0,0)).2 < n:=by
 have:=xI.1 h i hi
 unfold okE at this
 simp only [Bool.and_eq_true,decide_eq_true_eq] at this
 exact ⟨this.1.1.1,this.1.1.2,this.1.2⟩
theorem U6 {g:Gr} (h:xa g=true) {i:Nat} (hi:i < g.2.length):0≤(g.2.getD i (0,0)).1∧(g.2.getD i (0,0)).1 < (g.2.getD i (0,0)).2∧(g.2.getD i (0,0)).2 < g.1:=by
 unfold xa at h
 simp only [Bool.and_eq_true] at h
 exact zmo h.2 hi
theorem Kr {n:Int} {l:List Int} (h:w3 n l=true) {x:Int} (h0:0≤x) (hx:x < n):x∈l:=by
 unfold w3 at h
 simp only [Bool.and_eq_true,xI,decide_eq_true_eq] at h
 have:=h.2 x.toNat (by omega)
 rwa [Int.toNat_of_nonneg h0] at this
theorem ZS {n:Int} {l:List Int} (h:w3 n l=true):(l.length:Int)=n:=by
 unfold w3 at h
 simp only [Bool.and_eq_true,decide_eq_true_eq] at h
 exact h.1
theorem Km {α:Type} {xs:List α} {i j:Nat} {a d:α} (hi:i < xs.length):(xs.set i a).getD j d=if i=j then a else xs.getD j d:=by
 rw [List.getD_eq_getElem?_getD,List.getElem?_set,List.getD_eq_getElem?_getD]
 split
 · rename_i e;subst e;simp [hi]
 · rfl
end Go.Zq
namespace Go.Zq
def par (ps:List Int) (x:Int):Int:=ps.getD x.toNat (-1)
def zkO (ps:List Int):Nat→Int→List Int
 | 0,_=>[]
 | d + 1,x=>if 0≤par ps x then par ps x :: zkO ps d (par ps x) else []
def zu5 (n:Nat) (ps:List Int) (x:Int):Bool:=decide ((zkO ps (n + 1) x).length < n)
end Go.Zq
namespace Go.Zq
end Go.Zq
namespace Go.Zq
def mkm (p:Nat→Bool):Nat→Nat
 | 0=>0
 | n + 1=>mkm p n ||| (if p n then 2 ^ n else 0)
theorem ym {p:Nat→Bool}:∀ (n j:Nat),(mkm p n).testBit j=(decide (j < n) && p j)
 | 0,j=>by simp [mkm]
 | n + 1,j=>by
   rw [mkm,Nat.testBit_or,ym n j]
   by_cases hp:p n=true
   · rw [if_pos hp,Nat.testBit_two_pow]
     by_cases e:n=j
     · subst e;simp [hp]
     · have h1:decide (n=j)=false:=by simpa using e
       have h2:decide (j < n + 1)=decide (j < n):=by
        rw [Bool.eq_iff_iff];simp;omega
       rw [h1,h2];simp
   · rw [if_neg hp,Nat.zero_testBit]
     rw [Bool.not_eq_true] at hp
     by_cases e:n=j
     · subst e;simp [hp]
     · have h2:decide (j < n + 1)=decide (j < n):=by
        rw [Bool.eq_iff_iff];simp;omega
       rw [h2];simp
theorem WN {p:Nat→Bool} {n:Nat}:mkm p n < 2 ^ n:=by
 apply Nat.lt_pow_two_of_testBit
 intro j hj
 rw [ym]
 have:decide (j < n)=false:=by simp;omega
 rw [this];rfl
theorem wc {p:Nat→Bool} {n:Nat} (h:n≤62):mkm p n < 9223372036854775808:=Nat.lt_trans WN (uc h)
theorem uq {p q:Nat→Bool} {n:Nat} (h:∀ j,j < n→p j=q j):mkm p n=mkm q n:=by
 apply Nat.eq_of_testBit_eq;intro j
 rw [ym,ym]
 by_cases hj:j < n
 · rw [h j hj]
 · simp [hj]
theorem vw {p:Nat→Bool} {n m:Nat} (hm:∀ j,m.testBit j=(decide (j < n) && p j)):m=mkm p n:=by
 apply Nat.eq_of_testBit_eq;intro j;rw [hm,ym]
def vY (g:Gr) (a b:Nat) (i:Nat):Bool:=((g.2.getD i (0,0)).1 == (a:Int) && (g.2.getD i (0,0)).2 == (b:Int)) || ((g.2.getD i (0,0)).1 == (b:Int) && (g.2.getD i (0,0)).2 == (a:Int))
def adj (g:Gr) (a b:Nat):Bool:=xF (vY g a b) g.2.length
theorem zdg {g:Gr} {a b i:Nat}:vY g a b i=vY g b a i:=by unfold vY;rw [Bool.or_comm]
theorem YP {g:Gr} {a b:Nat}:adj g a b=adj g b a:=Ju fun _ _=>zdg
theorem LV {g:Gr} (hg:xa g=true) {a b:Nat} (h:adj g a b=true):(a:Int) < g.1∧(b:Int) < g.1∧a≠b:=by
 unfold adj at h
 obtain ⟨i,hi,h⟩:=xd.1 h
 obtain ⟨e1,e2,e3⟩:=U6 hg hi
 unfold vY at h
 simp only [Bool.or_eq_true,Bool.and_eq_true,beq_iff_eq] at h
 omega
theorem WL {F:Nat} {g:Gr} {a b:Nat} (hF:g.2.length < F) (hs:Sm g.2.length):uo F g (a:Int) (b:Int)=some (adj g a b):=by
 unfold uo
 rw [XT (L:=fun k i=>xo F (a:Int) (b:Int) g k i) (n:=g.2.length) (p:=fun i=>!vY g a b i) (bad:=some true) (fin:=some false) ?_ ?_ F hF]
 · unfold adj;rw [LF];cases Yb (fun i=>!vY g a b i) g.2.length <;> rfl
 · intro k i hi
   simp only [xo,ua]
   rw [zL (d:=(0,0)) hi,z5 hi hs]
   have hlt:decide ((i:Int) < g.2.length)=true:=by simp [hi]
   rw [hlt,cond_true,Option.bind_some]
   unfold vY
   generalize g.2.getD i (0,0)=e
   generalize (e.1 == (a:Int))=b1
   generalize (e.2 == (b:Int))=b2
   generalize (e.1 == (b:Int))=b3
   generalize (e.2 == (a:Int))=b4
   cases b1 <;> cases b2 <;> cases b3 <;> cases b4 <;> rfl
 · intro k;simp [xo]
def yh (g:Gr):List Int:=(List.range g.1.toNat).map fun x=>((mkm (adj g x) g.1.toNat:Nat):Int)
theorem wi {g:Gr}:(yh g).length=g.1.toNat:=by simp [yh]
theorem Xv {g:Gr} {x:Nat} (h:x < g.1.toNat):(yh g).getD x 0=((mkm (adj g x) g.1.toNat:Nat):Int):=by
 simp [yh,List.getD_eq_getElem?_getD,h]
theorem XP {F:Nat} {g:Gr} (hg:xa g=true) (hF:g.2.length < F) (hs:Sm g.2.length):vS F g=some ⟨yh g⟩:=by
 have h8:=zY hg
 obtain ⟨n,hn⟩:∃ n:Nat,g.1=n:=⟨g.1.toNat,by omega⟩
 unfold vS
 rw [hn,Lr (by omega),Option.bind_some]
 refine we (L:=fun k i s=>ZG F g k s i) (n:=g.2.length) (fun i w=>w.length=n∧∀ x,x < n→∃ m:Nat,w.getD x 0=(m:Int)∧zcT m (fun j=>xF (vY g x j) i)) ?_ ?_ F _ hF ?_
 · intro k i w hi ⟨hl,hw⟩
   obtain ⟨e1,e2,e3⟩:=U6 hg hi
   simp only [ZG]
   rw [zL (d:=(0,0)) hi,z5 hi hs]
   have hlt:decide ((i:Int) < g.2.length)=true:=by simp [hi]
   rw [hlt,cond_true,Option.bind_some]
   obtain ⟨a,ha⟩:∃ a:Nat,(g.2.getD i (0,0)).1=a:=⟨(g.2.getD i (0,0)).1.toNat,by omega⟩
   obtain ⟨b,hb⟩:∃ b:Nat,(g.2.getD i (0,0)).2=b:=⟨(g.2.getD i (0,0)).2.toNat,by omega⟩
   have hj:∀ x j,vY g x j i=((x == a && j == b) || (x == b && j == a)):=by
    intro x j
    unfold vY
    rw [ha,hb,Bool.eq_iff_iff]
    simp
    omega
   rw [ha] at e1 e2 ⊢
   rw [hb] at e2 e3 ⊢
   obtain ⟨ma,hma,hma2⟩:=hw a (by omega)
   obtain ⟨mb,hmb,hmb2⟩:=hw b (by omega)
   have ia:idx w (a:Int)=some (ma:Int):=by rw [zL (d:=0) (by omega),hma]
   rw [ia,Option.bind_some,yP (by omega),Option.bind_some,Option.bind_some,Za hma2.1 (uc (by omega)),Int.toNat_natCast]
   have ib:idx (w.set a ((ma ||| 2 ^ b:Nat):Int)) (b:Int)=some (mb:Int):=by
    rw [zL (d:=0) (by simp;omega),Km (by omega),if_neg (by omega),hmb]
   rw [ib,Option.bind_some,yP (by omega),Option.bind_some,Option.bind_some,Za hmb2.1 (uc (by omega)),Int.toNat_natCast]
   refine ⟨_,⟨by simp [hl],?_⟩,rfl⟩
   intro x hx
   rw [Km (by simp;omega),Km (by omega)]
   by_cases exb:b=x
   · subst exb
     rw [if_pos rfl]
     refine ⟨_,rfl,Nat.or_lt_two_pow (n:=63) hmb2.1 (uc (by omega)),fun j=>?_⟩
     rw [Nat.testBit_or,hmb2.2,Nat.testBit_two_pow]
     show (xF (vY g b j) i || decide (a=j))=(xF (vY g b j) i || vY g b j i)
     rw [hj]
     congr 1
     rw [Bool.eq_iff_iff];simp;omega
   · rw [if_neg exb]
     by_cases exa:a=x
     · subst exa
       rw [if_pos rfl]
       refine ⟨_,rfl,Nat.or_lt_two_pow (n:=63) hma2.1 (uc (by omega)),fun j=>?_⟩
       rw [Nat.testBit_or,hma2.2,Nat.testBit_two_pow]
       show (xF (vY g a j) i || decide (b=j))=(xF (vY g a j) i || vY g a j i)
       rw [hj]
       congr 1
       rw [Bool.eq_iff_iff];simp;omega
     · rw [if_neg exa]
       obtain ⟨m,h1,h2⟩:=hw x hx
       refine ⟨m,h1,h2.1,fun j=>?_⟩
       rw [h2.2]
       show xF (vY g x j) i=(xF (vY g x j) i || vY g x j i)
       have:vY g x j i=false:=by
        rw [hj,Bool.eq_false_iff];intro h;simp at h;omega
       rw [this,Bool.or_false]
 · intro k w ⟨hl,hw⟩
   simp only [ZG]
   have hlt:decide ((g.2.length:Int) < g.2.length)=false:=by simp
   rw [hlt,cond_false]
   have:w=yh g:=by
    apply List.ext_getElem (by rw [hl,wi,hn];simp)
    intro x h1 h2
    obtain ⟨m,h3,h4⟩:=hw x (by omega)
    have h5:=Xv (g:=g) (x:=x) (by rw [wi] at h2;exact h2)
    rw [List.getD_eq_getElem?_getD,List.getElem?_eq_getElem h1] at h3
    rw [List.getD_eq_getElem?_getD,List.getElem?_eq_getElem h2] at h5
    simp at h3 h5
    rw [h3,h5]
    congr 1
    refine vw fun j=>?_
    rw [h4.2,hn,Int.toNat_natCast]
    by_cases hj:j < n
    · simp [hj,adj]
    · have:adj g x j=false:=by
       rw [Bool.eq_false_iff];intro h;have:=LV hg h;omega
      simp only [hj,decide_false,Bool.false_and];exact this
   rw [this]
 · refine ⟨by simp,fun x hx=>⟨0,by simp [List.getD_eq_getElem?_getD,hx],by omega,fun j=>by simp [xF]⟩⟩
def Kp (g:Gr) (p:Nat→Bool) (j:Nat):Bool:=p j || xF (fun x=>p x && adj g x j) g.1.toNat
theorem M4 {F:Nat} {g:Gr} {p:Nat→Bool} (hg:xa g=true) (hF:9≤F) :
    uh F ⟨yh g⟩ ((mkm p g.1.toNat:Nat):Int)=some ((mkm (Kp g p) g.1.toNat:Nat):Int):=by
 have h8:=zY hg
 obtain ⟨n,hn⟩:∃ n:Nat,g.1=n:=⟨g.1.toNat,by omega⟩
 unfold uh
 refine we (L:=fun k i s=>xD F ((mkm p g.1.toNat:Nat):Int) ⟨yh g⟩ k s i) (n:=n) (fun i s=>s=((mkm (fun j=>p j || xF (fun x=>p x && adj g x j) i) n:Nat):Int)) ?_ ?_ F _ (by omega) ?_
 · intro k i s hi hs
   subst hs
   simp only [xD,ul]
   have hnn:g.1.toNat=n:=by omega
   have hlt:decide ((i:Int) < ((yh g).length:Int))=true:=by rw [wi];simp;omega
   rw [hlt,cond_true,zL (d:=0) (by rw [wi];omega),Option.bind_some,Xv (by omega),hnn]
   obtain ⟨q,hq,hq1,_⟩:=zaJ (m:=mkm p n) (j:=i) (wc (by omega)) (by omega)
   rw [hq,Option.bind_some,hq1,ym,z5 hi (by unfold Sm;omega)]
   have hd:decide (i < n)=true:=by simp [hi]
   rw [hd,Bool.true_and]
   cases hp:p i with
   | true=>
     rw [cond_true,Za (wc (by omega)) (wc (by omega))]
     refine ⟨_,?_,rfl⟩
     congr 1
     refine vw fun j=>?_
     rw [Nat.testBit_or,ym,ym]
     simp only [xF,hp,Bool.true_and]
     cases decide (j < n) <;> simp [Bool.or_assoc]
   | false=>
     rw [cond_false]
     refine ⟨_,?_,rfl⟩
     congr 1
     refine uq fun j _=>?_
     simp [xF,hp]
 · intro k s hs
   subst hs
   simp only [xD]
   have hlt:decide ((n:Int) < ((yh g).length:Int))=false:=by rw [wi];simp;omega
   rw [hlt,cond_false]
   have hnn:g.1.toNat=n:=by omega
   unfold Kp
   rw [hnn]
 · have hnn:g.1.toNat=n:=by omega
   rw [hnn]
   congr 1
   refine uq fun j _=>?_
   simp [xF]
def yO (p:Nat→Bool) (n:Nat):Nat:=(List.range n).countP p
theorem ZU {p q:Nat→Bool} {n:Nat} (h:∀ j,j < n→p j=q j):yO p n=yO q n:=by
 unfold yO
 apply List.countP_congr
 intro x hx
 rw [h x (by simpa using hx)]
def zjW (m:Nat):Nat:=yO m.testBit 8
theorem zgY:∀ m:Nat,m < 256→xS 0 (Kd.mk (IntKind.u64.wrap (m:Int)):Kd .u64)=some (zjW m:Int):=by decide +kernel
theorem Kc {F m:Nat} (h:m < 256):xS F (Kd.mk (IntKind.u64.wrap (m:Int)):Kd .u64)=some (zjW m:Int):=zgY m h
theorem Uq {p:Nat→Bool} {n:Nat} (hn:n≤8):zjW (mkm p n)=yO p n:=by
 unfold zjW
 have h1:yO (mkm p n).testBit 8=yO (fun j=>decide (j < n) && p j) 8:=ZU fun j _=>ym n j
 rw [h1]
 unfold yO
 have:List.range 8=List.range n++(List.range (8 - n)).map (n + ·):=by
  have:=@List.range_add n (8 - n)
  rwa [show n + (8 - n)=8 by omega] at this
 rw [this,List.countP_append]
 have h2:((List.range (8 - n)).map (n + ·)).countP (fun j=>decide (j < n) && p j)=0:=by
  rw [List.countP_eq_zero]
  intro x hx
  simp at hx
  obtain ⟨y,_,rfl⟩:=hx
  have:¬ n + y < n:=by omega
  simp only [this,decide_false,Bool.false_and,Bool.false_eq_true,not_false_eq_true]
 rw [h2,Nat.add_zero]
 apply List.countP_congr
 intro x hx
 simp at hx
 simp [hx]
theorem JS {p:Nat→Bool} {n:Nat} (hn:n≤8):mkm p n < 256:=by
 have:=WN (p:=p) (n:=n)
 have:=Nat.pow_le_pow_right (n:=2) (by decide) hn
 omega
end Go.Zq
namespace Go.Zq
def zo (p:Nat→Bool) (n:Nat):List Int:=((List.range n).filter p).map fun (j:Nat)=>(j:Int)
theorem yJ {p:Nat→Bool} {n:Nat}:(zo p n).length=yO p n:=by
 simp [zo,yO,List.countP_eq_length_filter]
theorem vi {p:Nat→Bool} {n:Nat}:zo p (n + 1)=zo p n++(if p n then [(n:Int)] else []):=by
 simp only [zo,List.range_succ,List.filter_append,List.map_append]
 by_cases h:p n=true
 · simp [h]
 · rw [Bool.not_eq_true] at h;simp [h]
theorem wg {p q:Nat→Bool} {n:Nat} (h:∀ j,j < n→p j=q j):zo p n=zo q n:=by
 unfold zo
 congr 1
 apply List.filter_congr
 intro x hx
 exact h x (by simpa using hx)
theorem vK {p:Nat→Bool} {n:Nat}:yO p n≤n:=by
 have:=List.countP_le_length (p:=p) (l:=List.range n)
 unfold yO;simpa using this
end Go.Zq
namespace Go.Zq
theorem M8:∀ (n:Nat) (l:List Int),l.Nodup→(∀ x∈l,0≤x∧x < n)→yO (fun j=>decide ((j:Int)∈l)) n=l.length
 | 0,l,_,h=>by
   cases l with
   | nil=>rfl
   | cons x l=>have:=h x (by simp);omega
 | n + 1,l,hn,h=>by
   have hs:∀ x∈l.erase (n:Int),0≤x∧x < n:=by
    intro x hx
    have h1:=(hn.mem_erase_iff).1 hx
    have:=h x h1.2
    omega
   have ih:=M8 n (l.erase (n:Int)) (hn.erase _) hs
   have hc:yO (fun j=>decide ((j:Int)∈l.erase (n:Int))) n=yO (fun j=>decide ((j:Int)∈l)) n:=by
    apply ZU
    intro j hj
    rw [Bool.eq_iff_iff]
    simp only [decide_eq_true_eq]
    rw [List.mem_erase_of_ne (by omega)]
   rw [hc] at ih
   unfold yO at *
   rw [List.range_succ,List.countP_append,ih]
   by_cases hm:(n:Int)∈l
   · rw [List.length_erase_of_mem hm]
     have:=List.length_pos_of_mem hm
     simp [hm];omega
   · rw [List.erase_of_not_mem hm]
     simp [hm]
def Srt (l:List Int):Prop:=l.Pairwise (· < ·)
theorem zeO:∀ (a b:List Int),Srt a→Srt b→(∀ y,y∈a↔y∈b)→a=b
 | [],[],_,_,_=>rfl
 | [],y :: b,_,_,h=>by have:=(h y).2 (by simp);cases this
 | x :: a,[],_,_,h=>by have:=(h x).1 (by simp);cases this
 | x :: a,y :: b,ha,hb,h=>by
   unfold Srt at ha hb
   rw [List.pairwise_cons] at ha hb
   have e:x=y:=by
    have h1:=(h x).1 (by simp)
    have h2:=(h y).2 (by simp)
    rcases List.mem_cons.1 h1 with e | h1
    · exact e
    · rcases List.mem_cons.1 h2 with e | h2
      · exact e.symm
      · have:=ha.1 y h2;have:=hb.1 x h1;omega
   subst e
   congr 1
   refine zeO a b ha.2 hb.2 fun y=>?_
   have:=h y
   simp only [List.mem_cons] at this
   constructor
   · intro hy
     rcases this.1 (.inr hy) with e | h'
     · have:=ha.1 y hy;omega
     · exact h'
   · intro hy
     rcases this.2 (.inr hy) with e | h'
     · have:=hb.1 y hy;omega
     · exact h'
theorem y5 {p:Nat→Bool} {n:Nat} {y:Int}:y∈zo p n↔∃ j:Nat,y=j∧j < n∧p j=true:=by
 unfold zo
 simp only [List.mem_map,List.mem_filter,List.mem_range]
 constructor
 · rintro ⟨j,⟨h1,h2⟩,rfl⟩;exact ⟨j,rfl,h1,h2⟩
 · rintro ⟨j,rfl,h1,h2⟩;exact ⟨j,⟨h1,h2⟩,rfl⟩
theorem UU {p:Nat→Bool} {n:Nat}:Srt (zo p n):=by
 unfold Srt zo
 rw [List.pairwise_map]
 have h1:(List.range n).Pairwise (· < ·):=List.pairwise_lt_range
 exact (List.Pairwise.filter _ h1).imp fun h=>by omega
theorem zfK {l:List Int} {p:Nat→Bool} {n:Nat} (h:Srt l) (hm:∀ y,y∈l↔∃ j:Nat,y=j∧j < n∧p j=true):l=zo p n:=
 zeO _ _ h UU fun y=>(hm y).trans y5.symm
end Go.Zq
namespace Go.Zq
def L7 (f:Nat→Nat):Nat→Nat
 | 0=>0
 | n + 1=>L7 f n + f n
theorem NB {f g:Nat→Nat}:∀ {n:Nat},(∀ i,i < n→f i=g i)→L7 f n=L7 g n
 | 0,_=>rfl
 | n + 1,h=>by simp only [L7];rw [NB (n:=n) (fun i hi=>h i (by omega)),h n (by omega)]
theorem ze7 {f g:Nat→Nat}:∀ {n:Nat},L7 (fun i=>f i + g i) n=L7 f n + L7 g n
 | 0=>rfl
 | n + 1=>by simp only [L7];rw [ze7 (n:=n)];omega
theorem u9 {p:Nat→Bool}:∀ {n:Nat},yO p n=L7 (fun j=>if p j then 1 else 0) n
 | 0=>rfl
 | n + 1=>by
   have:yO p (n + 1)=yO p n + (if p n then 1 else 0):=by
    unfold yO
    rw [List.range_succ,List.countP_append]
    by_cases h:p n=true <;> simp [h]
   rw [this,u9 (n:=n)];rfl
theorem L8 {m i:Nat} (hi:i≤64):Wn .i64 (m:Int) (i:Int)=some ((m / 2 ^ i:Nat):Int):=by
 rw [zfl,Nat.min_eq_left hi]
theorem Z4 {F n:Nat} {p:Nat→Bool} (hn:n≤8) (hF:20≤F):vG F ((mkm p n:Nat):Int)=some (zo p n):=by
 have key:∀ d k i (l:NL Int),i + d=n→d < k→l.list=zo p i→wM F ((mkm p n:Nat):Int) k l (i:Int)=some (zo p n):=by
  intro d
  induction d with
  | zero=>
    intro k i l hi hk hl
    obtain ⟨k,rfl⟩:∃ k',k=k' + 1:=⟨k - 1,by omega⟩
    obtain rfl:i=n:=by omega
    simp only [wM]
    rw [L8 (by omega),Option.bind_some,Nat.div_eq_of_lt WN,hl];rfl
  | succ d ih=>
    intro k i l hi hk hl
    obtain ⟨k,rfl⟩:∃ k',k=k' + 1:=⟨k - 1,by omega⟩
    simp only [wM,Yp]
    rw [L8 (by omega),Option.bind_some]
    have hw:w64 ((i:Int) + 1)=((i + 1:Nat):Int):=z5 (n:=n) (by omega) (by unfold Sm;omega)
    by_cases hz:mkm p n / 2 ^ i=0
    · have:(((mkm p n / 2 ^ i:Nat):Int) != 0)=false:=by rw [hz];rfl
      rw [this,cond_false,hl]
      have hlt:mkm p n < 2 ^ i:=by
       rcases Nat.div_eq_zero_iff.1 hz with h | h
       · have:=Nat.two_pow_pos i;omega
       · exact h
      have hp:∀ j,i≤j→j < n→p j=false:=by
       intro j h1 h2
       have hb:=ym (p:=p) n j
       have:(mkm p n).testBit j=false:=Nat.testBit_lt_two_pow (Nat.lt_of_lt_of_le hlt (Nat.pow_le_pow_right (by decide) h1))
       rw [this] at hb
       simpa [h2] using hb.symm
      have:∀ e,i + e≤n→zo p (i + e)=zo p i:=by
       intro e
       induction e with
       | zero=>intro _;rfl
       | succ e ihe=>intro he;rw [show i + (e + 1)=(i + e) + 1 by omega,vi,hp (i + e) (by omega) (by omega),ihe (by omega)];simp
      have h3:=this (n - i) (by omega)
      rw [show i + (n - i)=n by omega] at h3
      rw [h3]
    · have:(((mkm p n / 2 ^ i:Nat):Int) != 0)=true:=by
       rw [bne_iff_ne];intro h;exact hz (by exact_mod_cast h)
      rw [this,cond_true]
      obtain ⟨q,hq,hq1,_⟩:=zaJ (m:=mkm p n) (j:=i) (wc (by omega)) (by omega)
      have hd:decide (i < n)=true:=decide_eq_true (by omega)
      have hq':((mkm p n / 2 ^ i:Nat):Int)=q:=Option.some.inj (by rw [← L8 (by omega),hq])
      rw [Option.bind_some,hq',hq1,ym,hd,Bool.true_and,hw]
      have hc:=vK (p:=p) (n:=i)
      have hs:=vi (p:=p) (n:=i)
      cases hp:p i with
      | true=>
        rw [cond_true,hl,vF (by rw [yJ];omega),Option.bind_some]
        refine ih k (i + 1) _ (by omega) (by omega) ?_
        rw [hs,hp];rfl
      | false=>
        rw [cond_false]
        refine ih k (i + 1) _ (by omega) (by omega) ?_
        rw [hs,hp,hl];simp
 unfold vG
 exact key n F 0 .nil (by omega) (by omega) rfl
/-! the number of edges that leave a set,counted by edges and by nodes -/
def xi (l:List Int) (i:Nat) (j:Nat):Bool:=decide ((j:Int)∈l.take i)
theorem Ya {l:List Int} {i x:Nat} (hi:i < l.length) (hx:l.getD i 0=(x:Int)):∀ j,xi l (i + 1) j=(xi l i j || j == x):=by
 intro j
 unfold xi
 rw [List.take_add_one,List.getElem?_eq_getElem hi,Bool.eq_iff_iff]
 have:l[i]=(x:Int):=by rw [← hx,List.getD_eq_getElem?_getD,List.getElem?_eq_getElem hi];rfl
 have h2:((j:Int)=(x:Int))↔j=x:=by omega
 simp [this,h2]
end Go.Zq
namespace Go.Zq
theorem u7 {p:Nat→Bool} {n i:Nat} (hi:i < (zo p n).length):∃ j:Nat,(zo p n).getD i 0=j∧j < n∧p j=true:=y5.1 (ww hi)
theorem zao {l:List Int} (h:Srt l) {i j:Nat} (hij:i < j) (hj:j < l.length):l.getD i 0 < l.getD j 0:=by
 have:=List.pairwise_iff_getElem.1 h i j (by omega) hj hij
 rw [List.getD_eq_getElem?_getD,List.getElem?_eq_getElem (by omega),List.getD_eq_getElem?_getD,List.getElem?_eq_getElem hj]
 exact this
def vn (l:List Int) (x:Int):Nat:=l.findIdx fun y=>!decide (y < x)
theorem zbh {l:List Int} {x:Int} {j:Nat} (hj:j < vn l x) (hl:j < l.length):l.getD j 0 < x:=by
 have:=List.not_of_lt_findIdx (p:=fun y=>!decide (y < x)) (xs:=l) hj
 rw [List.getD_eq_getElem?_getD,List.getElem?_eq_getElem hl]
 simpa using this
theorem zbV {l:List Int} {x:Int} (h:vn l x < l.length):¬ l.getD (vn l x) 0 < x:=by
 have:=List.findIdx_getElem (p:=fun y=>!decide (y < x)) (xs:=l) (w:=h)
 rw [List.getD_eq_getElem?_getD,List.getElem?_eq_getElem h]
 intro hlt
 simp only [Option.getD_some] at hlt
 have e:l[List.findIdx (fun y=>!decide (y < x)) l] < x:=hlt
 rw [decide_eq_true e] at this
 cases this
theorem zhr {l:List Int} {x:Int}:vn l x≤l.length:=List.findIdx_le_length
theorem zbG {α:Type} {xs:List α} {i:Nat} (h:i≤xs.length):sub xs (i:Int) (xs.length:Int)=some (xs.drop i):=by
 unfold sub
 rw [if_pos ⟨by omega,by omega,by omega⟩]
 simp only [Int.toNat_natCast]
 rw [List.take_of_length_le (by simp)]
theorem NR {α:Type} {xs:List α} {i:Nat} (h:i≤xs.length):sub xs 0 (i:Int)=some (xs.take i):=by
 unfold sub
 rw [if_pos ⟨by omega,by omega,by omega⟩]
 simp
theorem MO {α:Type} {xs ys:List α} (h:xs.length + ys.length≤1099511627776):wS xs ys=some (xs++ys):=by
 unfold wS
 rw [if_pos]
 have:(2:Nat) ^ 40=1099511627776:=by decide
 omega
def zfJ (l:List Int) (x:Int):List Int:=if vn l x < l.length∧l.getD (vn l x) 0=x then l else l.take (vn l x)++[x]++l.drop (vn l x)
theorem zkz {F:Nat} {l:List Int} {x:Int} (hF:l.length < F) (hl:l.length≤1000):WR F l x=some (zfJ l x):=by
 unfold WR
 have hle:=zhr (l:=l) (x:=x)
 refine zdH (L:=fun k i=>ui F l x k i) (n:=vn l x) ?_ ?_ F (by omega)
 · intro k i hi
   simp only [ui,YA]
   have hlt:decide ((i:Int) < (l.length:Int))=true:=decide_eq_true (by omega)
   have hx:=zbh hi (by omega)
   rw [hlt,cond_true,zL (d:=0) (by omega),Option.bind_some,decide_eq_true hx,cond_true,z5 hi (by unfold Sm;omega)]
 · intro k
   have hfin:Yv F l x (vn l x:Int) false=some (l.take (vn l x)++[x]++l.drop (vn l x)):=by
    unfold Yv
    rw [cond_false,NR hle,Option.bind_some,MO (by simp;omega),Option.bind_some,MO (by simp;omega),Option.bind_some,zbG hle,Option.bind_some,MO (by simp;omega),Option.bind_some]
    simp
   unfold zfJ
   simp only [ui,YA]
   by_cases h:vn l x < l.length
   · have hlt:decide ((vn l x:Int) < (l.length:Int))=true:=decide_eq_true (by omega)
     have hx:=zbV h
     rw [hlt,cond_true,zL (d:=0) h,Option.bind_some,decide_eq_false hx,cond_false,cond_true,Option.bind_some]
     by_cases e:l.getD (vn l x) 0=x
     · have:(l.getD (vn l x) 0 == x)=true:=by simpa using e
       rw [this,if_pos ⟨h,e⟩];rfl
     · have:(l.getD (vn l x) 0 == x)=false:=by rw [beq_eq_false_iff_ne];exact e
       rw [this,if_neg (fun h=>e h.2)];exact hfin
   · have hlt:decide ((vn l x:Int) < (l.length:Int))=false:=decide_eq_false (by omega)
     rw [hlt,cond_false,cond_false,cond_false,if_neg (fun h'=>h h'.1)];exact hfin
theorem ziI {l:List Int} {x y:Int}:y∈zfJ l x↔y∈l∨y=x:=by
 unfold zfJ
 split
 · rename_i h
   constructor
   · exact .inl
   · rintro (h' | h')
     · exact h'
     · rw [h',← h.2];exact ww h.1
 · have:y∈l↔y∈l.take (vn l x)∨y∈l.drop (vn l x):=by
    rw [← List.mem_append,List.take_append_drop]
   rw [this]
   simp only [List.mem_append,List.mem_singleton]
   constructor
   · rintro ((h | h) | h)
     · exact .inl (.inl h)
     · exact .inr h
     · exact .inl (.inr h)
   · rintro ((h | h) | h)
     · exact .inl (.inl h)
     · exact .inr h
     · exact .inl (.inr h)
theorem zi3 {l:List Int} {x:Int} (h:Srt l):Srt (zfJ l x):=by
 unfold zfJ
 split
 · exact h
 · rename_i hn
   have ht:∀ y∈l.take (vn l x),y < x:=by
    intro y hy
    obtain ⟨i,hi,rfl⟩:=List.mem_iff_getElem.1 hy
    have hi':i < vn l x∧i < l.length:=by simp at hi;omega
    have:=zbh hi'.1 hi'.2
    rw [List.getD_eq_getElem?_getD,List.getElem?_eq_getElem hi'.2] at this
    simpa using this
   have hd:∀ y∈l.drop (vn l x),x < y:=by
    intro y hy
    obtain ⟨i,hi,rfl⟩:=List.mem_iff_getElem.1 hy
    have hi':vn l x + i < l.length:=by simp at hi;omega
    have h1:=zbV (l:=l) (x:=x) (by omega)
    have h2:l.getD (vn l x) 0≠x:=fun e=>hn ⟨by omega,e⟩
    have h3:l.getD (vn l x) 0≤l.getD (vn l x + i) 0:=by
     by_cases e:i=0
     · subst e;exact Int.le_refl _
     · exact Int.le_of_lt (zao h (by omega) hi')
    have h4:l.getD (vn l x + i) 0=(l.drop (vn l x))[i]:=by
     rw [List.getElem_drop,List.getD_eq_getElem?_getD,List.getElem?_eq_getElem hi'];rfl
    omega
   unfold Srt at h ⊢
   have h0:(l.take (vn l x)++l.drop (vn l x)).Pairwise (· < ·):=by rw [List.take_append_drop];exact h
   rw [List.pairwise_append] at h0
   rw [List.append_assoc,List.pairwise_append]
   refine ⟨h0.1,?_,?_⟩
   · rw [List.singleton_append,List.pairwise_cons]
     exact ⟨hd,h0.2.1⟩
   · intro a ha b hb
     rw [List.singleton_append,List.mem_cons] at hb
     rcases hb with rfl | hb
     · exact ht a ha
     · exact h0.2.2 a ha b hb
theorem zdm {F n x:Nat} {p:Nat→Bool} (hn:n≤8) (hx:x < n) (hF:20≤F):WR F (zo p n) (x:Int)=some (zo (fun j=>p j || j == x) n):=by
 have hc:=vK (p:=p) (n:=n)
 rw [zkz (by rw [yJ];omega) (by rw [yJ];omega)]
 congr 1
 refine zfK (zi3 UU) fun y=>?_
 rw [ziI,y5]
 constructor
 · rintro (⟨j,rfl,h1,h2⟩ | rfl)
   · exact ⟨j,rfl,h1,by simp [h2]⟩
   · exact ⟨x,rfl,hx,by simp⟩
 · rintro ⟨j,rfl,h1,h2⟩
   simp only [Bool.or_eq_true,beq_iff_eq] at h2
   rcases h2 with h2 | h2
   · exact .inl ⟨j,rfl,h1,h2⟩
   · exact .inr (by omega)
theorem Ke {F n:Nat} {p:Nat→Bool} {x:Nat} (hn:n≤8) (hx:x < n) (hF:20≤F):wC F (zo p n) (x:Int)=some (p x):=by
 have hc:=vK (p:=p) (n:=n)
 rw [YW (by rw [yJ];omega) (by rw [yJ];unfold Sm;omega)]
 congr 1
 rw [Bool.eq_iff_iff,decide_eq_true_eq,y5]
 constructor
 · rintro ⟨j,h1,_,h3⟩;obtain rfl:x=j:=by omega
   exact h3
 · exact fun h=>⟨x,rfl,hx,h⟩
theorem Lz {F n code:Nat} (hn:n≤8) (hc:code < 9223372036854775808) (hF:20≤F):Zx F (n:Int) (code:Int)=some (zo code.testBit n):=by
 unfold Zx
 refine we (L:=fun k i s=>w5 F (n:Int) (code:Int) k s i) (n:=n) (fun i s=>s=zo code.testBit i) ?_ ?_ F _ (by omega) rfl
 · intro k i s hi hI
   subst hI
   refine ⟨_,rfl,?_⟩
   simp only [w5,YY]
   have hlt:decide ((i:Int) < (n:Int))=true:=decide_eq_true (by omega)
   obtain ⟨q,hq,hq1,_⟩:=zaJ (m:=code) (j:=i) hc (by omega)
   have hcl:=vK (p:=code.testBit) (n:=i)
   rw [hlt,cond_true,hq,Option.bind_some,hq1,z5 hi (by unfold Sm;omega),vi]
   cases code.testBit i with
   | true=>rw [cond_true,vF (by rw [yJ];omega),Option.bind_some];rfl
   | false=>rw [cond_false];simp
 · intro k s hI
   subst hI
   simp only [w5]
   have hlt:decide ((n:Int) < (n:Int))=false:=decide_eq_false (by omega)
   rw [hlt,cond_false]
theorem zjS {p:Nat→Bool} {n:Nat}:mkm p (n + 1)=mkm p n + (if p n then 2 ^ n else 0):=by
 by_cases h:p n=true
 · rw [if_pos h]
   have hlt:=WN (p:=p) (n:=n)
   have:mkm p n + 2 ^ n=2 ^ n * 1 + mkm p n:=by omega
   rw [this,Nat.two_pow_add_eq_or_of_lt hlt 1]
   rw [mkm,if_pos h,Nat.or_comm,Nat.mul_one]
 · rw [if_neg h,mkm,if_neg h];simp
end Go.Zq
namespace Go.Zq
def stp (g:Gr) (p q:Nat→Bool) (j:Nat):Bool:=q j || (p j && xF (fun y=>q y && adj g y j) g.1.toNat)
def rch (g:Gr) (p:Nat→Bool) (x:Nat):Nat→Nat→Bool
 | 0=>fun j=>j == x
 | t + 1=>stp g p (rch g p x t)
def Zl (g:Gr) (p:Nat→Bool) (x:Nat):Nat→Bool:=rch g p x g.1.toNat
theorem WW {g:Gr} {p q:Nat→Bool} {j:Nat}:stp g p q j=true↔q j=true∨(p j=true∧∃ y,y < g.1.toNat∧q y=true∧adj g y j=true):=by
 unfold stp
 rw [Bool.or_eq_true,Bool.and_eq_true,xd]
 constructor
 · rintro (h | ⟨h,y,h1,h2⟩)
   · exact .inl h
   · rw [Bool.and_eq_true] at h2;exact .inr ⟨h,y,h1,h2.1,h2.2⟩
 · rintro (h | ⟨h,y,h1,h2,h3⟩)
   · exact .inl h
   · exact .inr ⟨h,y,h1,by rw [h2,h3];rfl⟩
theorem WD {g:Gr} {p:Nat→Bool} {x t j:Nat} (h:rch g p x t j=true):∀ s,t≤s→rch g p x s j=true:=by
 intro s hs
 induction s with
 | zero=>obtain rfl:t=0:=by omega
         exact h
 | succ s ih=>
   by_cases e:t=s + 1
   · subst e;exact h
   · exact WW.2 (.inl (ih (by omega)))
theorem zae {g:Gr} {p:Nat→Bool} {x:Nat} (hx:p x=true):∀ t j,rch g p x t j=true→p j=true
 | 0,j,h=>by
   have:j=x:=by simpa [rch] using h
   subst this;exact hx
 | t + 1,j,h=>by
   rcases WW.1 h with h | h
   · exact zae hx t j h
   · exact h.1
theorem zbd {g:Gr} (hg:xa g=true) {p:Nat→Bool} {x:Nat} (hx:x < g.1.toNat):∀ t j,rch g p x t j=true→j < g.1.toNat
 | 0,j,h=>by
   have:j=x:=by simpa [rch] using h
   subst this;exact hx
 | t + 1,j,h=>by
   rcases WW.1 h with h | ⟨_,y,_,_,h⟩
   · exact zbd hg hx t j h
   · have:=LV hg h
     have:=zY hg
     omega
theorem Qq {g:Gr} {p C:Nat→Bool} {x:Nat} (hx:C x=true) (hC:∀ y j,C y=true→p j=true→adj g y j=true→C j=true):∀ t j,rch g p x t j=true→C j=true
 | 0,j,h=>by
   have:j=x:=by simpa [rch] using h
   subst this;exact hx
 | t + 1,j,h=>by
   rcases WW.1 h with h | ⟨h1,y,_,h2,h3⟩
   · exact Qq hx hC t j h
   · exact hC y j (Qq hx hC t y h2) h1 h3
theorem Qs {p q:Nat→Bool}:∀ {n:Nat},(∀ j,j < n→p j=true→q j=true)→(∃ j,j < n∧p j=false∧q j=true)→yO p n + 1≤yO q n
 | 0,_,⟨_,h,_⟩=>by omega
 | n + 1,h,⟨j,hj,h1,h2⟩=>by
   rw [u9,u9]
   simp only [L7]
   rw [← u9,← u9]
   by_cases e:j=n
   · subst e
     have hle:yO p j≤yO q j:=by
      unfold yO
      apply List.countP_mono_left
      intro x hx
      exact h x (by have:=List.mem_range.1 hx;omega)
     rw [h1,h2];simp;omega
   · have ih:=Qs (p:=p) (q:=q) (n:=n) (fun j hj=>h j (by omega)) ⟨j,by omega,h1,h2⟩
     have hn:=h n (by omega)
     by_cases hp:p n=true
     · rw [hp,hn hp];simp;omega
     · rw [Bool.not_eq_true] at hp;rw [hp];simp;omega
theorem Uh {p q:Nat→Bool} {n:Nat} (h:∀ j,j < n→p j=true→q j=true):yO p n≤yO q n:=by
 unfold yO
 apply List.countP_mono_left
 intro x hx
 exact h x (List.mem_range.1 hx)
theorem JA {g:Gr} {p:Nat→Bool} {x t:Nat} (h:∀ j,rch g p x (t + 1) j=true→rch g p x t j=true):∀ s j,rch g p x (t + s) j=true→rch g p x t j=true
 | 0,j,hj=>hj
 | s + 1,j,hj=>by
   rcases WW.1 (show stp g p (rch g p x (t + s)) j=true from hj) with h1 | ⟨h1,y,hy,h2,h3⟩
   · exact JA h s j h1
   · exact h j (WW.2 (.inr ⟨h1,y,hy,JA h s y h2,h3⟩))
theorem Mb {g:Gr} (hg:xa g=true) {p:Nat→Bool} {x:Nat} (hx:x < g.1.toNat) (hp:p x=true):∃ t,t < yO p g.1.toNat∧∀ j,rch g p x (t + 1) j=true→rch g p x t j=true:=by
 apply Classical.byContradiction
 intro hne
 have hstep:∀ t,t < yO p g.1.toNat→∃ j,rch g p x (t + 1) j=true∧rch g p x t j=false:=by
  intro t ht
  apply Classical.byContradiction
  intro hno
  apply hne
  refine ⟨t,ht,fun j hj=>?_⟩
  cases h:rch g p x t j with
  | true=>rfl
  | false=>exact absurd ⟨j,hj,h⟩ hno
 have hgrow:∀ t,t≤yO p g.1.toNat→t + 1≤yO (rch g p x t) g.1.toNat:=by
  intro t
  induction t with
  | zero=>
    intro _
    have:=Qs (p:=fun _=>false) (q:=rch g p x 0) (n:=g.1.toNat) (by simp) ⟨x,hx,rfl,by simp [rch]⟩
    omega
  | succ t ih=>
    intro ht
    have h1:=ih (by omega)
    obtain ⟨j,hj1,hj2⟩:=hstep t (by omega)
    have:=Qs (p:=rch g p x t) (q:=rch g p x (t + 1)) (n:=g.1.toNat) (fun j _ h=>WD h _ (by omega)) ⟨j,zbd hg hx _ j hj1,hj2,hj1⟩
    omega
 have h1:=hgrow (yO p g.1.toNat) (Nat.le_refl _)
 have h2:yO (rch g p x (yO p g.1.toNat)) g.1.toNat≤yO p g.1.toNat:=Uh fun j _ h=>zae hp _ j h
 omega
theorem zb8 {g:Gr} (hg:xa g=true) {p:Nat→Bool} {x:Nat} (hx:x < g.1.toNat) (hp:p x=true) {s:Nat} (hs:yO p g.1.toNat≤s + 1):∀ j,rch g p x s j=Zl g p x j:=by
 intro j
 obtain ⟨t,ht,hst⟩:=Mb hg hx hp
 have hcn:=vK (p:=p) (n:=g.1.toNat)
 have key:∀ s,t≤s→(rch g p x s j=true↔rch g p x t j=true):=fun s hs=>⟨fun h=>by
  have:s=t + (s - t):=by omega
  rw [this] at h;exact JA hst (s - t) j h,fun h=>WD h s hs⟩
 rw [Bool.eq_iff_iff,key s (by omega)]
 unfold Zl
 rw [key g.1.toNat (by omega)]
theorem ve {g:Gr} {p:Nat→Bool} {x:Nat}:Zl g p x x=true:=WD (t:=0) (by simp [rch]) _ (Nat.zero_le _)
theorem Lw {g:Gr} {p:Nat→Bool} {x j:Nat} (hx:p x=true) (h:Zl g p x j=true):p j=true:=zae hx _ j h
theorem zdT {g:Gr} (hg:xa g=true) {p:Nat→Bool} {x j:Nat} (hx:x < g.1.toNat) (h:Zl g p x j=true):j < g.1.toNat:=zbd hg hx _ j h
theorem wK {g:Gr} (hg:xa g=true) {p:Nat→Bool} {x y j:Nat} (hx:x < g.1.toNat) (hp:p x=true) (hy:Zl g p x y=true) (hj:p j=true) (ha:adj g y j=true):Zl g p x j=true:=by
 have hcn:=vK (p:=p) (n:=g.1.toNat)
 have:=zb8 hg hx hp (s:=g.1.toNat + 1) (by omega) j
 rw [← this]
 exact WW.2 (.inr ⟨hj,y,zdT hg hx hy,hy,ha⟩)
theorem YR {g:Gr} {p C:Nat→Bool} {x j:Nat} (hx:C x=true) (hC:∀ y j,C y=true→p j=true→adj g y j=true→C j=true) (h:Zl g p x j=true):C j=true:=Qq hx hC _ j h
end Go.Zq
namespace Go.Zq
def Yq (p:Nat→Bool):Nat→Option Nat
 | 0=>none
 | n + 1=>match Yq p n with
   | some x=>some x
   | none=>if p n then some n else none
theorem vu {p:Nat→Bool}:∀ {n:Nat},Yq p n=none↔∀ j,j < n→p j=false
 | 0=>by simp [Yq]
 | n + 1=>by
   have ih:=vu (p:=p) (n:=n)
   simp only [Yq]
   cases h:Yq p n with
   | some x=>
     simp only [reduceCtorEq,false_iff]
     intro hj
     have:=ih.2 (fun j hj'=>hj j (by omega))
     rw [h] at this;cases this
   | none=>
     simp only
     have h1:=ih.1 h
     by_cases hp:p n=true
     · rw [if_pos hp]
       simp only [reduceCtorEq,false_iff]
       intro hj;have:=hj n (by omega);rw [hp] at this;cases this
     · rw [if_neg hp]
       simp only [true_iff]
       intro j hj
       by_cases e:j=n
       · subst e;simpa using hp
       · exact h1 j (by omega)
theorem wH {p:Nat→Bool} {x:Nat}:∀ {n:Nat},Yq p n=some x→x < n∧p x=true∧∀ j,j < x→p j=false
 | 0,h=>by simp [Yq] at h
 | n + 1,h=>by
   simp only [Yq] at h
   cases h1:Yq p n with
   | some y=>
     rw [h1] at h
     simp only [Option.some.injEq] at h
     subst h
     have:=wH h1
     exact ⟨by omega,this.2⟩
   | none=>
     rw [h1] at h
     simp only at h
     split at h
     · rename_i hp
       simp only [Option.some.injEq] at h
       subst h
       exact ⟨by omega,hp,vu.1 h1⟩
     · cases h
theorem zgL {p:Nat→Bool} {n:Nat}:mkm p n=0↔Yq p n=none:=by
 rw [vu]
 constructor
 · intro h j hj
   have:=ym (p:=p) n j
   rw [h,Nat.zero_testBit] at this
   simpa [hj] using this.symm
 · intro h
   apply Nat.eq_of_testBit_eq;intro j
   rw [ym,Nat.zero_testBit]
   by_cases hj:j < n
   · simp [h j hj]
   · simp [hj]
theorem zkF {p q:Nat→Bool} {n:Nat} (h:mkm p n=mkm q n):∀ j,j < n→p j=q j:=by
 intro j hj
 have h1:=ym (p:=p) n j
 have h2:=ym (p:=q) n j
 rw [h,h2] at h1
 simpa [hj] using h1.symm
end Go.Zq
namespace Go.Zq
end Go.Zq
namespace Go.Zq
def spr (g:Gr) (f u:Nat→Bool) (j:Nat):Bool:=xF (fun y=>u y && f y && Zl g f y j) g.1.toNat
def KY (step:Int):Int:=if step < 0 then -1 - step else step
def zmb (n:Nat) (p:Nat→Bool) (step:Int):Bool:=decide (KY step < n) && (p (KY step).toNat == decide (step < 0))
def Ud (p:Nat→Bool) (step:Int) (j:Nat):Bool:=if step < 0 then p j && !(j == (KY step).toNat) else p j || j == (KY step).toNat
end Go.Zq
