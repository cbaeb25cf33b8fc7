/- Plain mathematics: what the functions answer (part 1). Conditions: stated in each theorem. -/
import Derived.Test.YtkmhlpopclahcacK3
import Derived.Test.YtkmhlpopclahcacGT
set_option linter.unusedVariables false
set_option linter.unusedSimpArgs false
namespace Go.Zq
def W6 (F:Nat) (x1:LI) (x2:Int) (x6:Int)  (x13:Bool):Option LI:=
 bif x13 then
  some x1
 else
  (sub x1 0 x6).bind fun sub14=>
  (wJ [] sub14).bind fun ap15=>
  (wJ ap15 [x2]).bind fun ap16=>
  (sub x1 x6 (x1.length:Int)).bind fun sub17=>
  (wJ ap16 sub17).bind fun ap18=>
  some ap18
def W5 (F:Nat) (x1:LI) (x2:Int) (x6:Int) (c1:Int→Option LI) (x11:Bool):Option LI:=
 bif x11 then
  c1 (w64 (x6 + 1))
 else
  bif decide (x6 < (x1.length:Int)) then
   (idx x1 x6).bind fun v19=>
   W6 F x1 x2 x6 (v19 == x2)
  else
   W6 F x1 x2 x6 false
def YC (F:Nat) (x1:LI) (x2:Int) :Nat→Int→Option LI
 | 0,_=>none
 | k + 1,x6=>
   bif decide (x6 < (x1.length:Int)) then
    (idx x1 x6).bind fun v20=>
    W5 F x1 x2 x6 (YC F x1 x2 k) (decide (v20 < x2))
   else
    W5 F x1 x2 x6 (YC F x1 x2 k) false
def LM (F:Nat) (x1:LI) (x2:Int):Option LI:=
 YC F x1 x2 F 0
def Xj (F:Nat) (x2:LI) (x1:GR) (x42:Int) (x94:Int) (c1:LI→Int→Option LI) (c4:LI→Int→Option LI) (x113:LI):Option LI:=
 c4 x113 (w64 (x94 + 1))
def Xl (F:Nat) (x2:LI) (x1:GR) (x93:LI) (x42:Int) (x94:Int) (c1:LI→Int→Option LI) (c4:LI→Int→Option LI) (x110:Bool):Option LI:=
 bif x110 then
  (idx x2 x42).bind fun v114=>
  (LM F x93 v114).bind fun r115=>
  Xj F x2 x1 x42 x94 c1 c4 r115
 else
  Xj F x2 x1 x42 x94 c1 c4 x93
def wW (F:Nat) (x2:LI) (x1:GR) (x42:Int) (c1:LI→Int→Option LI):Nat→LI→Int→Option LI
 | 0,_,_=>none
 | k + 1,x93,x94=>
   bif decide (x94 < x1.1) then
    (idx x2 x42).bind fun v116=>
    (uZ F x1 v116 x94).bind fun r117=>
    bif r117 then
     (vz F x2 x94).bind fun r118=>
     Xl F x2 x1 x93 x42 x94 c1 (wW F x2 x1 x42 c1 k) (!r118)
    else
     Xl F x2 x1 x93 x42 x94 c1 (wW F x2 x1 x42 c1 k) false
   else
    c1 x93 (w64 (x42 + 1))
def wI (F:Nat) (x2:LI) (x1:GR) :Nat→LI→Int→Option LI
 | 0,_,_=>none
 | k + 1,x41,x42=>
   bif decide (x42 < (x2.length:Int)) then
    wW F x2 x1 x42 (wI F x2 x1 k) F x41 0
   else
    some x41
def Zp (F:Nat) (x1:GR) (x2:LI):Option LI:=
 wI F x2 x1 F [] 0
def Wi (F:Nat) (x_1:GR) (x_45:LI) (x_46:Int) (x_104:Int) (c1:LI→Int→Option LI) (c4:Int→Int→Option LI) (x_123:Int):Option LI:=
 c4 x_123 (w64 (x_104 + 1))
def YS (F:Nat) (x_1:GR) (x_45:LI) (x_46:Int) (x_103:Int) (x_104:Int) (c1:LI→Int→Option LI) (c4:Int→Int→Option LI) (x_120:Bool):Option LI:=
 bif x_120 then
  (uB .i64 1 x_104).bind fun q_124=>
  (idx x_45 (w64 (x_46 - q_124))).bind fun e_125=>
  Wi F x_1 x_45 x_46 x_104 c1 c4 e_125
 else
  Wi F x_1 x_45 x_46 x_104 c1 c4 x_103
def vK (F:Nat) (x_1:GR) (x_45:LI) (x_46:Int) (c1:LI→Int→Option LI):Nat→Int→Int→Option LI
 | 0,_,_=>none
 | k + 1,x_103,x_104=>
   bif decide (x_104 < x_1.1) then
    (Wk .i64 x_46 x_104).bind fun q_126=>
    bif ((yp .i64 q_126 1) == 1) then
     bif decide (x_103 < 0) then
      YS F x_1 x_45 x_46 x_103 x_104 c1 (vK F x_1 x_45 x_46 c1 k) true
     else
      (uB .i64 1 x_104).bind fun q_127=>
      (idx x_45 (w64 (x_46 - q_127))).bind fun e_128=>
      YS F x_1 x_45 x_46 x_103 x_104 c1 (vK F x_1 x_45 x_46 c1 k) (decide (e_128 < x_103))
    else
     YS F x_1 x_45 x_46 x_103 x_104 c1 (vK F x_1 x_45 x_46 c1 k) false
   else
    (ZH F x_1.1 x_46).bind fun r_129=>
    (Zp F x_1 r_129).bind fun r_130=>
    (ua F x_103 (r_130.length:Int)).bind fun r_131=>
    (wJ x_45 [r_131]).bind fun ap_132=>
    c1 ap_132 (w64 (x_46 + 1))
def vR (F:Nat) (x_1:GR) :Nat→LI→Int→Option LI
 | 0,_,_=>none
 | k + 1,x_45,x_46=>
   (uB .i64 1 x_1.1).bind fun q_90=>
   bif decide (x_46 < q_90) then
    vK F x_1 x_45 x_46 (vR F x_1 k) F (-1) 0
   else
    some x_45
def JR (F:Nat) (x_1:GR):Option LI:=
 vR F x_1 F [0] 1
def uP (F:Nat) (x_1:GR):Option Int:=
 (JR F x_1).bind fun r_2=>
 (uB .i64 1 x_1.1).bind fun q_3=>
 (idx r_2 (w64 (q_3 - 1))).bind fun e_4=>
 some e_4
def JC (F:Nat) (x_1:GR):Option (Int×Bool):=
 (uK F x_1).bind fun r_2=>
 bif (!r_2) then
  some (0,false)
 else
  (uP F x_1).bind fun r_3=>
  some (r_3,true)
def yM (F:Nat) (x_2:LI) (x_3:(Cl 72 ((S1 LI)×Unit) Unit)) (x_1:(S1 LI)) (x_35:(NL Int)) (x_36:Int) (r_70:LI) (c1:(NL Int)→Int→Option LI):Nat→Int→Option LI
 | 0,_=>none
 | k + 1,x_80=>
   bif decide (x_80 < (r_70.length:Int)) then
    (idx r_70 x_80).bind fun e_90=>
    (xe F x_3.fs.1 x_36 e_90).bind fun r_91=>
    (uB .i64 1 e_90).bind fun q_92=>
    (idx x_2 (ior .i64 x_36 q_92)).bind fun e_93=>
    (idx x_2 0).bind fun e_94=>
    bif decide ((if e_93 > r_91 then e_93 else r_91)≤e_94) then
     (wJ x_35.list [e_90]).bind fun ap_97=>
     (uB .i64 1 e_90).bind fun q_98=>
     c1 (.of ap_97) (ior .i64 x_36 q_98)
    else
     (yM F x_2 x_3 x_1 x_35 x_36 r_70 c1 k) (w64 (x_80 + 1))
   else
    c1 x_35 x_36
def yR (F:Nat) (x_2:LI) (x_3:(Cl 72 ((S1 LI)×Unit) Unit)) (x_1:(S1 LI)) :Nat→(NL Int)→Int→Option LI
 | 0,_,_=>none
 | k + 1,x_35,x_36=>
   (yI F x_1).bind fun r_68=>
   bif (x_36 != r_68) then
    (yI F x_1).bind fun r_69=>
    (uU F (xp .i64 r_69 x_36)).bind fun r_70=>
    yM F x_2 x_3 x_1 x_35 x_36 r_70 (yR F x_2 x_3 x_1 k) F 0
   else
    some x_35.list
def w9 (F:Nat) (x_1:(S1 LI)) (x_2:LI) (x_3:(Cl 72 ((S1 LI)×Unit) Unit)):Option LI:=
 yR F x_2 x_3 x_1 F .nil 0
def Ua (F:Nat) (x_1:GR):Option (LI×Bool):=
 (xF F x_1).bind fun r_2=>
 bif (!r_2) then
  some ([],false)
 else
  (vw F x_1).bind fun r_3=>
  (zY F r_3 0 (Cl.mk (r_3,()) ():(Cl 72 ((S1 LI)×Unit) Unit))).bind fun r_4=>
  (w9 F r_3 r_4 (Cl.mk (r_3,()) ():(Cl 72 ((S1 LI)×Unit) Unit))).bind fun r_5=>
  some (r_5,true)
def xY (F:Nat) (rc:GR→LI→Int→Option (LI×Bool)) (x_2:LI) (x_3:Int) (x_1:GR) :Nat→Int→Option (LI×Bool)
 | 0,_=>none
 | k + 1,x_9=>
   bif decide (x_9 < x_1.1) then
    (vz F x_2 x_9).bind fun r_14=>
    bif r_14 then
     (xY F rc x_2 x_3 x_1 k) (w64 (x_9 + 1))
    else
     (Z3 F x_2).bind fun r_15=>
     (wJ r_15.list [x_9]).bind fun ap_16=>
     (rc x_1 ap_16 x_3).bind fun r_17=>
     bif r_17.2 then
      some (r_17.1,true)
     else
      (xY F rc x_2 x_3 x_1 k) (w64 (x_9 + 1))
   else
    some ([],false)
def uA (F:Nat) (rc:GR→LI→Int→Option (LI×Bool)) (x_1:GR) (x_2:LI) (x_3:Int):Option (LI×Bool):=
 (Zp F x_1 x_2).bind fun r_4=>
 bif decide ((r_4.length:Int) > x_3) then
  some ([],false)
 else
  bif ((x_2.length:Int) == x_1.1) then
   some (x_2,true)
  else
   xY F rc x_2 x_3 x_1 F 0
def xn (F:Nat):Nat→GR→LI→Int→Option (LI×Bool)
 | 0,_,_,_=>none
 | k + 1,x0,x1,x2=>uA F (xn F k) x0 x1 x2
def Mf (F:Nat) (x0:GR) (x1:LI) (x2:Int):Option (LI×Bool):=xn F F x0 x1 x2
def Kl (F:Nat) (x_1:GR):Option (LI×Bool):=
 (uK F x_1).bind fun r_2=>
 bif (!r_2) then
  some ([],false)
 else
  (uP F x_1).bind fun r_3=>
  (Mf F x_1 [] r_3).bind fun r_4=>
  some (r_4.1,r_4.2)
def z7 (F:Nat) (best_2:(List Int)) (cost_3:(Cl 72 ((S1 (List Int))×Unit) Unit)) (w_1:(S1 (List Int))) (order_35:(NL Int)) (set_36:Int) (r_70:(List Int)) (c1:(NL Int)→Int→Option (NL Int)):Nat→Int→Option (NL Int)
 | 0,_=>none
 | k + 1,t21_80=>
   bif decide (t21_80 < (r_70.length:Int)) then
    (idx r_70 t21_80).bind fun e_90=>
    (xe F cost_3.fs.1 set_36 e_90).bind fun r_91=>
    (uB .i64 1 e_90).bind fun q_92=>
    (idx best_2 (ior .i64 set_36 q_92)).bind fun e_93=>
    (idx best_2 0).bind fun e_94=>
    bif decide ((if e_93 > r_91 then e_93 else r_91)≤e_94) then
     (wJ order_35.list [e_90]).bind fun ap_97=>
     (uB .i64 1 e_90).bind fun q_98=>
     c1 (.of ap_97) (ior .i64 set_36 q_98)
    else
     (z7 F best_2 cost_3 w_1 order_35 set_36 r_70 c1 k) (w64 (t21_80 + 1))
   else
    c1 order_35 set_36
def zO (F:Nat) (best_2:(List Int)) (cost_3:(Cl 72 ((S1 (List Int))×Unit) Unit)) (w_1:(S1 (List Int))) :Nat→(NL Int)→Int→Option (NL Int)
 | 0,_,_=>none
 | k + 1,order_35,set_36=>
   (yI F w_1).bind fun r_68=>
   bif (set_36 != r_68) then
    (yI F w_1).bind fun r_69=>
    (uU F (xp .i64 r_69 set_36)).bind fun r_70=>
    z7 F best_2 cost_3 w_1 order_35 set_36 r_70 (zO F best_2 cost_3 w_1 k) F 0
   else
    some order_35
def xz (F:Nat) (w_1:(S1 (List Int))) (best_2:(List Int)) (cost_3:(Cl 72 ((S1 (List Int))×Unit) Unit)):Option (NL Int):=
 zO F best_2 cost_3 w_1 F .nil 0
def Yv (F:Nat) (g_1:(Int×(List (Int×Int)))):Option ((NL Int)×Bool):=
 (xF F g_1).bind fun r_2=>
 bif (!r_2) then
  some (.nil,false)
 else
  (vw F g_1).bind fun r_3=>
  (zY F r_3 0 (Cl.mk (r_3,()) ():(Cl 72 ((S1 (List Int))×Unit) Unit))).bind fun r_4=>
  (xz F r_3 r_4 (Cl.mk (r_3,()) ():(Cl 72 ((S1 (List Int))×Unit) Unit))).bind fun r_5=>
  some (r_5,true)
def wb (F:Nat) (w_1:(S1 (List Int))) (order_2:(List Int)) :Nat→(NL Int)→Int→Int→Option (NL Int)
 | 0,_,_,_=>none
 | k + 1,cuts_7,set_8,t11_9=>
   bif decide (t11_9 < (order_2.length:Int)) then
    (idx order_2 t11_9).bind fun e_14=>
    (ve F w_1 set_8 e_14).bind fun r_15=>
    (wJ cuts_7.list [r_15]).bind fun ap_16=>
    (uB .i64 1 e_14).bind fun q_17=>
    (wb F w_1 order_2 k) (.of ap_16) (ior .i64 set_8 q_17) (w64 (t11_9 + 1))
   else
    some cuts_7
def Yn (F:Nat) (w_1:(S1 (List Int))) (order_2:(List Int)):Option (NL Int):=
 wb F w_1 order_2 F .nil 0 0
def YP (F:Nat) (order_2:(List Int)) (g_1:(Int×(List (Int×Int))))  (t14_5:Bool):Option ((NL Int)×Bool):=
 bif t14_5 then
  some (.nil,false)
 else
  (vw F g_1).bind fun r_6=>
  (Yn F r_6 order_2).bind fun r_7=>
  some (r_7,true)
def Ug (F:Nat) (g_1:(Int×(List (Int×Int)))) (order_2:(List Int)):Option ((NL Int)×Bool):=
 (xF F g_1).bind fun r_8=>
 bif (!r_8) then
  YP F order_2 g_1 true
 else
  (uN F g_1 order_2).bind fun r_9=>
  YP F order_2 g_1 (!r_9)
def xT (F:Nat) (rc:(S1 (List Int))→Int→(On Int)→Option ((NL Int)×Bool)) (width_2:Int) (order_3:(On Int)) (w_1:(S1 (List Int))) (t22_20:Int) (fits_40:Bool) (i_41:Int) (c1:Int→Option ((NL Int)×Bool)) (c4:Bool→Int→Option ((NL Int)×Bool)) (t37_45:Bool):Option ((NL Int)×Bool):=
 bif t37_45 then
  (idx order_3.v.list i_41).bind fun e_46=>
  (Z7 F w_1 e_46 t22_20).bind fun r_47=>
  c4 (!r_47) (w64 (i_41 + 1))
 else
  bif (!fits_40) then
   c1 (w64 (t22_20 + 1))
  else
   (wK F order_3.v.list).bind fun r_48=>
   (wJ r_48.list [t22_20]).bind fun ap_49=>
   (rc w_1 width_2 (On.mk (.of ap_49):On Int)).bind fun r_50=>
   bif r_50.2 then
    some (r_50.1,true)
   else
    c1 (w64 (t22_20 + 1))
def yK (F:Nat) (rc:(S1 (List Int))→Int→(On Int)→Option ((NL Int)×Bool)) (width_2:Int) (order_3:(On Int)) (w_1:(S1 (List Int))) (t22_20:Int) (c1:Int→Option ((NL Int)×Bool)):Nat→Bool→Int→Option ((NL Int)×Bool)
 | 0,_,_=>none
 | k + 1,fits_40,i_41=>
   bif decide (i_41 < (w64 ((order_3.v.list.length:Int) - width_2))) then
    xT F rc width_2 order_3 w_1 t22_20 fits_40 i_41 c1 (yK F rc width_2 order_3 w_1 t22_20 c1 k) fits_40
   else
    xT F rc width_2 order_3 w_1 t22_20 fits_40 i_41 c1 (yK F rc width_2 order_3 w_1 t22_20 c1 k) false
def zX (F:Nat) (rc:(S1 (List Int))→Int→(On Int)→Option ((NL Int)×Bool)) (width_2:Int) (order_3:(On Int)) (w_1:(S1 (List Int))) :Nat→Int→Option ((NL Int)×Bool)
 | 0,_=>none
 | k + 1,t22_20=>
   bif decide (t22_20 < (w_1.a.length:Int)) then
    (xN F order_3.v.list t22_20).bind fun r_36=>
    yK F rc width_2 order_3 w_1 t22_20 (zX F rc width_2 order_3 w_1 k) F (!r_36) 0
   else
    some (.nil,false)
def xx (F:Nat) (rc:(S1 (List Int))→Int→(On Int)→Option ((NL Int)×Bool)) (w_1:(S1 (List Int))) (width_2:Int) (order_3:(On Int)):Option ((NL Int)×Bool):=
 (Ze F w_1).bind fun r_4=>
 bif ((order_3.v.list.length:Int) == r_4) then
  some (order_3.v,true)
 else
  zX F rc width_2 order_3 w_1 F 0
def zA (F:Nat):Nat→(S1 (List Int))→Int→(On Int)→Option ((NL Int)×Bool)
 | 0,_,_,_=>none
 | k + 1,x0,x1,x2=>xx F (zA F k) x0 x1 x2
def vD (F:Nat) (x0:(S1 (List Int))) (x1:Int) (x2:(On Int)):Option ((NL Int)×Bool):=zA F F x0 x1 x2
def yW (F:Nat) (r_3:(S1 (List Int))) :Nat→Int→Option (S3 (NL Int) Int Bool)
 | 0,_=>none
 | k + 1,width_5=>
   (vD F r_3 width_5 (On.mk .nil:On Int)).bind fun r_7=>
   bif r_7.2 then
    some (S3.mk r_7.1 width_5 true)
   else
    (yW F r_3 k) (w64 (width_5 + 1))
def uD (F:Nat) (g_1:(Int×(List (Int×Int)))):Option (S3 (NL Int) Int Bool):=
 (xF F g_1).bind fun r_2=>
 bif (!r_2) then
  some (S3.mk .nil 0 false)
 else
  (vw F g_1).bind fun r_3=>
  yW F r_3 F 0
def yb (F:Nat) (best_2:(List Int)) (cost_3:(Cl 36 ((S1 (List Int))×Unit) Unit)) (w_1:(S1 (List Int))) (order_35:(NL Int)) (set_36:Int) (r_70:(List Int)) (c1:(NL Int)→Int→Option (NL Int)):Nat→Int→Option (NL Int)
 | 0,_=>none
 | k + 1,t21_80=>
   bif decide (t21_80 < (r_70.length:Int)) then
    (idx r_70 t21_80).bind fun e_90=>
    (ve F cost_3.fs.1 set_36 e_90).bind fun r_91=>
    (uB .i64 1 e_90).bind fun q_92=>
    (idx best_2 (ior .i64 set_36 q_92)).bind fun e_93=>
    (idx best_2 0).bind fun e_94=>
    bif decide ((if e_93 > r_91 then e_93 else r_91)≤e_94) then
     (wJ order_35.list [e_90]).bind fun ap_97=>
     (uB .i64 1 e_90).bind fun q_98=>
     c1 (.of ap_97) (ior .i64 set_36 q_98)
    else
     (yb F best_2 cost_3 w_1 order_35 set_36 r_70 c1 k) (w64 (t21_80 + 1))
   else
    c1 order_35 set_36
def z5 (F:Nat) (best_2:(List Int)) (cost_3:(Cl 36 ((S1 (List Int))×Unit) Unit)) (w_1:(S1 (List Int))) :Nat→(NL Int)→Int→Option (NL Int)
 | 0,_,_=>none
 | k + 1,order_35,set_36=>
   (yI F w_1).bind fun r_68=>
   bif (set_36 != r_68) then
    (yI F w_1).bind fun r_69=>
    (uU F (xp .i64 r_69 set_36)).bind fun r_70=>
    yb F best_2 cost_3 w_1 order_35 set_36 r_70 (z5 F best_2 cost_3 w_1 k) F 0
   else
    some order_35
def wu (F:Nat) (w_1:(S1 (List Int))) (best_2:(List Int)) (cost_3:(Cl 36 ((S1 (List Int))×Unit) Unit)):Option (NL Int):=
 z5 F best_2 cost_3 w_1 F .nil 0
def Yp (F:Nat) (g_1:(Int×(List (Int×Int)))):Option (S3 (NL Int) Int Bool):=
 (xF F g_1).bind fun r_2=>
 bif (!r_2) then
  some (S3.mk .nil 0 false)
 else
  (vw F g_1).bind fun r_3=>
  (ye F r_3 0 (Cl.mk (r_3,()) ():(Cl 36 ((S1 (List Int))×Unit) Unit))).bind fun r_4=>
  (wu F r_3 r_4 (Cl.mk (r_3,()) ():(Cl 36 ((S1 (List Int))×Unit) Unit))).bind fun r_5=>
  (idx r_4 0).bind fun e_6=>
  some (S3.mk r_5 e_6 true)
theorem yF {x:Int} (h1:-9223372036854775808≤x) (h2:x < 9223372036854775808):w64 x=x:=by
 show IntKind.wrap .i64 x=x
 simp only [IntKind.wrap,IntKind.bits,IntKind.signed,Bool.true_and]
 have e1:((2:Int) ^ 64)=18446744073709551616:=by decide
 have e2:((2:Int) ^ (64 - 1))=9223372036854775808:=by decide
 simp only [e1,e2]
 split
 · rename_i h;simp only [ge_iff_le,decide_eq_true_eq] at h;omega
 · rename_i h;simp only [ge_iff_le,decide_eq_true_eq] at h;omega
def Sm (n:Nat):Prop:=n≤4611686018427387904
theorem zN {i n:Nat} (hi:i < n) (hn:Sm n):w64 ((i:Int) + 1)=((i + 1:Nat):Int):=by
 unfold Sm at hn
 rw [yF (by omega) (by omega)];omega
theorem zcc {i n:Nat} (h0:0 < i) (hi:i < n) (hn:Sm n):w64 ((i:Int) - 1)=((i - 1:Nat):Int):=by
 unfold Sm at hn
 rw [yF (by omega) (by omega)];omega
theorem Jd {α:Type} {xs:List α} {i:Nat} (h:i < xs.length):idx xs (i:Int)=some xs[i]:=by
 unfold idx
 rw [if_pos (by omega)]
 simp [h]
theorem zI {α:Type} {xs:List α} {i:Nat} {d:α} (h:i < xs.length):idx xs (i:Int)=some (xs.getD i d):=by
 rw [Jd h];simp [h]
def vU (p:Nat→Bool):Nat→Bool
 | 0=>true
 | n + 1=>vU p n && p n
def wd (p:Nat→Bool):Nat→Bool
 | 0=>false
 | n + 1=>wd p n || p n
theorem yE {p:Nat→Bool}:∀ {n:Nat},vU p n=true↔∀ i,i < n→p i=true
 | 0=>by simp [vU]
 | n + 1=>by
   simp only [vU,Bool.and_eq_true,yE]
   constructor
   · rintro ⟨h1,h2⟩ i hi
     by_cases e:i=n
     · subst e;exact h2
     · exact h1 i (by omega)
   · intro h
     exact ⟨fun i hi=>h i (by omega),h n (by omega)⟩
theorem MA {p q:Nat→Bool} {n:Nat} (h:∀ i,i < n→p i=q i):vU p n=vU q n:=by
 rw [Bool.eq_iff_iff,yE,yE]
 constructor
 · intro h1 i hi;rw [← h i hi];exact h1 i hi
 · intro h1 i hi;rw [h i hi];exact h1 i hi
theorem wP {p:Nat→Bool}:∀ {n:Nat},wd p n=true↔∃ i,i < n∧p i=true
 | 0=>by simp [wd]
 | n + 1=>by
   simp only [wd,Bool.or_eq_true,wP]
   constructor
   · rintro (⟨i,h1,h2⟩ | h)
     · exact ⟨i,by omega,h2⟩
     · exact ⟨n,by omega,h⟩
   · rintro ⟨i,h1,h2⟩
     by_cases e:i=n
     · subst e;exact .inr h2
     · exact .inl ⟨i,by omega,h2⟩
theorem LT {p:Nat→Bool} {n:Nat}:wd p n=!vU (fun i=>!p i) n:=by
 induction n with
 | zero=>rfl
 | succ n ih=>simp [wd,vU,ih,Bool.not_and]
theorem M2 {p q:Nat→Bool} {n:Nat} (h:∀ i,i < n→p i=q i):wd p n=wd q n:=by
 rw [LT,LT,MA];intro i hi;rw [h i hi]
theorem Yj {β:Type} {L:Nat→Int→Option β} {n:Nat} {p:Nat→Bool} {bad fin:Option β} (hs:∀ k i,i < n→L (k + 1) (i:Int)=bif p i then L k ((i + 1:Nat):Int) else bad) (he:∀ k,L (k + 1) (n:Int)=fin) :
    ∀ k,n < k→L k 0=bif vU p n then fin else bad:=by
 have key:∀ d k i,i + d=n→d < k→(∀ j,j < i→p j=true)→L k (i:Int)=bif vU p n then fin else bad:=by
  intro d
  induction d with
  | zero=>
    intro k i hi hk hp
    obtain ⟨k,rfl⟩:∃ k',k=k' + 1:=⟨k - 1,by omega⟩
    obtain rfl:i=n:=by omega
    rw [he,show vU p i=true from yE.2 hp];rfl
  | succ d ih=>
    intro k i hi hk hp
    obtain ⟨k,rfl⟩:∃ k',k=k' + 1:=⟨k - 1,by omega⟩
    rw [hs k i (by omega)]
    cases hpi:p i with
    | true=>
      simp only [cond_true]
      refine ih k (i + 1) (by omega) (by omega) ?_
      intro j hj
      by_cases e:j=i
      · subst e;exact hpi
      · exact hp j (by omega)
    | false=>
      have:vU p n=false:=by
       rw [Bool.eq_false_iff];intro h
       have:=yE.1 h i (by omega);rw [hpi] at this;cases this
      rw [this];rfl
 intro k hk
 exact key n k 0 (by omega) hk (by simp)
theorem uO {β σ:Type} {L:Nat→Int→σ→Option β} {n:Nat} (I:Nat→σ→Prop) {fin:σ→Option β} (st:Nat→σ→σ)
    (hs:∀ k i s,i < n→I i s→L (k + 1) (i:Int) s=L k ((i + 1:Nat):Int) (st i s)) (hi:∀ i s,i < n→I i s→I (i + 1) (st i s)) (he:∀ k s,I n s→L (k + 1) (n:Int) s=fin s) :
    ∀ k s0,n < k→I 0 s0→∃ s,I n s∧L k 0 s0=fin s∧s=(List.range n).foldl (fun s i=>st i s) s0:=by
 have key:∀ d k i s,i + d=n→d < k→I i s→∃ s',I n s'∧L k (i:Int) s=fin s'∧s'=(List.range' i d).foldl (fun s i=>st i s) s:=by
  intro d
  induction d with
  | zero=>
    intro k i s hi hk hI
    obtain ⟨k,rfl⟩:∃ k',k=k' + 1:=⟨k - 1,by omega⟩
    obtain rfl:i=n:=by omega
    exact ⟨s,hI,he k s hI,rfl⟩
  | succ d ih=>
    intro k i s hd hk hI
    obtain ⟨k,rfl⟩:∃ k',k=k' + 1:=⟨k - 1,by omega⟩
    rw [hs k i s (by omega) hI]
    obtain ⟨s',h1,h2,h3⟩:=ih k (i + 1) (st i s) (by omega) (by omega) (hi i s (by omega) hI)
    exact ⟨s',h1,h2,by rw [h3,List.range'_succ];rfl⟩
 intro k s0 hk hI
 obtain ⟨s',h1,h2,h3⟩:=key n k 0 s0 (by omega) hk hI
 exact ⟨s',h1,h2,by rw [h3,List.range_eq_range']⟩
theorem wh {β σ:Type} {L:Nat→Int→σ→Option β} {n:Nat} (I:Nat→σ→Prop) {r:Option β}
    (hs:∀ k i s,i < n→I i s→∃ s',I (i + 1) s'∧L (k + 1) (i:Int) s=L k ((i + 1:Nat):Int) s') (he:∀ k s,I n s→L (k + 1) (n:Int) s=r) :
    ∀ k s0,n < k→I 0 s0→L k 0 s0=r:=by
 have key:∀ d k i s,i + d=n→d < k→I i s→L k (i:Int) s=r:=by
  intro d
  induction d with
  | zero=>
    intro k i s hi hk hI
    obtain ⟨k,rfl⟩:∃ k',k=k' + 1:=⟨k - 1,by omega⟩
    obtain rfl:i=n:=by omega
    exact he k s hI
  | succ d ih=>
    intro k i s hd hk hI
    obtain ⟨k,rfl⟩:∃ k',k=k' + 1:=⟨k - 1,by omega⟩
    obtain ⟨s',h1,h2⟩:=hs k i s (by omega) hI
    rw [h2]
    exact ih k (i + 1) s' (by omega) (by omega) h1
 intro k s0 hk hI
 exact key n k 0 s0 (by omega) hk hI
theorem LH {α:Type} {n:Nat} {x:α} (h:n≤1099511627776):mkN (n:Int) x=some (List.replicate n x):=by
 unfold mkN
 rw [if_pos ⟨by omega,by have:((2:Int) ^ 40)=1099511627776:=by decide
                         omega⟩]
 simp
theorem LS {β:Type} {L:Nat→Int→Option β} {n:Nat} {r:Option β} (hs:∀ k i,i < n→L (k + 1) (i:Int)=L k ((i + 1:Nat):Int)) (he:∀ k,L (k + 1) (n:Int)=r):∀ k,n < k→L k 0=r:=by
 intro k hk
 exact wh (L:=fun k i (_:Unit)=>L k i) (fun _ _=>True) (fun k i s hi _=>⟨(),trivial,hs k i hi⟩) (fun k s _=>he k) k () hk trivial
theorem wg {α:Type} {l:List α} {i:Nat} {d:α} (h:i < l.length):l.getD i d∈l:=by
 rw [List.getD_eq_getElem?_getD,List.getElem?_eq_getElem h];exact List.getElem_mem h
theorem wN {α:Type} {xs:List α} {y:α} (h:xs.length < 1099511627776):wJ xs [y]=some (xs++[y]):=by
 unfold wJ
 rw [if_pos]
 have:(2:Nat) ^ 40=1099511627776:=by decide
 simp;omega
theorem Wd {β σ:Type} {L:Nat→Int→σ→Option β} {n:Nat} (I:Nat→σ→Prop) {fin:σ→Option β}
    (hs:∀ k i s,i < n→I i s→∃ s',I (i + 1) s'∧L (k + 1) (i:Int) s=L k ((i + 1:Nat):Int) s') (he:∀ k s,I n s→L (k + 1) (n:Int) s=fin s) :
    ∀ k s0,n < k→I 0 s0→∃ s,I n s∧L k 0 s0=fin s:=by
 have key:∀ d k i s,i + d=n→d < k→I i s→∃ s',I n s'∧L k (i:Int) s=fin s':=by
  intro d
  induction d with
  | zero=>
    intro k i s hi hk hI
    obtain ⟨k,rfl⟩:∃ k',k=k' + 1:=⟨k - 1,by omega⟩
    obtain rfl:i=n:=by omega
    exact ⟨s,hI,he k s hI⟩
  | succ d ih=>
    intro k i s hd hk hI
    obtain ⟨k,rfl⟩:∃ k',k=k' + 1:=⟨k - 1,by omega⟩
    obtain ⟨s',h1,h2⟩:=hs k i s (by omega) hI
    rw [h2]
    exact ih k (i + 1) s' (by omega) (by omega) h1
 intro k s0 hk hI
 exact key n k 0 s0 (by omega) hk hI
end Go.Zq
namespace Go.Zq
theorem w1:w64 1=1:=by decide
theorem w2:w64 2=2:=by decide
end Go.Zq
namespace Go.Zq
theorem LO {n:Nat} (h:n < 9223372036854775808):w64 (n:Int)=n:=yF (by omega) (by omega)
theorem KL (n:Nat) (h:n < 9223372036854775808):(BitVec.ofInt (IntKind.bits .i64) (n:Int)).toNat=n:=by
 show (BitVec.ofInt 64 (n:Int)).toNat=n
 rw [BitVec.ofInt_natCast,BitVec.toNat_ofNat]
 exact Nat.mod_eq_of_lt (by omega)
theorem Zt {a b:Nat} (ha:a < 9223372036854775808) (hb:b < 9223372036854775808):ior .i64 a b=((a ||| b:Nat):Int):=by
 unfold ior
 rw [BitVec.toNat_or,KL a ha,KL b hb]
 exact LO (Nat.or_lt_two_pow (n:=63) ha hb)
theorem zil {a b:Nat} (ha:a < 9223372036854775808) (hb:b < 9223372036854775808):yp .i64 a b=((a &&& b:Nat):Int):=by
 unfold yp
 rw [BitVec.toNat_and,KL a ha,KL b hb]
 exact LO (Nat.and_lt_two_pow (n:=63) a hb)
theorem Ye {a b:Nat} (ha:a < 9223372036854775808) (hb:b < 9223372036854775808):∃ c:Nat,xp .i64 a b=(c:Int)∧c≤a∧∀ j,c.testBit j=(a.testBit j && !b.testBit j):=by
 refine ⟨a &&& (18446744073709551615 - b),?_,Nat.and_le_left,?_⟩
 · unfold xp
   rw [BitVec.toNat_and,BitVec.toNat_not,KL a ha,KL b hb]
   have e:(2:Nat) ^ (IntKind.bits .i64) - 1 - b=18446744073709551615 - b:=rfl
   rw [e]
   exact LO (Nat.lt_of_le_of_lt Nat.and_le_left ha)
 · intro j
   rw [Nat.testBit_and]
   have e:18446744073709551615 - b=2 ^ 64 - (b + 1):=by
    have:(2:Nat) ^ 64=18446744073709551616:=by decide
    omega
   rw [e,Nat.testBit_two_pow_sub_succ (by have:(2:Nat) ^ 64=18446744073709551616:=by decide
                                          omega)]
   by_cases hj:j < 64
   · simp [hj]
   · have:a.testBit j=false:=Nat.testBit_lt_two_pow (Nat.lt_of_lt_of_le ha (Nat.pow_le_pow_right (n:=2) (by decide) (show 63≤j by omega)))
     simp [this]
theorem zjZ {a j:Nat} (hj:j≤62) (ha:a * 2 ^ j < 9223372036854775808):uB .i64 (a:Int) (j:Int)=some (((a * 2 ^ j:Nat)):Int):=by
 unfold uB
 rw [if_neg (by omega)]
 have e:(min (j:Int).toNat (IntKind.bits .i64))=j:=by
  simp only [Int.toNat_natCast]
  exact Nat.min_eq_left (by show j≤64;omega)
 rw [e]
 have:=LO ha
 rw [show ((a:Int) * 2 ^ j)=((a * 2 ^ j:Nat):Int) by simp]
 rw [show IntKind.i64.wrap ((a * 2 ^ j:Nat):Int)=w64 ((a * 2 ^ j:Nat):Int) from rfl,this]
theorem xC {j:Nat} (hj:j≤62):uB .i64 1 (j:Int)=some ((2 ^ j:Nat):Int):=by
 have h:1 * 2 ^ j < 9223372036854775808:=by
  have:=Nat.pow_le_pow_right (n:=2) (by decide) hj
  have e:(2:Nat) ^ 62=4611686018427387904:=by decide
  omega
 have:=zjZ (a:=1) hj h
 simpa using this
theorem zfu {a j:Nat}:Wk .i64 (a:Int) (j:Int)=some ((a / 2 ^ (min j 64):Nat):Int):=by
 unfold Wk
 rw [if_neg (by omega)]
 simp only [Int.toNat_natCast]
 have:(IntKind.bits .i64)=64:=rfl
 rw [this]
 rw [Int.fdiv_eq_ediv_of_nonneg _ (by exact_mod_cast Nat.zero_le _)]
 simp
theorem uR {j:Nat} (hj:j≤62):(2:Nat) ^ j < 9223372036854775808:=by
 have:=Nat.pow_le_pow_right (n:=2) (by decide) hj
 have e:(2:Nat) ^ 62=4611686018427387904:=by decide
 omega
def zdA (m:Nat) (p:Nat→Bool):Prop:=m < 9223372036854775808∧∀ j,m.testBit j=p j
theorem zdp {n:Nat} (hn:n≤62):zdA (2 ^ n - 1) (fun j=>decide (j < n)):=
 ⟨by have:=uR hn;omega,fun j=>by rw [Nat.testBit_two_pow_sub_one]⟩
theorem WA:∀ (n:Nat) (l:List Int),(∀ j,j < n→(j:Int)∈l)→n≤l.length∧(l.length=n→∀ y∈l,0≤y∧y < n)
 | 0,l,_=>⟨Nat.zero_le _,fun h y hy=>by rw [List.length_eq_zero_iff.1 h] at hy;cases hy⟩
 | n + 1,l,h=>by
   have hn:=h n (by omega)
   have hp:=List.length_pos_of_mem hn
   have ih:=WA n (l.erase (n:Int)) (fun j hj=>(List.mem_erase_of_ne (by omega)).2 (h j (by omega)))
   rw [List.length_erase_of_mem hn] at ih
   refine ⟨by omega,fun hl y hy=>?_⟩
   by_cases e:y=n
   · subst e;omega
   · have:=ih.2 (by omega) y ((List.mem_erase_of_ne e).2 hy)
     omega
theorem Kt:∀ (n:Nat) (l:List Int),l.Nodup→(∀ x∈l,0≤x∧x < n)→l.length≤n
 | 0,l,_,h=>by
   cases l with
   | nil=>simp
   | cons x l=>have:=h x (by simp);omega
 | n + 1,l,hn,h=>by
   have hs:∀ x∈l.erase (n:Int),0≤x∧x < n:=by
    intro x hx
    have h1:=(hn.mem_erase_iff).1 hx
    have:=h x h1.2
    omega
   have ih:=Kt n (l.erase (n:Int)) (hn.erase _) hs
   by_cases hm:(n:Int)∈l
   · rw [List.length_erase_of_mem hm] at ih;omega
   · rw [List.erase_of_not_mem hm] at ih;omega
theorem U0 {m j:Nat} (hm:m < 9223372036854775808) (hj:j≤62):∃ q:Int,Wk .i64 (m:Int) (j:Int)=some q∧(yp .i64 q 1 == 1)=m.testBit j∧(yp .i64 q 1 == 0)=!m.testBit j:=by
 refine ⟨_,zfu,?_⟩
 have e:min j 64=j:=by omega
 rw [e]
 have hq:m / 2 ^ j < 9223372036854775808:=Nat.lt_of_le_of_lt (Nat.div_le_self _ _) hm
 have:=zil hq (b:=1) (by omega)
 rw [show ((1:Nat):Int)=1 from rfl] at this
 rw [this,Nat.and_one_is_mod]
 have hb:m.testBit j=decide (m / 2 ^ j % 2=1):=by
  rw [Nat.testBit_eq_decide_div_mod_eq]
 rw [hb]
 have h2:=Nat.mod_two_eq_zero_or_one (m / 2 ^ j)
 rcases h2 with h2 | h2 <;> simp [h2]
end Go.Zq
namespace Go.Zq
abbrev Gr:=Int×List (Int×Int)
theorem N2 {F:Nat} {n lo hi:Int}:Y6 F n lo hi=some (decide (lo≤n) && decide (n≤hi)):=by
 unfold Y6
 by_cases h:n≥lo
 · simp [h]
 · have:¬ lo≤n:=h
   simp [this]
theorem zaA {F:Nat} {n lo hi:Int}:Wo F n lo hi=some (decide (lo≤n) && decide (n≤hi)):=by
 unfold Wo
 by_cases h:n≥lo
 · simp [h]
 · have:¬ lo≤n:=h
   simp [this]
def bef (a b:Int×Int):Bool:=decide (a.1 < b.1) || (a.1 == b.1) && decide (a.2 < b.2)
theorem UO {F:Nat} {a b:Int×Int}:u6 F a b=some (bef a b):=by
 unfold u6 bef
 by_cases h:a.1 < b.1
 · simp [h]
 · cases e:(a.1 == b.1) <;> simp [h]
theorem zn0 {F:Nat} {x y:Int}:wR F x y=some (if x < y then -1 else if x > y then 1 else 0):=by
 unfold wR vQ
 by_cases h:x < y
 · simp [h]
 · by_cases h2:y < x <;> simp [h,h2]
theorem zk7 {F:Nat} {a b:Int×Int} (hF:3≤F):∃ r,vl F [a.1,a.2] [b.1,b.2]=some r∧(decide (r≥0)=!bef a b):=by
 obtain ⟨k,rfl⟩:∃ k,F=k + 3:=⟨F - 3,by omega⟩
 obtain ⟨a1,a2⟩:=a
 obtain ⟨b1,b2⟩:=b
 unfold vl
 simp only [vA,zn0,bef]
 by_cases h1:a1 < b1
 · refine ⟨-1,?_,?_⟩ <;> simp [idx,h1]
 · by_cases h2:b1 < a1
   · have e:¬ a1=b1:=by omega
     refine ⟨1,?_,?_⟩
     · simp [idx,h1,h2]
     · simp [h1,e]
   · obtain rfl:a1=b1:=by omega
     by_cases h3:a2 < b2
     · refine ⟨-1,?_,?_⟩ <;> simp [idx,h3,w1]
     · by_cases h4:b2 < a2
       · refine ⟨1,?_,?_⟩ <;> simp [idx,h3,h4,w1]
       · obtain rfl:a2=b2:=by omega
         refine ⟨0,?_,?_⟩ <;> simp [idx,w1,w2]
def okE (n:Int) (es:List (Int×Int)) (i:Nat):Bool:=
 decide (0≤(es.getD i (0,0)).1) && decide ((es.getD i (0,0)).1 < (es.getD i (0,0)).2) && decide ((es.getD i (0,0)).2 < n) && (i == 0 || bef (es.getD (i - 1) (0,0)) (es.getD i (0,0)))
def yA (g:Gr):Bool:=decide (0≤g.1) && decide (g.1≤8) && vU (okE g.1 g.2) g.2.length
theorem uH {F:Nat} {g:Gr} (hF:g.2.length < F) (h3:3≤F) (hl:Sm g.2.length):xF F g=some (yA g):=by
 unfold xF
 rw [N2,Option.bind_some]
 unfold yA
 by_cases h:0≤g.1∧g.1≤8
 · simp only [h.1,h.2,decide_true,Bool.and_self,Bool.not_true,cond_false,Bool.true_and]
   rw [Yj (L:=fun k i=>yX F g k i) (n:=g.2.length) (p:=okE g.1 g.2) (bad:=some false) (fin:=some true) ?_ ?_ F hF]
   · cases vU (okE g.1 g.2) g.2.length <;> rfl
   · intro k i hi
     simp only [yX,vC]
     rw [zI (d:=(0,0)) hi,zN hi hl]
     have hlt:decide ((i:Int) < g.2.length)=true:=by simp [hi]
     simp only [hlt,cond_true,Option.bind_some,okE]
     generalize g.2.getD i (0,0)=e
     by_cases h1:e.1 < 0
     · have:¬ 0≤e.1:=by omega
       simp [h1,this]
     · by_cases h2:e.1≥e.2
       · have:¬ e.1 < e.2:=by omega
         simp [h1,h2,this]
       · by_cases h4:e.2≥g.1
         · have:¬ e.2 < g.1:=by omega
           simp [h1,h2,h4,this]
         · have a1:0≤e.1:=by omega
           have a2:e.1 < e.2:=by omega
           have a3:e.2 < g.1:=by omega
           simp only [h1,h2,h4,a1,a2,a3,decide_true,decide_false,cond_false,Bool.and_self,Bool.true_and]
           by_cases h5:i=0
           · subst h5;simp
           · have h6:decide ((i:Int) > 0)=true:=by simp;omega
             have h7:(i == 0)=false:=by simpa using h5
             rw [h6,cond_true,zcc (by omega) hi hl,zI (d:=(0,0)) (by omega),h7]
             obtain ⟨r,hr,hr2⟩:=zk7 (F:=F) (a:=g.2.getD (i - 1) (0,0)) (b:=e) h3
             simp only [Option.bind_some,hr,hr2,Bool.false_or]
             cases bef (g.2.getD (i - 1) (0,0)) e <;> rfl
   · intro k;simp [yX]
 · have:(decide (0≤g.1) && decide (g.1≤8))=false:=by
    rw [Bool.eq_false_iff];intro h';apply h;simpa using h'
   simp [this]
theorem v7 {F:Nat} {g:Gr} (hF:g.2.length < F) (hl:Sm g.2.length):uK F g=some (yA g):=by
 unfold uK
 let p:Nat→Bool:=fun i=>decide (0≤(g.2.getD i (0,0)).1) && decide ((g.2.getD i (0,0)).1≤w64 (g.1 - 1)) && (decide (0≤(g.2.getD i (0,0)).2) && decide ((g.2.getD i (0,0)).2≤w64 (g.1 - 1))) && decide ((g.2.getD i (0,0)).1 < (g.2.getD i (0,0)).2) && (i == 0 || bef (g.2.getD (i - 1) (0,0)) (g.2.getD i (0,0)))
 rw [Yj (L:=fun k i=>xi F g k i) (n:=g.2.length) (p:=p) (bad:=some false) (fin:=some (decide (0≤g.1) && decide (g.1≤8))) ?_ ?_ F hF]
 · unfold yA
   by_cases h:0≤g.1∧g.1≤8
   · have hw:w64 (g.1 - 1)=g.1 - 1:=yF (by omega) (by omega)
     rw [MA (q:=okE g.1 g.2)]
     · cases vU (okE g.1 g.2) g.2.length <;> simp [h.1,h.2]
     · intro i _
       simp only [p,okE,hw]
       generalize g.2.getD i (0,0)=e
       generalize (i == 0 || bef (g.2.getD (i - 1) (0,0)) e)=b
       rw [Bool.eq_iff_iff]
       simp only [Bool.and_eq_true,decide_eq_true_eq]
       constructor
       · rintro ⟨⟨⟨⟨a1,a2⟩,a3,a4⟩,a5⟩,a6⟩;exact ⟨⟨⟨a1,a5⟩,by omega⟩,a6⟩
       · rintro ⟨⟨⟨a1,a5⟩,a4⟩,a6⟩;exact ⟨⟨⟨⟨a1,by omega⟩,by omega,by omega⟩,a5⟩,a6⟩
   · have:(decide (0≤g.1) && decide (g.1≤8))=false:=by
      rw [Bool.eq_false_iff];intro h';apply h;simpa using h'
     rw [this];cases vU p g.2.length <;> rfl
 · intro k i hi
   simp only [xi,ul,zaA,Option.bind_some]
   rw [zI (d:=(0,0)) hi,zN hi hl]
   have hlt:decide ((i:Int) < g.2.length)=true:=by simp [hi]
   simp only [hlt,cond_true,Option.bind_some,p]
   generalize g.2.getD i (0,0)=e
   generalize (decide (0≤e.1) && decide (e.1≤w64 (g.1 - 1)))=b1
   generalize (decide (0≤e.2) && decide (e.2≤w64 (g.1 - 1)))=b2
   cases b1
   · rfl
   cases b2
   · rfl
   by_cases h2:e.1≥e.2
   · have:¬ e.1 < e.2:=by omega
     simp [h2,this]
   · have:e.1 < e.2:=by omega
     simp only [Bool.not_true,cond_false,h2,this,decide_true,decide_false,Bool.and_self,Bool.true_and]
     by_cases h5:i=0
     · subst h5;simp
     · have h6:decide ((i:Int) > 0)=true:=by simp;omega
       have h7:(i == 0)=false:=by simpa using h5
       rw [h6,cond_true,zcc (by omega) hi hl,zI (d:=(0,0)) (by omega),h7]
       simp only [Option.bind_some,UO,Bool.false_or]
       cases bef (g.2.getD (i - 1) (0,0)) e <;> rfl
 · intro k;simp [xi,zaA]
theorem zC {g:Gr} (h:yA g=true):0≤g.1∧g.1≤8:=by
 unfold yA at h
 simp only [Bool.and_eq_true,decide_eq_true_eq] at h
 exact h.1
theorem YV {F:Nat} {l:List Int} {n:Int} (hF:l.length < F) (hl:Sm l.length):vz F l n=some (decide (n∈l)):=by
 unfold vz
 rw [Yj (L:=fun k i=>ZT F l n k i) (n:=l.length) (p:=fun i=>!(l.getD i 0 == n)) (bad:=some true) (fin:=some false) ?_ ?_ F hF]
 · by_cases h:n∈l
   · have:vU (fun i=>!(l.getD i 0 == n)) l.length=false:=by
      rw [Bool.eq_false_iff];intro h'
      obtain ⟨i,hi,e⟩:=List.mem_iff_getElem.1 h
      have:=yE.1 h' i hi
      simp [List.getD_eq_getElem?_getD,hi,e] at this
     rw [this];simp [h]
   · have:vU (fun i=>!(l.getD i 0 == n)) l.length=true:=by
      rw [yE];intro i hi
      simp only [List.getD_eq_getElem?_getD,List.getElem?_eq_getElem hi,Option.getD_some,Bool.not_eq_true',beq_eq_false_iff_ne]
      intro e;exact h (e ▸ List.getElem_mem hi)
     rw [this];simp [h]
 · intro k i hi
   simp only [ZT]
   rw [zI (d:=0) hi,zN hi hl]
   have hlt:decide ((i:Int) < l.length)=true:=by simp [hi]
   simp only [hlt,cond_true,Option.bind_some]
   cases (l.getD i 0 == n) <;> rfl
 · intro k;simp [ZT]
def yV (n:Int) (l:List Int):Bool:=decide ((l.length:Int)=n) && vU (fun j=>decide ((j:Int)∈l)) n.toNat
theorem Jh {F:Nat} {g:Gr} {l:List Int} (h0:0≤g.1) (h8:g.1≤8) (hF:l.length < F) (h9:9≤F) (hl:Sm l.length):XG F g l=some (yV g.1 l):=by
 unfold XG
 obtain ⟨n,hn⟩:∃ n:Nat,g.1=n:=⟨g.1.toNat,by omega⟩
 rw [Yj (L:=fun k i=>uY F l g k i) (n:=n) (p:=fun j=>decide ((j:Int)∈l)) (bad:=some false) (fin:=some ((l.length:Int) == n)) ?_ ?_ F (by omega)]
 · unfold yV
   rw [hn]
   simp only [Int.toNat_natCast]
   cases vU (fun j=>decide ((j:Int)∈l)) n <;> simp
   rfl
 · intro k i hi
   simp only [uY,YV hF hl,hn]
   rw [zN hi (by unfold Sm;omega)]
   have hlt:decide ((i:Int) < (n:Int))=true:=by simp [hi]
   simp only [hlt,cond_true,Option.bind_some]
   cases decide ((i:Int)∈l) <;> rfl
 · intro k;simp [uY,hn]
theorem zbe {F:Nat} {l:List Int} {lo hi:Int} (hF:l.length < F) (hl:Sm l.length):Zh F l lo hi=some (l.all fun x=>decide (lo≤x) && decide (x≤hi)):=by
 unfold Zh
 rw [Yj (L:=fun k i=>vo F lo hi l k i) (n:=l.length) (p:=fun i=>decide (lo≤l.getD i 0) && decide (l.getD i 0≤hi)) (bad:=some false) (fin:=some true) ?_ ?_ F hF]
 · have:vU (fun i=>decide (lo≤l.getD i 0) && decide (l.getD i 0≤hi)) l.length=l.all fun x=>decide (lo≤x) && decide (x≤hi):=by
    rw [Bool.eq_iff_iff,yE,List.all_eq_true]
    constructor
    · intro h x hx
      obtain ⟨i,hi,rfl⟩:=List.mem_iff_getElem.1 hx
      have:=h i hi
      simpa [List.getD_eq_getElem?_getD,hi] using this
    · intro h i hi
      simpa [List.getD_eq_getElem?_getD,hi] using h l[i] (List.getElem_mem hi)
   rw [this];cases (l.all fun x=>decide (lo≤x) && decide (x≤hi)) <;> rfl
 · intro k i hi
   simp only [vo,N2]
   rw [zI (d:=0) hi,zN hi hl]
   have hlt:decide ((i:Int) < l.length)=true:=by simp [hi]
   simp only [hlt,cond_true,Option.bind_some]
   cases (decide (lo≤l.getD i 0) && decide (l.getD i 0≤_)) <;> rfl
 · intro k;simp [vo]
theorem zfV {F:Nat} {l:List Int} (hF:l.length < F) (hl:Sm l.length) (h:∀ x∈l,0≤x∧x≤62):∃ m:Nat,XB F l=some (m:Int)∧zdA m (fun j=>decide ((j:Int)∈l)):=by
 unfold XB
 have key:∃ s:Int,(∃ m:Nat,s=(m:Int)∧m < 9223372036854775808∧∀ j,m.testBit j=decide ((j:Int)∈l.take l.length))∧uu F l F 0 0=some s:=by
  refine Exists.imp (fun s h=>⟨h.1,h.2.1⟩) (uO (L:=fun k i s=>uu F l k s i) (n:=l.length) (fun i s=>∃ m:Nat,s=(m:Int)∧m < 9223372036854775808∧∀ j,m.testBit j=decide ((j:Int)∈l.take i)) (fin:=fun s=>some s)
   (fun i s=>ior .i64 s ((2 ^ (l.getD i 0).toNat:Nat):Int)) ?_ ?_ ?_ F 0 hF ⟨0,rfl,by omega,by simp⟩)
  · rintro k i s hi ⟨m,rfl,hm1,hm2⟩
    simp only [uu]
    rw [zI (d:=0) hi,zN hi hl]
    have hlt:decide ((i:Int) < l.length)=true:=by simp [hi]
    simp only [hlt,cond_true,Option.bind_some]
    have hx:=h (l.getD i 0) (by rw [List.getD_eq_getElem?_getD,List.getElem?_eq_getElem hi];exact List.getElem_mem hi)
    obtain ⟨x,hx'⟩:∃ x:Nat,l.getD i 0=x:=⟨(l.getD i 0).toNat,by omega⟩
    rw [hx',xC (by omega)];simp
  · rintro i s hi ⟨m,rfl,hm1,hm2⟩
    have hx:=h (l.getD i 0) (by rw [List.getD_eq_getElem?_getD,List.getElem?_eq_getElem hi];exact List.getElem_mem hi)
    obtain ⟨x,hx'⟩:∃ x:Nat,l.getD i 0=x:=⟨(l.getD i 0).toNat,by omega⟩
    rw [hx',Int.toNat_natCast,Zt hm1 (uR (by omega))]
    refine ⟨_,rfl,Nat.or_lt_two_pow (n:=63) hm1 (uR (by omega)),fun j=>?_⟩
    rw [Nat.testBit_or,hm2,Nat.testBit_two_pow,List.take_add_one,List.getElem?_eq_getElem hi]
    have:l[i]=x:=by rw [← hx',List.getD_eq_getElem?_getD,List.getElem?_eq_getElem hi];rfl
    rw [Bool.eq_iff_iff]
    simp [this]
    constructor
    · rintro (h | h)
      · exact .inl h
      · exact .inr (by omega)
    · rintro (h | h)
      · exact .inl h
      · exact .inr (by omega)
  · rintro k s ⟨m,rfl,hm1,hm2⟩
    simp [uu]
 obtain ⟨s,⟨m,rfl,hm1,hm2⟩,h2⟩:=key
 exact ⟨m,h2,hm1,by simpa using hm2⟩
theorem JL {F:Nat} {g:Gr} {l:List Int} (h0:0≤g.1) (h8:g.1≤8) (hF:l.length < F) (hl:Sm l.length):uN F g l=some (yV g.1 l):=by
 unfold uN yV
 obtain ⟨n,hn⟩:∃ n:Nat,g.1=n:=⟨g.1.toNat,by omega⟩
 have hw:w64 (g.1 - 1)=g.1 - 1:=yF (by omega) (by omega)
 rw [zbe hF hl,hw,hn]
 by_cases e:l.length=n
 · have e':((l.length:Int) == (n:Int))=true:=by simp [e]
   simp only [e',cond_true,Option.bind_some,Int.toNat_natCast]
   by_cases ha:(l.all fun x=>decide (0≤x) && decide (x≤(n:Int) - 1))=true
   · rw [ha,cond_true]
     have ha':∀ x∈l,0≤x∧x≤62:=by
      intro x hx;have:=List.all_eq_true.1 ha x hx;simp at this;omega
     obtain ⟨m,hm,hmask⟩:=zfV hF hl ha'
     rw [hm,Option.bind_some,xC (by omega),Option.bind_some]
     have hw2:w64 (((2 ^ n:Nat):Int) - 1)=((2 ^ n - 1:Nat):Int):=by
      have:=uR (j:=n) (by omega)
      have:0 < 2 ^ n:=Nat.two_pow_pos n
      rw [yF (by omega) (by omega)];omega
     rw [hw2]
     congr 1
     rw [Bool.eq_iff_iff]
     have hall:=zdp (n:=n) (by omega)
     simp only [beq_iff_eq,Bool.and_eq_true,decide_eq_true_eq,yE]
     constructor
     · intro h
       have h':m=2 ^ n - 1:=by omega
       refine ⟨by omega,fun j hj=>?_⟩
       have:=hmask.2 j
       rw [h',hall.2] at this
       simpa [hj] using this.symm
     · rintro ⟨_,h⟩
       have:m=2 ^ n - 1:=by
        apply Nat.eq_of_testBit_eq
        intro j
        rw [hmask.2,hall.2]
        by_cases hj:j < n
        · simp [hj,h j hj]
        · simp only [hj,decide_false,decide_eq_false_iff_not]
          intro hm'
          have:=List.all_eq_true.1 ha _ hm'
          simp at this;omega
       rw [this]
   · rw [Bool.not_eq_true] at ha
     rw [ha,cond_false]
     congr 1
     symm
     rw [Bool.eq_false_iff];intro h
     simp only [Bool.and_eq_true,decide_eq_true_eq,yE] at h
     have:=(WA n l h.2).2 e
     have h2:(l.all fun x=>decide (0≤x) && decide (x≤(n:Int) - 1))=true:=by
      rw [List.all_eq_true];intro x hx;have:=this x hx;simp;omega
     rw [ha] at h2;cases h2
 · have e':((l.length:Int) == (n:Int))=false:=by simp;omega
   have e2:decide ((l.length:Int)=(n:Int))=false:=by simp;omega
   rw [e',e2];simp
end Go.Zq
namespace Go.Zq
theorem Wx {l:List Int} {x:Int} (h:x∈l):l.idxOf x < l.length∧l.getD (l.idxOf x) 0=x∧∀ j,j < l.idxOf x→l.getD j 0≠x:=by
 have hl:=List.idxOf_lt_length_of_mem h
 refine ⟨hl,?_,?_⟩
 · rw [List.getD_eq_getElem?_getD,List.getElem?_eq_getElem hl]
   exact List.getElem_idxOf hl
 · intro j hj e
   have hj':j < l.length:=by omega
   rw [List.getD_eq_getElem?_getD,List.getElem?_eq_getElem hj'] at e
   have:=List.not_of_lt_findIdx (p:=(· == x)) (xs:=l) (i:=j) hj
   simp at e
   simp [e] at this
theorem zcd {F:Nat} {l:List Int} {x:Int} (hF:l.length < F) (hl:Sm l.length) (h:x∈l):wG F l x=some (l.idxOf x:Int):=by
 obtain ⟨h1,h2,h3⟩:=Wx h
 unfold wG
 refine LS (L:=fun k i=>xw F l x k i) (n:=l.idxOf x) ?_ ?_ F (by omega)
 · intro k i hi
   simp only [xw]
   rw [zI (d:=0) (by omega),zN (n:=l.length) (by omega) hl]
   have hlt:decide ((i:Int) < l.length)=true:=by simp;omega
   have hne:(x == l.getD i 0)=false:=by
    rw [beq_eq_false_iff_ne];exact fun e=>h3 i hi e.symm
   simp only [hlt,cond_true,Option.bind_some,hne,cond_false]
 · intro k
   simp only [xw]
   rw [zI (d:=0) h1,h2]
   have hlt:decide ((l.idxOf x:Int) < l.length)=true:=by simp;omega
   simp [h1]
theorem L6 {F:Nat} {l:List Int} {x:Int} (hF:l.length < F) (hl:Sm l.length) (h:x∈l):Zl F l x=some (l.idxOf x:Int):=by
 obtain ⟨h1,h2,h3⟩:=Wx h
 unfold Zl
 refine LS (L:=fun k i=>ux F l x k i) (n:=l.idxOf x) ?_ ?_ F (by omega)
 · intro k i hi
   simp only [ux]
   rw [zI (d:=0) (by omega),zN (n:=l.length) (by omega) hl]
   have hne:(l.getD i 0 != x)=true:=by simpa using h3 i hi
   simp only [Option.bind_some,hne,cond_true]
 · intro k
   simp only [ux]
   rw [zI (d:=0) h1,h2]
   simp
theorem Ji {F:Nat} {a b:Int}:ua F a b=some (max a b):=by
 unfold ua
 by_cases h:a > b
 · simp [h];omega
 · simp [h];omega
def far (l:List Int) (e:Int×Int):Int:=max ((l.idxOf e.1:Int) - l.idxOf e.2) ((l.idxOf e.2:Int) - l.idxOf e.1)
def Xg (l:List Int) (es:List (Int×Int)):Int:=(List.range es.length).foldl (fun s i=>max s (far l (es.getD i (0,0)))) 0
theorem znC {n:Int} {es:List (Int×Int)} (h:vU (okE n es) es.length=true) {i:Nat} (hi:i < es.length):0≤(es.getD i (0,0)).1∧(es.getD i (0,0)).1 < (es.getD i (0,0)).2∧(es.getD i (0,0)).2 < n:=by
 have:=yE.1 h i hi
 unfold okE at this
 simp only [Bool.and_eq_true,decide_eq_true_eq] at this
 exact ⟨this.1.1.1,this.1.1.2,this.1.2⟩
theorem Zm {g:Gr} (h:yA g=true) {i:Nat} (hi:i < g.2.length):0≤(g.2.getD i (0,0)).1∧(g.2.getD i (0,0)).1 < (g.2.getD i (0,0)).2∧(g.2.getD i (0,0)).2 < g.1:=by
 unfold yA at h
 simp only [Bool.and_eq_true] at h
 exact znC h.2 hi
theorem Yf {n:Int} {l:List Int} (h:yV n l=true) {x:Int} (h0:0≤x) (hx:x < n):x∈l:=by
 unfold yV at h
 simp only [Bool.and_eq_true,yE,decide_eq_true_eq] at h
 have:=h.2 x.toNat (by omega)
 rwa [Int.toNat_of_nonneg h0] at this
theorem wC {n:Int} {l:List Int} (h:yV n l=true):(l.length:Int)=n:=by
 unfold yV at h
 simp only [Bool.and_eq_true,decide_eq_true_eq] at h
 exact h.1
theorem zh7 {F:Nat} {g:Gr} {l:List Int} (hg:yA g=true) (ho:yV g.1 l=true) (hF:l.length < F) (hG:g.2.length < F) (hl:Sm l.length) (hs:Sm g.2.length):XA F g l=some (Xg l g.2):=by
 have h8:=zC hg
 have hlen:=wC ho
 unfold XA
 obtain ⟨s,_,h2,h3⟩:∃ s:Int,True∧uo F l g F 0 0=some s∧s=Xg l g.2:=by
  refine uO (L:=fun k i s=>uo F l g k s i) (n:=g.2.length) (fun _ _=>True) (fin:=fun s=>some s) (fun i s=>max s (far l (g.2.getD i (0,0)))) ?_ (fun _ _ _ _=>trivial) ?_ F 0 hG trivial
  · intro k i s hi _
    obtain ⟨e1,e2,e3⟩:=Zm hg hi
    simp only [uo]
    rw [zI (d:=(0,0)) hi,zN hi hs]
    have hlt:decide ((i:Int) < g.2.length)=true:=by simp [hi]
    have m1:(g.2.getD i (0,0)).1∈l:=Yf ho e1 (by omega)
    have m2:(g.2.getD i (0,0)).2∈l:=Yf ho (by omega) e3
    have i1:=(Wx m1).1
    have i2:=(Wx m2).1
    simp only [hlt,cond_true,Option.bind_some,L6 hF hl m1,L6 hF hl m2,Ji]
    rw [yF (by omega) (by omega),yF (by omega) (by omega)]
    rfl
  · intro k s _;simp [uo]
 rw [h2,h3]
theorem zjF {F:Nat} {g:Gr} {l:List Int} (hg:yA g=true) (ho:yV g.1 l=true) (hF:l.length < F) (hG:g.2.length < F) (hl:Sm l.length) (hs:Sm g.2.length):xy F l g F 0 0=some (Xg l g.2,true):=by
 have h8:=zC hg
 have hlen:=wC ho
 obtain ⟨s,_,h2,h3⟩:∃ s:Int,True∧xy F l g F 0 0=some (s,true)∧s=Xg l g.2:=by
  refine uO (L:=fun k i s=>xy F l g k s i) (n:=g.2.length) (fun _ _=>True) (fin:=fun s=>some (s,true)) (fun i s=>max s (far l (g.2.getD i (0,0)))) ?_ (fun _ _ _ _=>trivial) ?_ F 0 hG trivial
  · intro k i s hi _
    obtain ⟨e1,e2,e3⟩:=Zm hg hi
    simp only [xy]
    rw [zI (d:=(0,0)) hi,zN hi hs]
    have hlt:decide ((i:Int) < g.2.length)=true:=by simp [hi]
    have m1:(g.2.getD i (0,0)).1∈l:=Yf ho e1 (by omega)
    have m2:(g.2.getD i (0,0)).2∈l:=Yf ho (by omega) e3
    have i1:=(Wx m1).1
    have i2:=(Wx m2).1
    simp only [hlt,cond_true,Option.bind_some,zcd hF hl m1,zcd hF hl m2]
    rw [yF (x:=(l.idxOf (g.2.getD i (0,0)).1:Int) - (l.idxOf (g.2.getD i (0,0)).2:Int)) (by omega) (by omega),yF (by omega) (by omega)]
    congr 1
    unfold far
    generalize ((l.idxOf (g.2.getD i (0,0)).1:Nat):Int)=a
    generalize ((l.idxOf (g.2.getD i (0,0)).2:Nat):Int)=b
    split <;> split <;> omega
  · intro k s _;simp [xy]
 rw [h2,h3]
theorem Lw {F:Nat} {g:Gr} {l:List Int} (hF:l.length < F) (hG:g.2.length < F) (h9:9≤F) (hl:Sm l.length) (hs:Sm g.2.length) :
    vO F g l=some (bif yA g && yV g.1 l then (Xg l g.2,true) else (0,false)):=by
 unfold vO vT
 rw [v7 hG hs,Option.bind_some]
 cases h:yA g with
 | false=>rfl
 | true=>
   have:=zC h
   rw [Jh this.1 this.2 hF h9 hl]
   cases ho:yV g.1 l with
   | false=>rfl
   | true=>simp [zh7 h ho hF hG hl hs]
theorem Ut {F:Nat} {g:Gr} {l:List Int} (hF:l.length < F) (hG:g.2.length < F) (h9:9≤F) (hl:Sm l.length) (hs:Sm g.2.length) :
    wF F g l=some (bif yA g && yV g.1 l then (Xg l g.2,true) else (0,false)):=by
 unfold wF
 rw [uH hG (by omega) hs,Option.bind_some]
 cases h:yA g with
 | false=>rfl
 | true=>
   have:=zC h
   rw [JL this.1 this.2 hF hl]
   cases ho:yV g.1 l with
   | false=>rfl
   | true=>simp [uf,zjF h ho hF hG hl hs]
theorem W1 {α:Type} {xs:List α} {i j:Nat} {a d:α} (hi:i < xs.length):(xs.set i a).getD j d=if i=j then a else xs.getD j d:=by
 rw [List.getD_eq_getElem?_getD,List.getElem?_set,List.getD_eq_getElem?_getD]
 split
 · rename_i e;subst e;simp [hi]
 · rfl
end Go.Zq
namespace Go.Zq
def par (ps:List Int) (x:Int):Int:=ps.getD x.toNat (-1)
def zlN (ps:List Int):Nat→Int→List Int
 | 0,_=>[]
 | d + 1,x=>if 0≤par ps x then par ps x :: zlN ps d (par ps x) else []
def zwu (n:Nat) (ps:List Int) (x:Int):Bool:=decide ((zlN ps (n + 1) x).length < n)
end Go.Zq
namespace Go.Zq
end Go.Zq
namespace Go.Zq
def mkm (p:Nat→Bool):Nat→Nat
 | 0=>0
 | n + 1=>mkm p n ||| (if p n then 2 ^ n else 0)
theorem yN {p:Nat→Bool}:∀ (n j:Nat),(mkm p n).testBit j=(decide (j < n) && p j)
 | 0,j=>by simp [mkm]
 | n + 1,j=>by
   rw [mkm,Nat.testBit_or,yN n j]
   by_cases hp:p n=true
   · rw [if_pos hp,Nat.testBit_two_pow]
     by_cases e:n=j
     · subst e;simp [hp]
     · have h1:decide (n=j)=false:=by simpa using e
       have h2:decide (j < n + 1)=decide (j < n):=by
        rw [Bool.eq_iff_iff];simp;omega
       rw [h1,h2];simp
   · rw [if_neg hp,Nat.zero_testBit]
     rw [Bool.not_eq_true] at hp
     by_cases e:n=j
     · subst e;simp [hp]
     · have h2:decide (j < n + 1)=decide (j < n):=by
        rw [Bool.eq_iff_iff];simp;omega
       rw [h2];simp
theorem KO {p:Nat→Bool} {n:Nat}:mkm p n < 2 ^ n:=by
 apply Nat.lt_pow_two_of_testBit
 intro j hj
 rw [yN]
 have:decide (j < n)=false:=by simp;omega
 rw [this];rfl
theorem uh {p:Nat→Bool} {n:Nat} (h:n≤62):mkm p n < 9223372036854775808:=Nat.lt_trans KO (uR h)
theorem YN {p q:Nat→Bool} {n:Nat} (h:∀ j,j < n→p j=q j):mkm p n=mkm q n:=by
 apply Nat.eq_of_testBit_eq;intro j
 rw [yN,yN]
 by_cases hj:j < n
 · rw [h j hj]
 · simp [hj]
theorem YE {p:Nat→Bool} {n m:Nat} (hm:∀ j,m.testBit j=(decide (j < n) && p j)):m=mkm p n:=by
 apply Nat.eq_of_testBit_eq;intro j;rw [hm,yN]
def wD (g:Gr) (a b:Nat) (i:Nat):Bool:=((g.2.getD i (0,0)).1 == (a:Int) && (g.2.getD i (0,0)).2 == (b:Int)) || ((g.2.getD i (0,0)).1 == (b:Int) && (g.2.getD i (0,0)).2 == (a:Int))
def adj (g:Gr) (a b:Nat):Bool:=wd (wD g a b) g.2.length
theorem zc7 {g:Gr} {a b i:Nat}:wD g a b i=wD g b a i:=by unfold wD;rw [Bool.or_comm]
theorem zjt {g:Gr} {a b:Nat}:adj g a b=adj g b a:=M2 fun _ _=>zc7
theorem L1 {g:Gr} (hg:yA g=true) {a b:Nat} (h:adj g a b=true):(a:Int) < g.1∧(b:Int) < g.1∧a≠b:=by
 unfold adj at h
 obtain ⟨i,hi,h⟩:=wP.1 h
 obtain ⟨e1,e2,e3⟩:=Zm hg hi
 unfold wD at h
 simp only [Bool.or_eq_true,Bool.and_eq_true,beq_iff_eq] at h
 omega
theorem Kb {F:Nat} {g:Gr} {a b:Nat} (hF:g.2.length < F) (hs:Sm g.2.length):uZ F g (a:Int) (b:Int)=some (adj g a b):=by
 unfold uZ
 rw [Yj (L:=fun k i=>xk F (a:Int) (b:Int) g k i) (n:=g.2.length) (p:=fun i=>!wD g a b i) (bad:=some true) (fin:=some false) ?_ ?_ F hF]
 · unfold adj;rw [LT];cases vU (fun i=>!wD g a b i) g.2.length <;> rfl
 · intro k i hi
   simp only [xk,ut]
   rw [zI (d:=(0,0)) hi,zN hi hs]
   have hlt:decide ((i:Int) < g.2.length)=true:=by simp [hi]
   rw [hlt,cond_true,Option.bind_some]
   unfold wD
   generalize g.2.getD i (0,0)=e
   generalize (e.1 == (a:Int))=b1
   generalize (e.2 == (b:Int))=b2
   generalize (e.1 == (b:Int))=b3
   generalize (e.2 == (a:Int))=b4
   cases b1 <;> cases b2 <;> cases b3 <;> cases b4 <;> rfl
 · intro k;simp [xk]
def zW (g:Gr):List Int:=(List.range g.1.toNat).map fun x=>((mkm (adj g x) g.1.toNat:Nat):Int)
theorem wo {g:Gr}:(zW g).length=g.1.toNat:=by simp [zW]
theorem WP {g:Gr} {x:Nat} (h:x < g.1.toNat):(zW g).getD x 0=((mkm (adj g x) g.1.toNat:Nat):Int):=by
 simp [zW,List.getD_eq_getElem?_getD,h]
theorem XD {F:Nat} {g:Gr} (hg:yA g=true) (hF:g.2.length < F) (hs:Sm g.2.length):vw F g=some ⟨zW g⟩:=by
 have h8:=zC hg
 obtain ⟨n,hn⟩:∃ n:Nat,g.1=n:=⟨g.1.toNat,by omega⟩
 unfold vw
 rw [hn,LH (by omega),Option.bind_some]
 refine wh (L:=fun k i s=>ZR F g k s i) (n:=g.2.length) (fun i w=>w.length=n∧∀ x,x < n→∃ m:Nat,w.getD x 0=(m:Int)∧zdA m (fun j=>wd (wD g x j) i)) ?_ ?_ F _ hF ?_
 · intro k i w hi ⟨hl,hw⟩
   obtain ⟨e1,e2,e3⟩:=Zm hg hi
   simp only [ZR]
   rw [zI (d:=(0,0)) hi,zN hi hs]
   have hlt:decide ((i:Int) < g.2.length)=true:=by simp [hi]
   rw [hlt,cond_true,Option.bind_some]
   obtain ⟨a,ha⟩:∃ a:Nat,(g.2.getD i (0,0)).1=a:=⟨(g.2.getD i (0,0)).1.toNat,by omega⟩
   obtain ⟨b,hb⟩:∃ b:Nat,(g.2.getD i (0,0)).2=b:=⟨(g.2.getD i (0,0)).2.toNat,by omega⟩
   have hj:∀ x j,wD g x j i=((x == a && j == b) || (x == b && j == a)):=by
    intro x j
    unfold wD
    rw [ha,hb,Bool.eq_iff_iff]
    simp
    omega
   rw [ha] at e1 e2 ⊢
   rw [hb] at e2 e3 ⊢
   obtain ⟨ma,hma,hma2⟩:=hw a (by omega)
   obtain ⟨mb,hmb,hmb2⟩:=hw b (by omega)
   have ia:idx w (a:Int)=some (ma:Int):=by rw [zI (d:=0) (by omega),hma]
   rw [ia,Option.bind_some,xC (by omega),Option.bind_some,Option.bind_some,Zt hma2.1 (uR (by omega)),Int.toNat_natCast]
   have ib:idx (w.set a ((ma ||| 2 ^ b:Nat):Int)) (b:Int)=some (mb:Int):=by
    rw [zI (d:=0) (by simp;omega),W1 (by omega),if_neg (by omega),hmb]
   rw [ib,Option.bind_some,xC (by omega),Option.bind_some,Option.bind_some,Zt hmb2.1 (uR (by omega)),Int.toNat_natCast]
   refine ⟨_,⟨by simp [hl],?_⟩,rfl⟩
   intro x hx
   rw [W1 (by simp;omega),W1 (by omega)]
   by_cases exb:b=x
   · subst exb
     rw [if_pos rfl]
     refine ⟨_,rfl,Nat.or_lt_two_pow (n:=63) hmb2.1 (uR (by omega)),fun j=>?_⟩
     rw [Nat.testBit_or,hmb2.2,Nat.testBit_two_pow]
     show (wd (wD g b j) i || decide (a=j))=(wd (wD g b j) i || wD g b j i)
     rw [hj]
     congr 1
     rw [Bool.eq_iff_iff];simp;omega
   · rw [if_neg exb]
     by_cases exa:a=x
     · subst exa
       rw [if_pos rfl]
       refine ⟨_,rfl,Nat.or_lt_two_pow (n:=63) hma2.1 (uR (by omega)),fun j=>?_⟩
       rw [Nat.testBit_or,hma2.2,Nat.testBit_two_pow]
       show (wd (wD g a j) i || decide (b=j))=(wd (wD g a j) i || wD g a j i)
       rw [hj]
       congr 1
       rw [Bool.eq_iff_iff];simp;omega
     · rw [if_neg exa]
       obtain ⟨m,h1,h2⟩:=hw x hx
       refine ⟨m,h1,h2.1,fun j=>?_⟩
       rw [h2.2]
       show wd (wD g x j) i=(wd (wD g x j) i || wD g x j i)
       have:wD g x j i=false:=by
        rw [hj,Bool.eq_false_iff];intro h;simp at h;omega
       rw [this,Bool.or_false]
 · intro k w ⟨hl,hw⟩
   simp only [ZR]
   have hlt:decide ((g.2.length:Int) < g.2.length)=false:=by simp
   rw [hlt,cond_false]
   have:w=zW g:=by
    apply List.ext_getElem (by rw [hl,wo,hn];simp)
    intro x h1 h2
    obtain ⟨m,h3,h4⟩:=hw x (by omega)
    have h5:=WP (g:=g) (x:=x) (by rw [wo] at h2;exact h2)
    rw [List.getD_eq_getElem?_getD,List.getElem?_eq_getElem h1] at h3
    rw [List.getD_eq_getElem?_getD,List.getElem?_eq_getElem h2] at h5
    simp at h3 h5
    rw [h3,h5]
    congr 1
    refine YE fun j=>?_
    rw [h4.2,hn,Int.toNat_natCast]
    by_cases hj:j < n
    · simp [hj,adj]
    · have:adj g x j=false:=by
       rw [Bool.eq_false_iff];intro h;have:=L1 hg h;omega
      simp only [hj,decide_false,Bool.false_and];exact this
   rw [this]
 · refine ⟨by simp,fun x hx=>⟨0,by simp [List.getD_eq_getElem?_getD,hx],by omega,fun j=>by simp [wd]⟩⟩
def UN (g:Gr) (p:Nat→Bool) (j:Nat):Bool:=p j || wd (fun x=>p x && adj g x j) g.1.toNat
theorem zgA {F:Nat} {g:Gr} {p:Nat→Bool} (hg:yA g=true) (hF:9≤F) :
    uv F ⟨zW g⟩ ((mkm p g.1.toNat:Nat):Int)=some ((mkm (UN g p) g.1.toNat:Nat):Int):=by
 have h8:=zC hg
 obtain ⟨n,hn⟩:∃ n:Nat,g.1=n:=⟨g.1.toNat,by omega⟩
 unfold uv
 refine wh (L:=fun k i s=>xv F ((mkm p g.1.toNat:Nat):Int) ⟨zW g⟩ k s i) (n:=n) (fun i s=>s=((mkm (fun j=>p j || wd (fun x=>p x && adj g x j) i) n:Nat):Int)) ?_ ?_ F _ (by omega) ?_
 · intro k i s hi hs
   subst hs
   simp only [xv,uM]
   have hnn:g.1.toNat=n:=by omega
   have hlt:decide ((i:Int) < ((zW g).length:Int))=true:=by rw [wo];simp;omega
   rw [hlt,cond_true,zI (d:=0) (by rw [wo];omega),Option.bind_some,WP (by omega),hnn]
   obtain ⟨q,hq,hq1,_⟩:=U0 (m:=mkm p n) (j:=i) (uh (by omega)) (by omega)
   rw [hq,Option.bind_some,hq1,yN,zN hi (by unfold Sm;omega)]
   have hd:decide (i < n)=true:=by simp [hi]
   rw [hd,Bool.true_and]
   cases hp:p i with
   | true=>
     rw [cond_true,Zt (uh (by omega)) (uh (by omega))]
     refine ⟨_,?_,rfl⟩
     congr 1
     refine YE fun j=>?_
     rw [Nat.testBit_or,yN,yN]
     simp only [wd,hp,Bool.true_and]
     cases decide (j < n) <;> simp [Bool.or_assoc]
   | false=>
     rw [cond_false]
     refine ⟨_,?_,rfl⟩
     congr 1
     refine YN fun j _=>?_
     simp [wd,hp]
 · intro k s hs
   subst hs
   simp only [xv]
   have hlt:decide ((n:Int) < ((zW g).length:Int))=false:=by rw [wo];simp;omega
   rw [hlt,cond_false]
   have hnn:g.1.toNat=n:=by omega
   unfold UN
   rw [hnn]
 · have hnn:g.1.toNat=n:=by omega
   rw [hnn]
   congr 1
   refine YN fun j _=>?_
   simp [wd]
def y9 (g:Gr) (x:Nat):Nat→Nat→Bool
 | 0=>fun j=>j == x
 | r + 1=>UN g (y9 g x r)
theorem zdS {g:Gr} {p q:Nat→Bool} (h:∀ j,j < g.1.toNat→p j=q j):∀ j,j < g.1.toNat→UN g p j=UN g q j:=by
 intro j hj
 unfold UN
 rw [h j hj]
 congr 1
 exact M2 fun x hx=>by rw [h x hx]
theorem NI {g:Gr} {x r:Nat} (h:∀ j,j < g.1.toNat→y9 g x (r + 1) j=y9 g x r j):∀ t,∀ j,j < g.1.toNat→y9 g x (r + t) j=y9 g x r j
 | 0=>fun _ _=>rfl
 | t + 1=>fun j hj=>by
   have ih:=NI h t
   show UN g (y9 g x (r + t)) j=_
   rw [zdS ih j hj]
   exact h j hj
theorem zkG {F:Nat} {g:Gr} {x r:Nat} (hg:yA g=true) (hF:r + 9≤F) (hx:x < g.1.toNat) (hr:r≤62):ZX F ⟨zW g⟩ (x:Int) (r:Int)=some ((mkm (y9 g x r) g.1.toNat:Nat):Int):=by
 have h8:=zC hg
 unfold ZX
 rw [xC (by omega),Option.bind_some]
 have h0:((2 ^ x:Nat):Int)=((mkm (y9 g x 0) g.1.toNat:Nat):Int):=by
  congr 1
  refine YE fun j=>?_
  rw [Nat.testBit_two_pow]
  show decide (x=j)=(decide (j < g.1.toNat) && (j == x))
  rw [Bool.eq_iff_iff];simp;omega
 rw [h0]
 have key:∀ d k t,t + d=r→d < k→vJ F ⟨zW g⟩ k (d:Int) ((mkm (y9 g x t) g.1.toNat:Nat):Int)=some ((mkm (y9 g x r) g.1.toNat:Nat):Int):=by
  intro d
  induction d with
  | zero=>
    intro k t ht hk
    obtain ⟨k,rfl⟩:∃ k',k=k' + 1:=⟨k - 1,by omega⟩
    obtain rfl:t=r:=by omega
    simp [vJ]
  | succ d ih=>
    intro k t ht hk
    obtain ⟨k,rfl⟩:∃ k',k=k' + 1:=⟨k - 1,by omega⟩
    simp only [vJ]
    have hlt:decide (((d + 1:Nat):Int) > 0)=true:=decide_eq_true (by omega)
    rw [hlt,cond_true,zgA hg (by omega),Option.bind_some]
    by_cases e:mkm (UN g (y9 g x t)) g.1.toNat=mkm (y9 g x t) g.1.toNat
    · have:(((mkm (UN g (y9 g x t)) g.1.toNat:Nat):Int) == ((mkm (y9 g x t) g.1.toNat:Nat):Int))=true:=by rw [e];simp
      rw [this,cond_true]
      congr 2
      refine YN fun j hj=>?_
      have hst:∀ j,j < g.1.toNat→y9 g x (t + 1) j=y9 g x t j:=by
       intro j hj
       have h1:=yN (p:=UN g (y9 g x t)) g.1.toNat j
       have h2:=yN (p:=y9 g x t) g.1.toNat j
       rw [e,h2] at h1
       have hd:decide (j < g.1.toNat)=true:=by simp [hj]
       rw [hd,Bool.true_and,Bool.true_and] at h1
       exact h1.symm
      have:=NI hst (r - t) j hj
      rw [show t + (r - t)=r by omega] at this
      exact this.symm
    · have:(((mkm (UN g (y9 g x t)) g.1.toNat:Nat):Int) == ((mkm (y9 g x t) g.1.toNat:Nat):Int))=false:=by
       rw [beq_eq_false_iff_ne];intro h;exact e (by exact_mod_cast h)
      rw [this,cond_false]
      have hw:w64 (((d + 1:Nat):Int) - 1)=(d:Int):=by rw [yF (by omega) (by omega)];omega
      rw [hw]
      exact ih k (t + 1) (by omega) (by omega)
 exact key r F 0 (by omega) (by omega)
def yy (p:Nat→Bool) (n:Nat):Nat:=(List.range n).countP p
theorem Z1 {p q:Nat→Bool} {n:Nat} (h:∀ j,j < n→p j=q j):yy p n=yy q n:=by
 unfold yy
 apply List.countP_congr
 intro x hx
 rw [h x (by simpa using hx)]
def zk4 (m:Nat):Nat:=yy m.testBit 8
theorem ziL:∀ m:Nat,m < 256→we 0 (Kd.mk (IntKind.u64.wrap (m:Int)):Kd .u64)=some (zk4 m:Int):=by decide +kernel
theorem zae {F m:Nat} (h:m < 256):we F (Kd.mk (IntKind.u64.wrap (m:Int)):Kd .u64)=some (zk4 m:Int):=ziL m h
theorem MI {p:Nat→Bool} {n:Nat} (hn:n≤8):zk4 (mkm p n)=yy p n:=by
 unfold zk4
 have h1:yy (mkm p n).testBit 8=yy (fun j=>decide (j < n) && p j) 8:=Z1 fun j _=>yN n j
 rw [h1]
 unfold yy
 have:List.range 8=List.range n++(List.range (8 - n)).map (n + ·):=by
  have:=@List.range_add n (8 - n)
  rwa [show n + (8 - n)=8 by omega] at this
 rw [this,List.countP_append]
 have h2:((List.range (8 - n)).map (n + ·)).countP (fun j=>decide (j < n) && p j)=0:=by
  rw [List.countP_eq_zero]
  intro x hx
  simp at hx
  obtain ⟨y,_,rfl⟩:=hx
  have:¬ n + y < n:=by omega
  simp only [this,decide_false,Bool.false_and,Bool.false_eq_true,not_false_eq_true]
 rw [h2,Nat.add_zero]
 apply List.countP_congr
 intro x hx
 simp at hx
 simp [hx]
theorem zaz {p:Nat→Bool} {n:Nat} (hn:n≤8):mkm p n < 256:=by
 have:=KO (p:=p) (n:=n)
 have:=Nat.pow_le_pow_right (n:=2) (by decide) hn
 omega
end Go.Zq
namespace Go.Zq
theorem Kx {g:Gr} {x t j:Nat} (h:y9 g x t j=true):∀ r,t≤r→y9 g x r j=true:=by
 intro r hr
 induction r with
 | zero=>obtain rfl:t=0:=by omega
         exact h
 | succ r ih=>
   by_cases e:t=r + 1
   · subst e;exact h
   · show UN g (y9 g x r) j=true
     unfold UN;rw [ih (by omega)];rfl
theorem Qi {g:Gr} {x t y j:Nat} (h:y9 g x t y=true) (hy:y < g.1.toNat) (ha:adj g y j=true):y9 g x (t + 1) j=true:=by
 show UN g (y9 g x t) j=true
 unfold UN
 rw [Bool.or_eq_true,wP]
 exact .inr ⟨y,hy,by rw [h,ha];rfl⟩
theorem Ny {g:Gr} {x t j:Nat} (h:y9 g x (t + 1) j=true):y9 g x t j=true∨∃ y,y < g.1.toNat∧y9 g x t y=true∧adj g y j=true:=by
 have h:UN g (y9 g x t) j=true:=h
 unfold UN at h
 rw [Bool.or_eq_true,wP] at h
 rcases h with h | ⟨y,h1,h2⟩
 · exact .inl h
 · rw [Bool.and_eq_true] at h2;exact .inr ⟨y,h1,h2.1,h2.2⟩
def Nv (g:Gr) (x d:Nat) (row:List Int):Prop:=
 row.length=g.1.toNat∧∀ v,v < g.1.toNat→(row.getD v 0=-1∨(0≤row.getD v 0∧row.getD v 0≤d))∧∀ t:Nat,t≤d→(decide (0≤row.getD v 0) && decide (row.getD v 0≤t))=y9 g x t v
def Mb (g:Gr) (x d Y Z:Nat) (row:List Int):Prop:=
 row.length=g.1.toNat∧∀ v,v < g.1.toNat→(row.getD v 0=-1∨(0≤row.getD v 0∧row.getD v 0≤d + 1))∧(∀ t:Nat,t≤d→(decide (0≤row.getD v 0) && decide (row.getD v 0≤t))=y9 g x t v) ∧
  (row.getD v 0=(d:Int) + 1↔y9 g x d v=false∧∃ y,y < g.1.toNat∧(y < Y∨(y=Y∧v < Z))∧(y9 g x d y=true∧∀ t,t < d→y9 g x t y=false)∧adj g y v=true)
theorem zdO {g:Gr} {x d Y Z v:Nat} {row:List Int} (h:Mb g x d Y Z row) (hv:v < g.1.toNat):row.getD v 0=(d:Int)↔(y9 g x d v=true∧∀ t,t < d→y9 g x t v=false):=by
 obtain ⟨h1,h2,h3⟩:=h.2 v hv
 constructor
 · intro e
   refine ⟨?_,fun t ht=>?_⟩
   · rw [← h2 d (Nat.le_refl _),e];simp
   · rw [← h2 t (by omega),e];simp;omega
 · rintro ⟨a,b⟩
   have ha:=h2 d (Nat.le_refl _)
   rw [a] at ha
   simp [-List.getD_eq_getElem?_getD] at ha
   by_cases hd:d=0
   · omega
   · have hb:=h2 (d - 1) (by omega)
     rw [b (d - 1) (by omega)] at hb
     simp [-List.getD_eq_getElem?_getD] at hb
     have:=hb ha.1
     omega
theorem zgn {g:Gr} {x d Y Z:Nat} {row:List Int} (h:Mb g x d Y Z row) (hY:Y < g.1.toNat) (hZ:Z < g.1.toNat) :
    Mb g x d Y (Z + 1) (bif (row.getD Y 0 == (d:Int)) && (decide (row.getD Z 0 < 0) && adj g Y Z) then row.set Z ((d:Int) + 1) else row):=by
 have hx:=zdO h hY
 obtain ⟨z1,z2,z3⟩:=h.2 Z hZ
 cases hc:((row.getD Y 0 == (d:Int)) && (decide (row.getD Z 0 < 0) && adj g Y Z)) with
 | true=>
   simp only [Bool.and_eq_true,beq_iff_eq,decide_eq_true_eq] at hc
   obtain ⟨c1,c2,c3⟩:=hc
   have hzb:y9 g x d Z=false:=by
    rw [← z2 d (Nat.le_refl _)]
    have:decide (0≤row.getD Z 0)=false:=by simp [-List.getD_eq_getElem?_getD];omega
    rw [this];rfl
   rw [cond_true]
   refine ⟨by simp [h.1],fun v hv=>?_⟩
   rw [W1 (by rw [h.1];exact hZ)]
   by_cases e:Z=v
   · subst e
     rw [if_pos rfl]
     refine ⟨.inr ⟨by omega,by omega⟩,fun t ht=>?_,?_⟩
     · have:y9 g x t Z=false:=by
        rw [Bool.eq_false_iff];intro h';have:=Kx h' d ht;rw [hzb] at this;cases this
       rw [this]
       have:decide ((d:Int) + 1≤(t:Int))=false:=by simp [-List.getD_eq_getElem?_getD];omega
       rw [this,Bool.and_false]
     · exact ⟨fun _=>⟨hzb,Y,hY,.inr ⟨rfl,by omega⟩,hx.1 c1,c3⟩,fun _=>rfl⟩
   · rw [if_neg e]
     obtain ⟨v1,v2,v3⟩:=h.2 v hv
     refine ⟨v1,v2,v3.trans ?_⟩
     constructor
     · rintro ⟨a,y,b,c,dd⟩;exact ⟨a,y,b,by omega,dd⟩
     · rintro ⟨a,y,b,c,dd⟩;exact ⟨a,y,b,by omega,dd⟩
 | false=>
   rw [cond_false]
   refine ⟨h.1,fun v hv=>?_⟩
   obtain ⟨v1,v2,v3⟩:=h.2 v hv
   refine ⟨v1,v2,v3.trans ?_⟩
   constructor
   · rintro ⟨a,y,b,c,dd⟩;exact ⟨a,y,b,by omega,dd⟩
   · rintro ⟨a,y,b,c,dd,ee⟩
     refine ⟨a,?_⟩
     by_cases e:y=Y∧v=Z
     · obtain ⟨rfl,rfl⟩:=e
       have h1:row.getD y 0=(d:Int):=hx.2 dd
       rw [h1,ee] at hc
       simp only [beq_self_eq_true,Bool.true_and,Bool.and_true,decide_eq_false_iff_not] at hc
       have h2:=z2 d (Nat.le_refl _)
       rw [a] at h2
       simp only [Bool.and_eq_false_iff,decide_eq_false_iff_not] at h2
       have h3:row.getD v 0=(d:Int) + 1:=by omega
       exact (z3.1 h3).2
     · exact ⟨y,b,by omega,dd,ee⟩
theorem zgq {g:Gr} {x d Y:Nat} {row:List Int} (h:Mb g x d Y g.1.toNat row):Mb g x d (Y + 1) 0 row:=by
 refine ⟨h.1,fun v hv=>?_⟩
 obtain ⟨v1,v2,v3⟩:=h.2 v hv
 refine ⟨v1,v2,v3.trans ?_⟩
 constructor
 · rintro ⟨a,y,b,c,dd⟩;exact ⟨a,y,b,by omega,dd⟩
 · rintro ⟨a,y,b,c,dd⟩;exact ⟨a,y,b,by omega,dd⟩
theorem zmc {g:Gr} {x d:Nat} {row:List Int} (h:Nv g x d row):Mb g x d 0 0 row:=by
 refine ⟨h.1,fun v hv=>?_⟩
 obtain ⟨v1,v2⟩:=h.2 v hv
 refine ⟨by omega,v2,?_⟩
 constructor
 · intro e;omega
 · rintro ⟨_,y,_,c,_⟩;omega
theorem zmn {g:Gr} {x d:Nat} {row:List Int} (h:Mb g x d g.1.toNat 0 row):Nv g x (d + 1) row:=by
 refine ⟨h.1,fun v hv=>?_⟩
 obtain ⟨v1,v2,v3⟩:=h.2 v hv
 refine ⟨by omega,fun t ht=>?_⟩
 by_cases e:t≤d
 · exact v2 t e
 · obtain rfl:t=d + 1:=by omega
   rw [Bool.eq_iff_iff]
   simp only [Bool.and_eq_true,decide_eq_true_eq]
   constructor
   · rintro ⟨a,b⟩
     by_cases e2:row.getD v 0=(d:Int) + 1
     · obtain ⟨_,y,hy,_,hyd,hya⟩:=v3.1 e2
       exact Qi hyd.1 hy hya
     · have:=v2 d (Nat.le_refl _)
       have h1:(decide (0≤row.getD v 0) && decide (row.getD v 0≤(d:Int)))=true:=by simp [-List.getD_eq_getElem?_getD];omega
       rw [h1] at this
       exact Kx this.symm _ (by omega)
   · intro hb
     cases hd:y9 g x d v with
     | true=>
       have:=v2 d (Nat.le_refl _)
       rw [hd] at this
       simp [-List.getD_eq_getElem?_getD] at this
       omega
     | false=>
       rcases Ny hb with h1 | ⟨y,h1,h2,h3⟩
       · rw [hd] at h1;cases h1
       · have:row.getD v 0=(d:Int) + 1:=v3.2 ⟨hd,y,h1,.inl h1,⟨h2,fun t ht=>by
          rw [Bool.eq_false_iff];intro h'
          have:=Kx (Qi h' h1 h3) d (by omega)
          rw [hd] at this;cases this⟩,h3⟩
         omega
theorem zf3 {g:Gr} {x:Nat} (hx:x < g.1.toNat):Nv g x 0 ((List.replicate g.1.toNat (-1)).set x 0):=by
 refine ⟨by simp,fun v hv=>?_⟩
 rw [W1 (by rw [List.length_replicate];exact hx)]
 by_cases e:x=v
 · subst e
   rw [if_pos rfl]
   refine ⟨.inr ⟨by omega,by omega⟩,fun t ht=>?_⟩
   obtain rfl:t=0:=by omega
   simp [y9]
 · rw [if_neg e]
   have:(List.replicate g.1.toNat (-1:Int)).getD v 0=-1:=by simp [List.getD_eq_getElem?_getD,hv]
   rw [this]
   refine ⟨.inl rfl,fun t ht=>?_⟩
   obtain rfl:t=0:=by omega
   have:(v == x)=false:=by simp;omega
   simp [y9,this]
theorem zhi {F x:Nat} {g:Gr} {out:List (List Int)} {c1:List (List Int)→Int→Option (List (List Int))} (hg:yA g=true) (hx:x < g.1.toNat) (ho:out.length < 100) (hF:20≤F) (hG:g.2.length < F) (hs:Sm g.2.length) :
    ∃ row,Nv g x g.1.toNat row∧uq F g out (x:Int) c1 F [] 0=c1 (out++[row]) ((x + 1:Nat):Int):=by
 have h8:=zC hg
 obtain ⟨n,hn⟩:∃ n:Nat,g.1=n:=⟨g.1.toNat,by omega⟩
 have hnn:g.1.toNat=n:=by omega
 have H1:∀ (d Y:Nat) (c31 c40:List Int→Int→Option (List (List Int))) (row:List Int),Y < n→d < n→Mb g x d Y 0 row→∃ row',Mb g x d Y n row'∧xV F g out (x:Int) (d:Int) (Y:Int) c1 c31 c40 F row 0=c40 row' ((Y + 1:Nat):Int):=by
  intro d Y c31 c40 row hY hd hQ
  refine Wd (L:=fun k i s=>xV F g out (x:Int) (d:Int) (Y:Int) c1 c31 c40 k s i) (n:=n) (fun i s=>Mb g x d Y i s) (fin:=fun s=>c40 s ((Y + 1:Nat):Int)) ?_ ?_ F row (by omega) hQ
  · intro k i s hi hI
    refine ⟨_,zgn hI (by omega) (by omega),?_⟩
    simp only [xV,Z0,Y5,hn]
    have hlt:decide ((i:Int) < (n:Int))=true:=by simp [hi]
    have hlen:s.length=n:=by rw [hI.1,hnn]
    rw [hlt,cond_true,zI (d:=0) (by omega),Option.bind_some]
    cases hc1:(s.getD Y 0 == (d:Int)) with
    | false=>rw [cond_false,cond_false,Bool.false_and,cond_false,zN hi (by unfold Sm;omega)]
    | true=>
      rw [cond_true,zI (d:=0) (by omega),Option.bind_some,Bool.true_and]
      cases hc2:decide (s.getD i 0 < 0) with
      | false=>rw [cond_false,cond_false,Bool.false_and,cond_false,zN hi (by unfold Sm;omega)]
      | true=>
        rw [cond_true,Kb hG hs,Option.bind_some,Bool.true_and]
        cases adj g Y i with
        | false=>rw [cond_false,cond_false,zN hi (by unfold Sm;omega)]
        | true=>
          rw [cond_true,cond_true,Option.bind_some,zN hi (by unfold Sm;omega),Int.toNat_natCast]
          have:w64 ((d:Int) + 1)=(d:Int) + 1:=yF (by omega) (by omega)
          rw [this]
  · intro k s hI
    simp only [xV,hn]
    have hlt:decide ((n:Int) < (n:Int))=false:=by simp
    rw [hlt,cond_false,zN hY (by unfold Sm;omega)]
 have H2:∀ (d:Nat) (c31:List Int→Int→Option (List (List Int))) (row:List Int),d < n→Nv g x d row→∃ row',Nv g x (d + 1) row'∧w7 F g out (x:Int) (d:Int) c1 c31 F row 0=c31 row' ((d + 1:Nat):Int):=by
  intro d c31 row hd hP
  obtain ⟨s,h1,h2⟩:=Wd (L:=fun k i s=>w7 F g out (x:Int) (d:Int) c1 c31 k s i) (n:=n) (fun i s=>Mb g x d i 0 s) (fin:=fun s=>c31 s ((d + 1:Nat):Int)) (fun k i s hi hI=>by
      obtain ⟨s',h1,h2⟩:=H1 d i c31 (w7 F g out (x:Int) (d:Int) c1 c31 k) s hi hd hI
      refine ⟨s',zgq (by rw [hnn];exact h1),?_⟩
      simp only [w7,hn]
      have hlt:decide ((i:Int) < (n:Int))=true:=by simp [hi]
      rw [hlt,cond_true,h2]) (fun k s hI=>by
      simp only [w7,hn]
      have hlt:decide ((n:Int) < (n:Int))=false:=by simp
      rw [hlt,cond_false,zN hd (by unfold Sm;omega)]) F row (by omega) (zmc hP)
  exact ⟨s,zmn (by rw [hnn];exact h1),h2⟩
 have H3:∃ row',Nv g x n row'∧wY F g out (x:Int) c1 F ((List.replicate n (-1)).set x 0) 0=c1 (out++[row']) ((x + 1:Nat):Int):=by
  refine Wd (L:=fun k i s=>wY F g out (x:Int) c1 k s i) (n:=n) (fun i s=>Nv g x i s) (fin:=fun s=>c1 (out++[s]) ((x + 1:Nat):Int)) ?_ ?_ F _ (by omega) (by rw [← hnn];exact zf3 hx)
  · intro k i s hi hI
    obtain ⟨s',h1,h2⟩:=H2 i (wY F g out (x:Int) c1 k) s hi hI
    refine ⟨s',h1,?_⟩
    simp only [wY,hn]
    have hlt:decide ((i:Int) < (n:Int))=true:=by simp [hi]
    rw [hlt,cond_true,h2]
  · intro k s hI
    simp only [wY,hn]
    have hlt:decide ((n:Int) < (n:Int))=false:=by simp
    rw [hlt,cond_false,wN (by omega),Option.bind_some,zN (n:=n) (by omega) (by unfold Sm;omega)]
 obtain ⟨row,h1,h2⟩:=H3
 refine ⟨row,by rw [hnn];exact h1,?_⟩
 rw [← h2]
 refine wh (L:=fun k i s=>uq F g out (x:Int) c1 k s i) (n:=n) (fun i s=>s=List.replicate i (-1)) ?_ ?_ F _ (by omega) rfl
 · intro k i s hi hI
   subst hI
   refine ⟨_,rfl,?_⟩
   simp only [uq,hn]
   have hlt:decide ((i:Int) < (n:Int))=true:=by simp [hi]
   rw [hlt,cond_true,wN (by simp;omega),Option.bind_some,zN hi (by unfold Sm;omega),List.replicate_succ']
 · intro k s hI
   subst hI
   simp only [uq,hn]
   have hlt:decide ((n:Int) < (n:Int))=false:=by simp
   rw [hlt,cond_false,zI (d:=0) (by simp;omega),Option.bind_some,Int.toNat_natCast]
theorem zkP {F:Nat} {g:Gr} (hg:yA g=true) (hF:20≤F) (hG:g.2.length < F) (hs:Sm g.2.length) :
    ∃ ds,XN F g=some ds∧ds.length=g.1.toNat∧∀ x,x < g.1.toNat→Nv g x g.1.toNat (ds.getD x []):=by
 have h8:=zC hg
 obtain ⟨n,hn⟩:∃ n:Nat,g.1=n:=⟨g.1.toNat,by omega⟩
 have hnn:g.1.toNat=n:=by omega
 unfold XN
 obtain ⟨s,h1,h2⟩:=Wd (L:=fun k i s=>vF F g k s i) (n:=n) (fun i (s:List (List Int))=>s.length=i∧∀ x,x < i→Nv g x g.1.toNat (s.getD x [])) (fin:=fun s=>some s) (fun k i s hi hI=>by
     obtain ⟨row,h1,h2⟩:=zhi (F:=F) (x:=i) (out:=s) (c1:=vF F g k) hg (by omega) (by omega) hF hG hs
     refine ⟨s++[row],⟨by simp [hI.1],fun x hx=>?_⟩,?_⟩
     · by_cases e:x=i
       · subst e
         rw [List.getD_eq_getElem?_getD,List.getElem?_append_right (by omega),hI.1]
         simpa using h1
       · rw [List.getD_eq_getElem?_getD,List.getElem?_append_left (by omega),← List.getD_eq_getElem?_getD]
         exact hI.2 x (by omega)
     · simp only [vF,hn]
       have hlt:decide ((i:Int) < (n:Int))=true:=by simp [hi]
       rw [hlt,cond_true,h2]) (fun k s hI=>by
     simp only [vF,hn]
     have hlt:decide ((n:Int) < (n:Int))=false:=by simp
     rw [hlt,cond_false]) F [] (by omega) ⟨rfl,by simp⟩
 exact ⟨s,h2,by rw [h1.1,hnn],fun x hx=>h1.2 x (by omega)⟩
def zD (p:Nat→Bool) (n:Nat):List Int:=((List.range n).filter p).map fun (j:Nat)=>(j:Int)
theorem xb {p:Nat→Bool} {n:Nat}:(zD p n).length=yy p n:=by
 simp [zD,yy,List.countP_eq_length_filter]
theorem xm {p:Nat→Bool} {n:Nat}:zD p (n + 1)=zD p n++(if p n then [(n:Int)] else []):=by
 simp only [zD,List.range_succ,List.filter_append,List.map_append]
 by_cases h:p n=true
 · simp [h]
 · rw [Bool.not_eq_true] at h;simp [h]
theorem wt {p q:Nat→Bool} {n:Nat} (h:∀ j,j < n→p j=q j):zD p n=zD q n:=by
 unfold zD
 congr 1
 apply List.filter_congr
 intro x hx
 exact h x (by simpa using hx)
theorem vr {p:Nat→Bool} {n:Nat}:yy p n≤n:=by
 have:=List.countP_le_length (p:=p) (l:=List.range n)
 unfold yy;simpa using this
theorem zcw {F x r:Nat} {g:Gr} (hg:yA g=true) (hx:x < g.1.toNat) (hr:r≤g.1.toNat) (hF:20≤F) (hG:g.2.length < F) (hs:Sm g.2.length):ZY F g (x:Int) (r:Int)=some (zD (y9 g x r) g.1.toNat):=by
 have h8:=zC hg
 obtain ⟨n,hn⟩:∃ n:Nat,g.1=n:=⟨g.1.toNat,by omega⟩
 have hnn:g.1.toNat=n:=by omega
 obtain ⟨ds,h1,h2,h3⟩:=zkP hg hF hG hs
 unfold ZY
 rw [h1,Option.bind_some,zI (d:=[]) (by omega),Option.bind_some]
 obtain ⟨hl,hrow⟩:=h3 x hx
 generalize ds.getD x []=row at hl hrow ⊢
 refine wh (L:=fun k i s=>xZ F (r:Int) g row k s i) (n:=n) (fun i s=>s=zD (y9 g x r) i) ?_ ?_ F _ (by omega) rfl
 · intro k i s hi hI
   subst hI
   refine ⟨_,rfl,?_⟩
   simp only [xZ,ZG,hn]
   have hlt:decide ((i:Int) < (n:Int))=true:=by simp [hi]
   have hb:=(hrow i (by omega)).2 r hr
   rw [hlt,cond_true,zI (d:=0) (by omega),Option.bind_some,zaA,Option.bind_some,hb,xm,zN hi (by unfold Sm;omega)]
   cases y9 g x r i with
   | true=>
     have:=vr (p:=y9 g x r) (n:=i)
     rw [cond_true,wN (by rw [xb];omega),Option.bind_some];rfl
   | false=>rw [cond_false];simp
 · intro k s hI
   subst hI
   simp only [xZ,hn]
   have hlt:decide ((n:Int) < (n:Int))=false:=by simp
   rw [hlt,cond_false];rfl
end Go.Zq
namespace Go.Zq
theorem NX:∀ (n:Nat) (l:List Int),l.Nodup→(∀ x∈l,0≤x∧x < n)→yy (fun j=>decide ((j:Int)∈l)) n=l.length
 | 0,l,_,h=>by
   cases l with
   | nil=>rfl
   | cons x l=>have:=h x (by simp);omega
 | n + 1,l,hn,h=>by
   have hs:∀ x∈l.erase (n:Int),0≤x∧x < n:=by
    intro x hx
    have h1:=(hn.mem_erase_iff).1 hx
    have:=h x h1.2
    omega
   have ih:=NX n (l.erase (n:Int)) (hn.erase _) hs
   have hc:yy (fun j=>decide ((j:Int)∈l.erase (n:Int))) n=yy (fun j=>decide ((j:Int)∈l)) n:=by
    apply Z1
    intro j hj
    rw [Bool.eq_iff_iff]
    simp only [decide_eq_true_eq]
    rw [List.mem_erase_of_ne (by omega)]
   rw [hc] at ih
   unfold yy at *
   rw [List.range_succ,List.countP_append,ih]
   by_cases hm:(n:Int)∈l
   · rw [List.length_erase_of_mem hm]
     have:=List.length_pos_of_mem hm
     simp [hm];omega
   · rw [List.erase_of_not_mem hm]
     simp [hm]
def Srt (l:List Int):Prop:=l.Pairwise (· < ·)
theorem zeM:∀ (a b:List Int),Srt a→Srt b→(∀ y,y∈a↔y∈b)→a=b
 | [],[],_,_,_=>rfl
 | [],y :: b,_,_,h=>by have:=(h y).2 (by simp);cases this
 | x :: a,[],_,_,h=>by have:=(h x).1 (by simp);cases this
 | x :: a,y :: b,ha,hb,h=>by
   unfold Srt at ha hb
   rw [List.pairwise_cons] at ha hb
   have e:x=y:=by
    have h1:=(h x).1 (by simp)
    have h2:=(h y).2 (by simp)
    rcases List.mem_cons.1 h1 with e | h1
    · exact e
    · rcases List.mem_cons.1 h2 with e | h2
      · exact e.symm
      · have:=ha.1 y h2;have:=hb.1 x h1;omega
   subst e
   congr 1
   refine zeM a b ha.2 hb.2 fun y=>?_
   have:=h y
   simp only [List.mem_cons] at this
   constructor
   · intro hy
     rcases this.1 (.inr hy) with e | h'
     · have:=ha.1 y hy;omega
     · exact h'
   · intro hy
     rcases this.2 (.inr hy) with e | h'
     · have:=hb.1 y hy;omega
     · exact h'
theorem xf {p:Nat→Bool} {n:Nat} {y:Int}:y∈zD p n↔∃ j:Nat,y=j∧j < n∧p j=true:=by
 unfold zD
 simp only [List.mem_map,List.mem_filter,List.mem_range]
 constructor
 · rintro ⟨j,⟨h1,h2⟩,rfl⟩;exact ⟨j,rfl,h1,h2⟩
 · rintro ⟨j,rfl,h1,h2⟩;exact ⟨j,⟨h1,h2⟩,rfl⟩
theorem KT {p:Nat→Bool} {n:Nat}:Srt (zD p n):=by
 unfold Srt zD
 rw [List.pairwise_map]
 have h1:(List.range n).Pairwise (· < ·):=List.pairwise_lt_range
 exact (List.Pairwise.filter _ h1).imp fun h=>by omega
theorem zf0 {l:List Int} {p:Nat→Bool} {n:Nat} (h:Srt l) (hm:∀ y,y∈l↔∃ j:Nat,y=j∧j < n∧p j=true):l=zD p n:=
 zeM _ _ h KT fun y=>(hm y).trans xf.symm
end Go.Zq
namespace Go.Zq
def uj (f:Nat→Nat):Nat→Nat
 | 0=>0
 | n + 1=>uj f n + f n
theorem wQ {f g:Nat→Nat}:∀ {n:Nat},(∀ i,i < n→f i=g i)→uj f n=uj g n
 | 0,_=>rfl
 | n + 1,h=>by simp only [uj];rw [wQ (n:=n) (fun i hi=>h i (by omega)),h n (by omega)]
theorem XV:∀ {n:Nat},uj (fun _=>0) n=0
 | 0=>rfl
 | n + 1=>by simp [uj,XV (n:=n)]
theorem JV {f g:Nat→Nat}:∀ {n:Nat},uj (fun i=>f i + g i) n=uj f n + uj g n
 | 0=>rfl
 | n + 1=>by simp only [uj];rw [JV (n:=n)];omega
theorem Mj {f:Nat→Nat→Nat} {m:Nat}:∀ {n:Nat},uj (fun y=>uj (fun j=>f y j) m) n=uj (fun j=>uj (fun y=>f y j) n) m
 | 0=>by simp only [uj];exact XV.symm
 | n + 1=>by simp only [uj];rw [Mj (n:=n),← JV]
theorem Xx {f:Nat→Nat} {a:Nat}:∀ {n:Nat},a < n→uj (fun y=>if y=a then f y else 0) n=f a
 | 0,h=>by omega
 | n + 1,h=>by
   simp only [uj]
   by_cases e:n=a
   · subst e
     rw [if_pos rfl,wQ (g:=fun _=>0) (fun i hi=>if_neg (by omega)),XV];omega
   · rw [if_neg e,Xx (n:=n) (by omega)];rfl
theorem uF {p:Nat→Bool}:∀ {n:Nat},yy p n=uj (fun j=>if p j then 1 else 0) n
 | 0=>rfl
 | n + 1=>by
   have:yy p (n + 1)=yy p n + (if p n then 1 else 0):=by
    unfold yy
    rw [List.range_succ,List.countP_append]
    by_cases h:p n=true <;> simp [h]
   rw [this,uF (n:=n)];rfl
theorem Mk {m i:Nat} (hi:i≤64):Wk .i64 (m:Int) (i:Int)=some ((m / 2 ^ i:Nat):Int):=by
 rw [zfu,Nat.min_eq_left hi]
theorem WH {F n:Nat} {p:Nat→Bool} (hn:n≤8) (hF:20≤F):uU F ((mkm p n:Nat):Int)=some (zD p n):=by
 have key:∀ d k i (l:NL Int),i + d=n→d < k→l.list=zD p i→vI F ((mkm p n:Nat):Int) k l (i:Int)=some (zD p n):=by
  intro d
  induction d with
  | zero=>
    intro k i l hi hk hl
    obtain ⟨k,rfl⟩:∃ k',k=k' + 1:=⟨k - 1,by omega⟩
    obtain rfl:i=n:=by omega
    simp only [vI]
    rw [Mk (by omega),Option.bind_some,Nat.div_eq_of_lt KO,hl];rfl
  | succ d ih=>
    intro k i l hi hk hl
    obtain ⟨k,rfl⟩:∃ k',k=k' + 1:=⟨k - 1,by omega⟩
    simp only [vI,X1]
    rw [Mk (by omega),Option.bind_some]
    have hw:w64 ((i:Int) + 1)=((i + 1:Nat):Int):=zN (n:=n) (by omega) (by unfold Sm;omega)
    by_cases hz:mkm p n / 2 ^ i=0
    · have:(((mkm p n / 2 ^ i:Nat):Int) != 0)=false:=by rw [hz];rfl
      rw [this,cond_false,hl]
      have hlt:mkm p n < 2 ^ i:=by
       rcases Nat.div_eq_zero_iff.1 hz with h | h
       · have:=Nat.two_pow_pos i;omega
       · exact h
      have hp:∀ j,i≤j→j < n→p j=false:=by
       intro j h1 h2
       have hb:=yN (p:=p) n j
       have:(mkm p n).testBit j=false:=Nat.testBit_lt_two_pow (Nat.lt_of_lt_of_le hlt (Nat.pow_le_pow_right (by decide) h1))
       rw [this] at hb
       simpa [h2] using hb.symm
      have:∀ e,i + e≤n→zD p (i + e)=zD p i:=by
       intro e
       induction e with
       | zero=>intro _;rfl
       | succ e ihe=>intro he;rw [show i + (e + 1)=(i + e) + 1 by omega,xm,hp (i + e) (by omega) (by omega),ihe (by omega)];simp
      have h3:=this (n - i) (by omega)
      rw [show i + (n - i)=n by omega] at h3
      rw [h3]
    · have:(((mkm p n / 2 ^ i:Nat):Int) != 0)=true:=by
       rw [bne_iff_ne];intro h;exact hz (by exact_mod_cast h)
      rw [this,cond_true]
      obtain ⟨q,hq,hq1,_⟩:=U0 (m:=mkm p n) (j:=i) (uh (by omega)) (by omega)
      have hd:decide (i < n)=true:=decide_eq_true (by omega)
      have hq':((mkm p n / 2 ^ i:Nat):Int)=q:=Option.some.inj (by rw [← Mk (by omega),hq])
      rw [Option.bind_some,hq',hq1,yN,hd,Bool.true_and,hw]
      have hc:=vr (p:=p) (n:=i)
      have hs:=xm (p:=p) (n:=i)
      cases hp:p i with
      | true=>
        rw [cond_true,hl,wN (by rw [xb];omega),Option.bind_some]
        refine ih k (i + 1) _ (by omega) (by omega) ?_
        rw [hs,hp];rfl
      | false=>
        rw [cond_false]
        refine ih k (i + 1) _ (by omega) (by omega) ?_
        rw [hs,hp,hl];simp
 unfold uU
 exact key n F 0 .nil (by omega) (by omega) rfl
theorem WN {α β:Type} {h:β→α→β} {d:α}:∀ (l:List α) (s:β),(List.range l.length).foldl (fun s i=>h s (l.getD i d)) s=l.foldl h s
 | [],s=>rfl
 | x :: l,s=>by
   rw [List.length_cons,List.range_succ_eq_map,List.foldl_cons,List.foldl_map]
   simp only [List.getD_cons_zero,List.getD_cons_succ]
   exact WN l (h s x)
def zjl (g:Gr) (S:Nat→Bool) (n:Nat):Nat:=uj (fun y=>if S y then yy (fun j=>adj g y j && !S j) n else 0) n
theorem Ml {S:Nat→Bool} {f:Nat→Nat}:∀ (n:Nat) (s:Int),(zD S n).foldl (fun s y=>s + (f y.toNat:Int)) s=s + (uj (fun y=>if S y then f y else 0) n:Nat)
 | 0,s=>by simp [zD,uj]
 | n + 1,s=>by
   rw [xm,List.foldl_append,Ml n s]
   by_cases h:S n=true
   · simp [h,uj];omega
   · rw [Bool.not_eq_true] at h;simp [h,uj]
theorem zdf {F x:Nat} {g:Gr} {S:Nat→Bool} (hg:yA g=true) (hx:x < g.1.toNat) (hF:20≤F) :
    ve F ⟨zW g⟩ ((mkm S g.1.toNat:Nat):Int) (x:Int)=some ((zjl g (fun j=>S j || j == x) g.1.toNat:Nat):Int):=by
 have h8:=zC hg
 obtain ⟨n,hn⟩:∃ n:Nat,g.1.toNat=n:=⟨_,rfl⟩
 rw [hn] at hx ⊢
 unfold ve
 have hor:ior .i64 ((mkm S n:Nat):Int) ((2 ^ x:Nat):Int)=((mkm (fun j=>S j || j == x) n:Nat):Int):=by
  rw [Zt (uh (by omega)) (uR (by omega))]
  congr 1
  refine YE fun j=>?_
  rw [Nat.testBit_or,yN,Nat.testBit_two_pow]
  by_cases e:x=j
  · subst e;simp [hx]
  · have h1:decide (x=j)=false:=by simpa using e
    have h2:(j == x)=false:=by simp;omega
    rw [h1,h2];simp
 rw [xC (by omega),Option.bind_some,hor,WH (by omega) hF,Option.bind_some]
 generalize hT:(fun j=>S j || j == x)=T
 rw [hT] at hor
 let f:Nat→Nat:=fun y=>yy (fun j=>adj g y j && !T j) n
 have hfold:∃ s:Int,(∃ c:Nat,s=c∧c≤(zD T n).length * 8)∧vG F ((mkm S n:Nat):Int) ((2 ^ x:Nat):Int) ⟨zW g⟩ (zD T n) F 0 0=some s∧s=(List.range (zD T n).length).foldl (fun s i=>s + (f ((zD T n).getD i 0).toNat:Int)) 0:=by
  have hlen:(zD T n).length≤n:=by rw [xb];exact vr
  obtain ⟨s,⟨c,h1,h2⟩,h3,h4⟩:=uO (L:=fun k i s=>vG F ((mkm S n:Nat):Int) ((2 ^ x:Nat):Int) ⟨zW g⟩ (zD T n) k s i) (n:=(zD T n).length) (fun i (s:Int)=>∃ c:Nat,s=c∧c≤i * 8) (fin:=fun s=>some s) (fun i s=>s + (f ((zD T n).getD i 0).toNat:Int)) (fun k i s hi ⟨c,hc,hc2⟩=>by
      simp only [vG]
      have hlt:decide ((i:Int) < ((zD T n).length:Int))=true:=decide_eq_true (by omega)
      obtain ⟨y,hy,hyn,_⟩:=xf.1 (wg (d:=0) hi)
      have hf8:f y≤8:=Nat.le_trans vr (by omega)
      rw [hlt,cond_true,zI (d:=0) hi,Option.bind_some,hy,zI (d:=0) (by rw [wo];omega),Option.bind_some,WP (by omega),hn,hor]
      obtain ⟨m,hm1,hm2,hm3⟩:=Ye (a:=mkm (adj g y) n) (b:=mkm T n) (uh (by omega)) (uh (by omega))
      have hmm:m=mkm (fun j=>adj g y j && !T j) n:=by
       refine YE fun j=>?_
       rw [hm3,yN,yN]
       cases decide (j < n) <;> simp
      rw [hm1,hmm,zae (zaz (by omega)),Option.bind_some,MI (by omega),zN hi (by unfold Sm;omega),Int.toNat_natCast]
      have hw:w64 (s + (f y:Int))=s + (f y:Int):=yF (by omega) (by omega)
      rw [show ((yy (fun j=>adj g y j && !T j) n:Nat):Int)=(f y:Int) from rfl,hw]) (fun i s hi ⟨c,hc,hc2⟩=>by
      have hf8:f ((zD T n).getD i 0).toNat≤8:=Nat.le_trans vr (by omega)
      exact ⟨c + f ((zD T n).getD i 0).toNat,by omega,by omega⟩) (fun k s _=>by
      simp only [vG]
      have hlt:decide (((zD T n).length:Int) < ((zD T n).length:Int))=false:=decide_eq_false (by omega)
      rw [hlt,cond_false]) F 0 (by omega) ⟨0,rfl,by omega⟩
  exact ⟨s,⟨c,h1,h2⟩,h3,h4⟩
 obtain ⟨s,_,h2,h3⟩:=hfold
 rw [h2,h3]
 have h5:=WN (h:=fun (s:Int) (y:Int)=>s + (f y.toNat:Int)) (d:=0) (zD T n) 0
 rw [h5,Ml]
 simp [zjl,f]
/-! the number of edges that leave a set,counted by edges and by nodes -/
theorem Qu {n:Int} {es:List (Int×Int)} (h:vU (okE n es) es.length=true):∀ d i,i + d + 1 < es.length→bef (es.getD i (0,0)) (es.getD (i + d + 1) (0,0))=true
 | 0,i,hi=>by
   have:=yE.1 h (i + 1) (by omega)
   unfold okE at this
   simp only [Bool.and_eq_true,Bool.or_eq_true] at this
   rcases this.2 with h1 | h1
   · simp at h1
   · simpa using h1
 | d + 1,i,hi=>by
   have h1:=Qu h d i (by omega)
   have:=yE.1 h (i + (d + 1) + 1) hi
   unfold okE at this
   simp only [Bool.and_eq_true,Bool.or_eq_true] at this
   rcases this.2 with h2 | h2
   · simp at h2
   · have e:i + (d + 1) + 1 - 1=i + d + 1:=by omega
     rw [e] at h2
     unfold bef at *
     simp only [Bool.or_eq_true,Bool.and_eq_true,decide_eq_true_eq,beq_iff_eq] at *
     omega
theorem zdR {g:Gr} (hg:yA g=true) {a b i j:Nat} (hi:i < g.2.length) (hj:j < g.2.length) (h1:wD g a b i=true) (h2:wD g a b j=true):i=j:=by
 have hall:vU (okE g.1 g.2) g.2.length=true:=by
  unfold yA at hg;simp only [Bool.and_eq_true] at hg;exact hg.2
 have key:∀ i j,i < j→j < g.2.length→wD g a b i=true→wD g a b j=true→False:=by
  intro i j hij hj h1 h2
  have hb:=Qu hall (j - i - 1) i (by omega)
  rw [show i + (j - i - 1) + 1=j by omega] at hb
  obtain ⟨e1,e2,e3⟩:=Zm hg (i:=i) (by omega)
  obtain ⟨f1,f2,f3⟩:=Zm hg hj
  unfold wD at h1 h2
  unfold bef at hb
  simp only [Bool.or_eq_true,Bool.and_eq_true,decide_eq_true_eq,beq_iff_eq] at hb h1 h2
  omega
 rcases Nat.lt_trichotomy i j with h | h | h
 · exact (key i j h hj h1 h2).elim
 · exact h
 · exact (key j i h hi h2 h1).elim
theorem zkp {g:Gr} (hg:yA g=true) {a b:Nat}:(if adj g a b then 1 else 0)=uj (fun i=>if wD g a b i then 1 else 0) g.2.length:=by
 by_cases h:adj g a b=true
 · rw [if_pos h]
   unfold adj at h
   obtain ⟨i,hi,hj⟩:=wP.1 h
   rw [wQ (g:=fun k=>if k=i then 1 else 0)]
   · exact (Xx (f:=fun _=>1) hi).symm
   · intro k hk
     by_cases e:k=i
     · subst e;rw [if_pos hj,if_pos rfl]
     · rw [if_neg e,if_neg]
       intro hk2;exact e (zdR hg hk hi hk2 hj)
 · rw [if_neg h,wQ (g:=fun _=>0),XV]
   intro k hk
   rw [if_neg]
   intro hk2;exact h (wP.2 ⟨k,hk,hk2⟩)
def Wl (g:Gr) (S:Nat→Bool):Nat:=yy (fun i=>S (g.2.getD i (0,0)).1.toNat != S (g.2.getD i (0,0)).2.toNat) g.2.length
theorem Ja {g:Gr} (hg:yA g=true) (S:Nat→Bool):zjl g S g.1.toNat=Wl g S:=by
 have h8:=zC hg
 obtain ⟨n,hn⟩:∃ n:Nat,g.1.toNat=n:=⟨_,rfl⟩
 unfold zjl Wl
 rw [hn]
 have e1:∀ y,y < n→(if S y then yy (fun j=>adj g y j && !S j) n else 0)=uj (fun j=>uj (fun i=>if S y && !S j && wD g y j i then 1 else 0) g.2.length) n:=by
  intro y _
  cases hS:S y with
  | false=>
    rw [if_neg (by simp)]
    symm
    rw [wQ (g:=fun _=>0),XV]
    intro j _
    rw [wQ (g:=fun _=>0),XV]
    intro i _;simp
  | true=>
    rw [if_pos rfl,uF]
    apply wQ
    intro j _
    cases hj:S j with
    | true=>
      simp only [Bool.not_true,Bool.and_false,Bool.false_and]
      rw [if_neg (by simp)]
      symm
      rw [wQ (g:=fun _=>0),XV]
      intro i _;simp
    | false=>
      simp only [Bool.not_false,Bool.and_true,Bool.true_and]
      exact zkp hg
 rw [wQ e1]
 have e2:uj (fun y=>uj (fun j=>uj (fun i=>if S y && !S j && wD g y j i then 1 else 0) g.2.length) n) n=uj (fun i=>uj (fun y=>uj (fun j=>if S y && !S j && wD g y j i then 1 else 0) n) n) g.2.length:=by
  rw [wQ (g:=fun y=>uj (fun i=>uj (fun j=>if S y && !S j && wD g y j i then 1 else 0) n) g.2.length) (fun y _=>Mj)]
  exact Mj
 rw [e2,uF]
 apply wQ
 intro i hi
 obtain ⟨f1,f2,f3⟩:=Zm hg hi
 obtain ⟨a,ha⟩:∃ a:Nat,(g.2.getD i (0,0)).1=a:=⟨(g.2.getD i (0,0)).1.toNat,by omega⟩
 obtain ⟨b,hb⟩:∃ b:Nat,(g.2.getD i (0,0)).2=b:=⟨(g.2.getD i (0,0)).2.toNat,by omega⟩
 have hj:∀ x j,wD g x j i=((x == a && j == b) || (x == b && j == a)):=by
  intro x j
  unfold wD
  rw [ha,hb,Bool.eq_iff_iff]
  simp
  omega
 rw [ha] at f1 f2 ⊢
 rw [hb] at f2 f3 ⊢
 simp only [Int.toNat_natCast]
 have e3:∀ y,y < n→uj (fun j=>if S y && !S j && wD g y j i then 1 else 0) n=(if y=a then (if S a && !S b then 1 else 0) else 0) + (if y=b then (if S b && !S a then 1 else 0) else 0):=by
  intro y _
  rw [wQ (g:=fun j=>(if j=b then (if y=a then (if S a && !S b then 1 else 0) else 0) else 0) + (if j=a then (if y=b then (if S b && !S a then 1 else 0) else 0) else 0))]
  · rw [JV,Xx (f:=fun _=>if y=a then (if S a && !S b then 1 else 0) else 0) (by omega),Xx (f:=fun _=>if y=b then (if S b && !S a then 1 else 0) else 0) (by omega)]
  · intro j _
    rw [hj]
    by_cases y1:y=a
    · subst y1
      have hab:¬ y=b:=by omega
      by_cases j1:j=b
      · subst j1
        have:¬ j=y:=by omega
        simp [hab,this]
      · have h1:(j == b)=false:=by simpa using j1
        have h2:(y == b)=false:=by simpa using hab
        simp [j1,hab]
    · by_cases y2:y=b
      · subst y2
        by_cases j1:j=a
        · subst j1;simp [y1]
        · simp [y1,j1]
      · simp [y1,y2]
 rw [wQ e3,JV,Xx (f:=fun _=>if S a && !S b then 1 else 0) (by omega),Xx (f:=fun _=>if S b && !S a then 1 else 0) (by omega)]
 rcases Bool.eq_false_or_eq_true (S a) with h1 | h1 <;> rcases Bool.eq_false_or_eq_true (S b) with h2 | h2 <;> simp [h1,h2]
def xr (l:List Int) (i:Nat) (j:Nat):Bool:=decide ((j:Int)∈l.take i)
theorem Yk {l:List Int} {i x:Nat} (hi:i < l.length) (hx:l.getD i 0=(x:Int)):∀ j,xr l (i + 1) j=(xr l i j || j == x):=by
 intro j
 unfold xr
 rw [List.take_add_one,List.getElem?_eq_getElem hi,Bool.eq_iff_iff]
 have:l[i]=(x:Int):=by rw [← hx,List.getD_eq_getElem?_getD,List.getElem?_eq_getElem hi];rfl
 have h2:((j:Int)=(x:Int))↔j=x:=by omega
 simp [this,h2]
end Go.Zq
namespace Go.Zq
theorem WV {p:Nat→Bool} {n i:Nat} (hi:i < (zD p n).length):∃ j:Nat,(zD p n).getD i 0=j∧j < n∧p j=true:=xf.1 (wg hi)
theorem zh2 {l:List Int} (h:Srt l) {i j:Nat} (hij:i < j) (hj:j < l.length):l.getD i 0 < l.getD j 0:=by
 have:=List.pairwise_iff_getElem.1 h i j (by omega) hj hij
 rw [List.getD_eq_getElem?_getD,List.getElem?_eq_getElem (by omega),List.getD_eq_getElem?_getD,List.getElem?_eq_getElem hj]
 exact this
def vf (l:List Int) (x:Int):Nat:=l.findIdx fun y=>!decide (y < x)
theorem zcK {l:List Int} {x:Int} {j:Nat} (hj:j < vf l x) (hl:j < l.length):l.getD j 0 < x:=by
 have:=List.not_of_lt_findIdx (p:=fun y=>!decide (y < x)) (xs:=l) hj
 rw [List.getD_eq_getElem?_getD,List.getElem?_eq_getElem hl]
 simpa using this
theorem zcM {l:List Int} {x:Int} (h:vf l x < l.length):¬ l.getD (vf l x) 0 < x:=by
 have:=List.findIdx_getElem (p:=fun y=>!decide (y < x)) (xs:=l) (w:=h)
 rw [List.getD_eq_getElem?_getD,List.getElem?_eq_getElem h]
 intro hlt
 simp only [Option.getD_some] at hlt
 have e:l[List.findIdx (fun y=>!decide (y < x)) l] < x:=hlt
 rw [decide_eq_true e] at this
 cases this
theorem zjp {l:List Int} {x:Int}:vf l x≤l.length:=List.findIdx_le_length
theorem zcp {α:Type} {xs:List α} {i:Nat} (h:i≤xs.length):sub xs (i:Int) (xs.length:Int)=some (xs.drop i):=by
 unfold sub
 rw [if_pos ⟨by omega,by omega,by omega⟩]
 simp only [Int.toNat_natCast]
 rw [List.take_of_length_le (by simp)]
theorem NE {α:Type} {xs:List α} {i:Nat} (h:i≤xs.length):sub xs 0 (i:Int)=some (xs.take i):=by
 unfold sub
 rw [if_pos ⟨by omega,by omega,by omega⟩]
 simp
theorem L2 {α:Type} {xs ys:List α} (h:xs.length + ys.length≤1099511627776):wJ xs ys=some (xs++ys):=by
 unfold wJ
 rw [if_pos]
 have:(2:Nat) ^ 40=1099511627776:=by decide
 omega
def zgw (l:List Int) (x:Int):List Int:=if vf l x < l.length∧l.getD (vf l x) 0=x then l else l.take (vf l x)++[x]++l.drop (vf l x)
theorem zkN {F:Nat} {l:List Int} {x:Int} (hF:l.length < F) (hl:l.length≤1000):LM F l x=some (zgw l x):=by
 unfold LM
 have hle:=zjp (l:=l) (x:=x)
 refine LS (L:=fun k i=>YC F l x k i) (n:=vf l x) ?_ ?_ F (by omega)
 · intro k i hi
   simp only [YC,W5]
   have hlt:decide ((i:Int) < (l.length:Int))=true:=decide_eq_true (by omega)
   have hx:=zcK hi (by omega)
   rw [hlt,cond_true,zI (d:=0) (by omega),Option.bind_some,decide_eq_true hx,cond_true,zN hi (by unfold Sm;omega)]
 · intro k
   have hfin:W6 F l x (vf l x:Int) false=some (l.take (vf l x)++[x]++l.drop (vf l x)):=by
    unfold W6
    rw [cond_false,NE hle,Option.bind_some,L2 (by simp;omega),Option.bind_some,L2 (by simp;omega),Option.bind_some,zcp hle,Option.bind_some,L2 (by simp;omega),Option.bind_some]
    simp
   unfold zgw
   simp only [YC,W5]
   by_cases h:vf l x < l.length
   · have hlt:decide ((vf l x:Int) < (l.length:Int))=true:=decide_eq_true (by omega)
     have hx:=zcM h
     rw [hlt,cond_true,zI (d:=0) h,Option.bind_some,decide_eq_false hx,cond_false,cond_true,Option.bind_some]
     by_cases e:l.getD (vf l x) 0=x
     · have:(l.getD (vf l x) 0 == x)=true:=by simpa using e
       rw [this,if_pos ⟨h,e⟩];rfl
     · have:(l.getD (vf l x) 0 == x)=false:=by rw [beq_eq_false_iff_ne];exact e
       rw [this,if_neg (fun h=>e h.2)];exact hfin
   · have hlt:decide ((vf l x:Int) < (l.length:Int))=false:=decide_eq_false (by omega)
     rw [hlt,cond_false,cond_false,cond_false,if_neg (fun h'=>h h'.1)];exact hfin
theorem zjf {l:List Int} {x y:Int}:y∈zgw l x↔y∈l∨y=x:=by
 unfold zgw
 split
 · rename_i h
   constructor
   · exact .inl
   · rintro (h' | h')
     · exact h'
     · rw [h',← h.2];exact wg h.1
 · have:y∈l↔y∈l.take (vf l x)∨y∈l.drop (vf l x):=by
    rw [← List.mem_append,List.take_append_drop]
   rw [this]
   simp only [List.mem_append,List.mem_singleton]
   constructor
   · rintro ((h | h) | h)
     · exact .inl (.inl h)
     · exact .inr h
     · exact .inl (.inr h)
   · rintro ((h | h) | h)
     · exact .inl (.inl h)
     · exact .inr h
     · exact .inl (.inr h)
theorem zhN {l:List Int} {x:Int} (h:Srt l):Srt (zgw l x):=by
 unfold zgw
 split
 · exact h
 · rename_i hn
   have ht:∀ y∈l.take (vf l x),y < x:=by
    intro y hy
    obtain ⟨i,hi,rfl⟩:=List.mem_iff_getElem.1 hy
    have hi':i < vf l x∧i < l.length:=by simp at hi;omega
    have:=zcK hi'.1 hi'.2
    rw [List.getD_eq_getElem?_getD,List.getElem?_eq_getElem hi'.2] at this
    simpa using this
   have hd:∀ y∈l.drop (vf l x),x < y:=by
    intro y hy
    obtain ⟨i,hi,rfl⟩:=List.mem_iff_getElem.1 hy
    have hi':vf l x + i < l.length:=by simp at hi;omega
    have h1:=zcM (l:=l) (x:=x) (by omega)
    have h2:l.getD (vf l x) 0≠x:=fun e=>hn ⟨by omega,e⟩
    have h3:l.getD (vf l x) 0≤l.getD (vf l x + i) 0:=by
     by_cases e:i=0
     · subst e;exact Int.le_refl _
     · exact Int.le_of_lt (zh2 h (by omega) hi')
    have h4:l.getD (vf l x + i) 0=(l.drop (vf l x))[i]:=by
     rw [List.getElem_drop,List.getD_eq_getElem?_getD,List.getElem?_eq_getElem hi'];rfl
    omega
   unfold Srt at h ⊢
   have h0:(l.take (vf l x)++l.drop (vf l x)).Pairwise (· < ·):=by rw [List.take_append_drop];exact h
   rw [List.pairwise_append] at h0
   rw [List.append_assoc,List.pairwise_append]
   refine ⟨h0.1,?_,?_⟩
   · rw [List.singleton_append,List.pairwise_cons]
     exact ⟨hd,h0.2.1⟩
   · intro a ha b hb
     rw [List.singleton_append,List.mem_cons] at hb
     rcases hb with rfl | hb
     · exact ht a ha
     · exact h0.2.2 a ha b hb
theorem zjQ {F n x:Nat} {p:Nat→Bool} (hn:n≤8) (hx:x < n) (hF:20≤F):LM F (zD p n) (x:Int)=some (zD (fun j=>p j || j == x) n):=by
 have hc:=vr (p:=p) (n:=n)
 rw [zkN (by rw [xb];omega) (by rw [xb];omega)]
 congr 1
 refine zf0 (zhN KT) fun y=>?_
 rw [zjf,xf]
 constructor
 · rintro (⟨j,rfl,h1,h2⟩ | rfl)
   · exact ⟨j,rfl,h1,by simp [h2]⟩
   · exact ⟨x,rfl,hx,by simp⟩
 · rintro ⟨j,rfl,h1,h2⟩
   simp only [Bool.or_eq_true,beq_iff_eq] at h2
   rcases h2 with h2 | h2
   · exact .inl ⟨j,rfl,h1,h2⟩
   · exact .inr (by omega)
theorem zgE {F n:Nat} {p:Nat→Bool} {x:Nat} (hn:n≤8) (hx:x < n) (hF:20≤F):vz F (zD p n) (x:Int)=some (p x):=by
 have hc:=vr (p:=p) (n:=n)
 rw [YV (by rw [xb];omega) (by rw [xb];unfold Sm;omega)]
 congr 1
 rw [Bool.eq_iff_iff,decide_eq_true_eq,xf]
 constructor
 · rintro ⟨j,h1,_,h3⟩;obtain rfl:x=j:=by omega
   exact h3
 · exact fun h=>⟨x,rfl,hx,h⟩
theorem zat {F n code:Nat} (hn:n≤8) (hc:code < 9223372036854775808) (hF:20≤F):ZH F (n:Int) (code:Int)=some (zD code.testBit n):=by
 unfold ZH
 refine wh (L:=fun k i s=>w6 F (n:Int) (code:Int) k s i) (n:=n) (fun i s=>s=zD code.testBit i) ?_ ?_ F _ (by omega) rfl
 · intro k i s hi hI
   subst hI
   refine ⟨_,rfl,?_⟩
   simp only [w6,Y3]
   have hlt:decide ((i:Int) < (n:Int))=true:=decide_eq_true (by omega)
   obtain ⟨q,hq,hq1,_⟩:=U0 (m:=code) (j:=i) hc (by omega)
   have hcl:=vr (p:=code.testBit) (n:=i)
   rw [hlt,cond_true,hq,Option.bind_some,hq1,zN hi (by unfold Sm;omega),xm]
   cases code.testBit i with
   | true=>rw [cond_true,wN (by rw [xb];omega),Option.bind_some];rfl
   | false=>rw [cond_false];simp
 · intro k s hI
   subst hI
   simp only [w6]
   have hlt:decide ((n:Int) < (n:Int))=false:=decide_eq_false (by omega)
   rw [hlt,cond_false]
end Go.Zq
namespace Go.Zq
def stp (g:Gr) (p q:Nat→Bool) (j:Nat):Bool:=q j || (p j && wd (fun y=>q y && adj g y j) g.1.toNat)
def rch (g:Gr) (p:Nat→Bool) (x:Nat):Nat→Nat→Bool
 | 0=>fun j=>j == x
 | t + 1=>stp g p (rch g p x t)
def zcy (g:Gr) (p:Nat→Bool) (x:Nat):Nat→Bool:=rch g p x g.1.toNat
theorem Jn {g:Gr} {p q:Nat→Bool} {j:Nat}:stp g p q j=true↔q j=true∨(p j=true∧∃ y,y < g.1.toNat∧q y=true∧adj g y j=true):=by
 unfold stp
 rw [Bool.or_eq_true,Bool.and_eq_true,wP]
 constructor
 · rintro (h | ⟨h,y,h1,h2⟩)
   · exact .inl h
   · rw [Bool.and_eq_true] at h2;exact .inr ⟨h,y,h1,h2.1,h2.2⟩
 · rintro (h | ⟨h,y,h1,h2,h3⟩)
   · exact .inl h
   · exact .inr ⟨h,y,h1,by rw [h2,h3];rfl⟩
theorem zcq {g:Gr} {p:Nat→Bool} {x t j:Nat} (h:rch g p x t j=true):∀ s,t≤s→rch g p x s j=true:=by
 intro s hs
 induction s with
 | zero=>obtain rfl:t=0:=by omega
         exact h
 | succ s ih=>
   by_cases e:t=s + 1
   · subst e;exact h
   · exact Jn.2 (.inl (ih (by omega)))
theorem zc5 {g:Gr} {p:Nat→Bool} {x:Nat} (hx:p x=true):∀ t j,rch g p x t j=true→p j=true
 | 0,j,h=>by
   have:j=x:=by simpa [rch] using h
   subst this;exact hx
 | t + 1,j,h=>by
   rcases Jn.1 h with h | h
   · exact zc5 hx t j h
   · exact h.1
theorem zdQ {g:Gr} (hg:yA g=true) {p:Nat→Bool} {x:Nat} (hx:x < g.1.toNat):∀ t j,rch g p x t j=true→j < g.1.toNat
 | 0,j,h=>by
   have:j=x:=by simpa [rch] using h
   subst this;exact hx
 | t + 1,j,h=>by
   rcases Jn.1 h with h | ⟨_,y,_,_,h⟩
   · exact zdQ hg hx t j h
   · have:=L1 hg h
     have:=zC hg
     omega
theorem zaW {p q:Nat→Bool}:∀ {n:Nat},(∀ j,j < n→p j=true→q j=true)→(∃ j,j < n∧p j=false∧q j=true)→yy p n + 1≤yy q n
 | 0,_,⟨_,h,_⟩=>by omega
 | n + 1,h,⟨j,hj,h1,h2⟩=>by
   rw [uF,uF]
   simp only [uj]
   rw [← uF,← uF]
   by_cases e:j=n
   · subst e
     have hle:yy p j≤yy q j:=by
      unfold yy
      apply List.countP_mono_left
      intro x hx
      exact h x (by have:=List.mem_range.1 hx;omega)
     rw [h1,h2];simp;omega
   · have ih:=zaW (p:=p) (q:=q) (n:=n) (fun j hj=>h j (by omega)) ⟨j,by omega,h1,h2⟩
     have hn:=h n (by omega)
     by_cases hp:p n=true
     · rw [hp,hn hp];simp;omega
     · rw [Bool.not_eq_true] at hp;rw [hp];simp;omega
theorem Mi {p q:Nat→Bool} {n:Nat} (h:∀ j,j < n→p j=true→q j=true):yy p n≤yy q n:=by
 unfold yy
 apply List.countP_mono_left
 intro x hx
 exact h x (List.mem_range.1 hx)
theorem Mo {g:Gr} {p:Nat→Bool} {x t:Nat} (h:∀ j,rch g p x (t + 1) j=true→rch g p x t j=true):∀ s j,rch g p x (t + s) j=true→rch g p x t j=true
 | 0,j,hj=>hj
 | s + 1,j,hj=>by
   rcases Jn.1 (show stp g p (rch g p x (t + s)) j=true from hj) with h1 | ⟨h1,y,hy,h2,h3⟩
   · exact Mo h s j h1
   · exact h j (Jn.2 (.inr ⟨h1,y,hy,Mo h s y h2,h3⟩))
theorem zc4 {g:Gr} (hg:yA g=true) {p:Nat→Bool} {x:Nat} (hx:x < g.1.toNat) (hp:p x=true):∃ t,t < yy p g.1.toNat∧∀ j,rch g p x (t + 1) j=true→rch g p x t j=true:=by
 apply Classical.byContradiction
 intro hne
 have hstep:∀ t,t < yy p g.1.toNat→∃ j,rch g p x (t + 1) j=true∧rch g p x t j=false:=by
  intro t ht
  apply Classical.byContradiction
  intro hno
  apply hne
  refine ⟨t,ht,fun j hj=>?_⟩
  cases h:rch g p x t j with
  | true=>rfl
  | false=>exact absurd ⟨j,hj,h⟩ hno
 have hgrow:∀ t,t≤yy p g.1.toNat→t + 1≤yy (rch g p x t) g.1.toNat:=by
  intro t
  induction t with
  | zero=>
    intro _
    have:=zaW (p:=fun _=>false) (q:=rch g p x 0) (n:=g.1.toNat) (by simp) ⟨x,hx,rfl,by simp [rch]⟩
    omega
  | succ t ih=>
    intro ht
    have h1:=ih (by omega)
    obtain ⟨j,hj1,hj2⟩:=hstep t (by omega)
    have:=zaW (p:=rch g p x t) (q:=rch g p x (t + 1)) (n:=g.1.toNat) (fun j _ h=>zcq h _ (by omega)) ⟨j,zdQ hg hx _ j hj1,hj2,hj1⟩
    omega
 have h1:=hgrow (yy p g.1.toNat) (Nat.le_refl _)
 have h2:yy (rch g p x (yy p g.1.toNat)) g.1.toNat≤yy p g.1.toNat:=Mi fun j _ h=>zc5 hp _ j h
 omega
theorem zgY {g:Gr} (hg:yA g=true) {p:Nat→Bool} {x:Nat} (hx:x < g.1.toNat) (hp:p x=true) {s:Nat} (hs:yy p g.1.toNat≤s + 1):∀ j,rch g p x s j=zcy g p x j:=by
 intro j
 obtain ⟨t,ht,hst⟩:=zc4 hg hx hp
 have hcn:=vr (p:=p) (n:=g.1.toNat)
 have key:∀ s,t≤s→(rch g p x s j=true↔rch g p x t j=true):=fun s hs=>⟨fun h=>by
  have:s=t + (s - t):=by omega
  rw [this] at h;exact Mo hst (s - t) j h,fun h=>zcq h s hs⟩
 rw [Bool.eq_iff_iff,key s (by omega)]
 unfold zcy
 rw [key g.1.toNat (by omega)]
theorem zkk {g:Gr} {p:Nat→Bool} {x j:Nat} (hx:p x=true) (h:zcy g p x j=true):p j=true:=zc5 hx _ j h
theorem zlc {g:Gr} (hg:yA g=true) {p:Nat→Bool} {x j:Nat} (hx:x < g.1.toNat) (h:zcy g p x j=true):j < g.1.toNat:=zdQ hg hx _ j h
theorem zbI {g:Gr} (hg:yA g=true) {p:Nat→Bool} {x y j:Nat} (hx:x < g.1.toNat) (hp:p x=true) (hy:zcy g p x y=true) (hj:p j=true) (ha:adj g y j=true):zcy g p x j=true:=by
 have hcn:=vr (p:=p) (n:=g.1.toNat)
 have:=zgY hg hx hp (s:=g.1.toNat + 1) (by omega) j
 rw [← this]
 exact Jn.2 (.inr ⟨hj,y,zlc hg hx hy,hy,ha⟩)
end Go.Zq
namespace Go.Zq
def Y1 (p:Nat→Bool):Nat→Option Nat
 | 0=>none
 | n + 1=>match Y1 p n with
   | some x=>some x
   | none=>if p n then some n else none
theorem vn {p:Nat→Bool}:∀ {n:Nat},Y1 p n=none↔∀ j,j < n→p j=false
 | 0=>by simp [Y1]
 | n + 1=>by
   have ih:=vn (p:=p) (n:=n)
   simp only [Y1]
   cases h:Y1 p n with
   | some x=>
     simp only [reduceCtorEq,false_iff]
     intro hj
     have:=ih.2 (fun j hj'=>hj j (by omega))
     rw [h] at this;cases this
   | none=>
     simp only
     have h1:=ih.1 h
     by_cases hp:p n=true
     · rw [if_pos hp]
       simp only [reduceCtorEq,false_iff]
       intro hj;have:=hj n (by omega);rw [hp] at this;cases this
     · rw [if_neg hp]
       simp only [true_iff]
       intro j hj
       by_cases e:j=n
       · subst e;simpa using hp
       · exact h1 j (by omega)
theorem wL {p:Nat→Bool} {x:Nat}:∀ {n:Nat},Y1 p n=some x→x < n∧p x=true∧∀ j,j < x→p j=false
 | 0,h=>by simp [Y1] at h
 | n + 1,h=>by
   simp only [Y1] at h
   cases h1:Y1 p n with
   | some y=>
     rw [h1] at h
     simp only [Option.some.injEq] at h
     subst h
     have:=wL h1
     exact ⟨by omega,this.2⟩
   | none=>
     rw [h1] at h
     simp only at h
     split at h
     · rename_i hp
       simp only [Option.some.injEq] at h
       subst h
       exact ⟨by omega,hp,vn.1 h1⟩
     · cases h
theorem zhh {p:Nat→Bool} {n:Nat}:mkm p n=0↔Y1 p n=none:=by
 rw [vn]
 constructor
 · intro h j hj
   have:=yN (p:=p) n j
   rw [h,Nat.zero_testBit] at this
   simpa [hj] using this.symm
 · intro h
   apply Nat.eq_of_testBit_eq;intro j
   rw [yN,Nat.zero_testBit]
   by_cases hj:j < n
   · simp [h j hj]
   · simp [hj]
end Go.Zq
namespace Go.Zq
theorem zc1 {L:Nat→Int→Option Int} {n:Nat} {p:Nat→Bool} (hs:∀ k i,i < n→L (k + 1) (i:Int)=bif p i then some (i:Int) else L k ((i + 1:Nat):Int)) (he:∀ k,L (k + 1) (n:Int)=some (-1)) :
    ∀ k,n < k→∃ r,L k 0=some r∧decide (r≥0)=wd p n∧∀ i,Y1 p n=some i→r=i:=by
 have key:∀ d k i,i + d=n→d < k→(∀ j,j < i→p j=false)→∃ r,L k (i:Int)=some r∧decide (r≥0)=wd p n∧∀ i,Y1 p n=some i→r=i:=by
  intro d
  induction d with
  | zero=>
    intro k i hi hk hp
    obtain ⟨k,rfl⟩:∃ k',k=k' + 1:=⟨k - 1,by omega⟩
    obtain rfl:i=n:=by omega
    refine ⟨-1,he k,?_,?_⟩
    · have:wd p i=false:=by
       rw [Bool.eq_false_iff];intro h
       obtain ⟨j,hj,h⟩:=wP.1 h
       rw [hp j hj] at h;cases h
      rw [this];decide
    · intro j hj
      have:=wL hj
      rw [hp j this.1] at this;cases this.2.1
  | succ d ih=>
    intro k i hi hk hp
    obtain ⟨k,rfl⟩:∃ k',k=k' + 1:=⟨k - 1,by omega⟩
    rw [hs k i (by omega)]
    cases hpi:p i with
    | true=>
      refine ⟨i,by rw [cond_true],?_,?_⟩
      · rw [wP.2 ⟨i,by omega,hpi⟩];simp
      · intro j hj
        obtain ⟨h1,h2,h3⟩:=wL hj
        have a1:¬ i < j:=fun h=>by rw [h3 i h] at hpi;cases hpi
        have a2:¬ j < i:=fun h=>by rw [hp j h] at h2;cases h2
        omega
    | false=>
      rw [cond_false]
      refine ih k (i + 1) (by omega) (by omega) ?_
      intro j hj
      by_cases e:j=i
      · subst e;exact hpi
      · exact hp j (by omega)
 intro k hk
 exact key n k 0 (by omega) hk (fun j hj=>absurd hj (by omega))
theorem zgX {α:Type} {xs:List α} {i:Nat} (h:i≤xs.length):sub xs 0 (i:Int)=some (xs.take i):=by
 unfold sub
 rw [if_pos ⟨by omega,by omega,by omega⟩]
 simp
theorem zkl {l:List Int} {x:Int}:wd (fun i=>x == l.getD i 0) l.length=decide (x∈l):=by
 rw [Bool.eq_iff_iff,wP,decide_eq_true_eq]
 constructor
 · rintro ⟨i,hi,h⟩
   have e:x=l.getD i 0:=by simpa using h
   rw [e];exact wg hi
 · intro h
   obtain ⟨i,hi,e⟩:=List.mem_iff_getElem.1 h
   refine ⟨i,hi,?_⟩
   rw [List.getD_eq_getElem?_getD,List.getElem?_eq_getElem hi,Option.getD_some,e]
   exact beq_self_eq_true x
theorem zcG {F:Nat} {l:List Int} {x:Int} (hF:l.length < F) (hl:Sm l.length):xN F l x=some (decide (x∈l)):=by
 unfold xN wG
 obtain ⟨r,h1,h2,_⟩:=zc1 (L:=fun k i=>xw F l x k i) (n:=l.length) (p:=fun i=>x == l.getD i 0) (by
  intro k i hi
  simp only [xw]
  rw [decide_eq_true (show (i:Int) < (l.length:Int) by omega),cond_true,zI (d:=0) hi,Option.bind_some,zN hi hl]) (by
  intro k
  simp only [xw]
  rw [decide_eq_false (show ¬ (l.length:Int) < (l.length:Int) by omega),cond_false]) F hF
 rw [h1,Option.bind_some,h2,zkl]
def zdd (xs:List (List Int)):Nat→Nat
 | 0=>0
 | i + 1=>zdd xs i + (xs.getD i []).length
theorem N6 {xs:List (List Int)}:∀ {i j:Nat},i≤j→zdd xs i≤zdd xs j
 | i,0,h=>by obtain rfl:i=0:=by omega
             exact Nat.le_refl _
 | i,j + 1,h=>by
   by_cases e:i=j + 1
   · subst e;exact Nat.le_refl _
   · have:=N6 (xs:=xs) (i:=i) (j:=j) (by omega)
     simp only [zdd];omega
theorem zkx {xs:List (List Int)} {i:Nat} (h:i < xs.length):(xs.getD i []).length≤zdd xs xs.length:=by
 have:=N6 (xs:=xs) (i:=i + 1) (j:=xs.length) (by omega)
 simp only [zdd] at this;omega
end Go.Zq
namespace Go.Zq
def J5 (v:Int→Int) (s:Option Int) (y:Int):Option Int:=match s with
 | none=>some (v y)
 | some b=>if v y < b then some (v y) else some b
def mnO (v:Int→Int) (l:List Int):Option Int:=l.foldl (J5 v) none
def mn (v:Int→Int) (l:List Int) (nn:Int):Int:=(mnO v l).getD nn
theorem zcm {v:Int→Int} {l:List Int} {y:Int}:mnO v (l++[y])=J5 v (mnO v l) y:=by simp [mnO,List.foldl_append]
theorem Me {v:Int→Int}:∀ {l:List Int},mnO v l=none↔l=[]:=by
 intro l
 constructor
 · intro h
   cases hl:l.reverse with
   | nil=>simpa using hl
   | cons y ys=>
     have:l=ys.reverse++[y]:=by rw [← List.reverse_reverse l,hl];simp
     rw [this,zcm] at h
     unfold J5 at h
     split at h
     · cases h
     · split at h <;> cases h
 · rintro rfl;rfl
theorem L5 {v:Int→Int} {nn:Int}:mn v [] nn=nn:=rfl
theorem Km {v:Int→Int} {l:List Int} {y nn:Int}:mn v (l++[y]) nn=if l=[]∨v y < mn v l nn then v y else mn v l nn:=by
 unfold mn
 rw [zcm]
 cases h:mnO v l with
 | none=>
   have:=Me.1 h
   rw [if_pos (.inl this)];rfl
 | some b=>
   have hne:l≠[]:=fun e=>by rw [Me.2 e] at h;cases h
   simp only [J5,Option.getD_some,hne,false_or]
   split <;> rfl
theorem UZ {v w:Int→Int} {nn:Int} {l:List Int} (h:∀ y∈l,v y=w y):mn v l nn=mn w l nn:=by
 have key:∀ (l:List Int) (s:Option Int),(∀ y∈l,v y=w y)→l.foldl (J5 v) s=l.foldl (J5 w) s:=by
  intro l
  induction l with
  | nil=>intro s _;rfl
  | cons y l ih=>
    intro s h
    simp only [List.foldl_cons]
    have:J5 v s y=J5 w s y:=by
     unfold J5
     rw [h y (by simp)]
    rw [this]
    exact ih _ fun z hz=>h z (by simp [hz])
 unfold mn mnO
 rw [key l none h]
theorem zcW {v:Int→Int} {nn t:Int} {l:List Int} (hl:l≠[]):mn v l nn≤t↔∃ y∈l,v y≤t:=by
 have key:∀ (r:List Int),r≠[]→(mn v r.reverse nn≤t↔∃ y∈r,v y≤t):=by
  intro r
  induction r with
  | nil=>intro h;exact absurd rfl h
  | cons y r ih=>
    intro _
    rw [List.reverse_cons,Km]
    by_cases hr:r=[]
    · subst hr
      simp
    · have hr':r.reverse≠[]:=by simpa using hr
      have:=ih hr
      simp only [hr',false_or,List.mem_cons,exists_eq_or_imp]
      split
      · rename_i h
        constructor
        · intro h1;exact .inl h1
        · rintro (h1 | h1)
          · exact h1
          · have:=this.2 h1;omega
      · rename_i h
        constructor
        · intro h1;exact .inr (this.1 h1)
        · rintro (h1 | h1)
          · omega
          · exact this.2 h1
 have:=key l.reverse (by simpa using hl)
 simpa using this
theorem YI {v:Int→Int} {nn:Int} {l:List Int} (hl:l≠[]) (h:∀ y∈l,0≤v y):0≤mn v l nn:=by
 by_cases h0:mn v l nn≤-1
 · obtain ⟨y,hy,h1⟩:=(zcW hl).1 h0
   have:=h y hy;omega
 · omega
def yT (n m:Nat):List Int:=zD (fun x=>!m.testBit x) n
def Ku (n m:Nat):List Int:=zD m.testBit n
theorem vh {n m:Nat} {y:Int}:y∈yT n m↔∃ x:Nat,y=x∧x < n∧m.testBit x=false:=by
 unfold yT
 rw [xf]
 simp
theorem XI {n m:Nat} {y:Int}:y∈Ku n m↔∃ x:Nat,y=x∧x < n∧m.testBit x=true:=xf
theorem ZN:∀ c:Nat,c < 256→∀ y:Nat,y < 8→c.testBit y=false→c ||| 2 ^ y=c + 2 ^ y:=by decide +kernel
theorem QO:∀ c:Nat,c < 256→∀ y:Nat,y < 8→c.testBit y=true→2 ^ y≤c∧(c - 2 ^ y).testBit y=false∧(c - 2 ^ y) ||| 2 ^ y=c:=by decide +kernel
theorem Lb {n m:Nat} (hn:n≤8) (h:m < 2 ^ n):m < 256:=Nat.lt_of_lt_of_le h (by
 have:=Nat.pow_le_pow_right (n:=2) (by decide) hn
 simpa using this)
theorem WU {n m x:Nat} (h:m < 2 ^ n) (hx:x < n):m ||| 2 ^ x < 2 ^ n:=Nat.or_lt_two_pow h (Nat.pow_lt_pow_right (by decide) hx)
theorem Q5 {n m:Nat} (h:m < 2 ^ n) (hb:∀ x,x < n→m.testBit x=true):m=2 ^ n - 1:=by
 apply Nat.eq_of_testBit_eq
 intro j
 rw [Nat.testBit_two_pow_sub_one]
 by_cases hj:j < n
 · rw [hb j hj,decide_eq_true hj]
 · rw [decide_eq_false hj]
   exact Nat.testBit_lt_two_pow (Nat.lt_of_lt_of_le h (Nat.pow_le_pow_right (by decide) (by omega)))
theorem XL {n m:Nat} (h:m < 2 ^ n):yT n m=[]↔m=2 ^ n - 1:=by
 constructor
 · intro h0
   refine Q5 h fun x hx=>?_
   cases hb:m.testBit x with
   | true=>rfl
   | false=>
     have:(x:Int)∈yT n m:=vh.2 ⟨x,rfl,hx,hb⟩
     rw [h0] at this;cases this
 · rintro rfl
   rw [List.eq_nil_iff_forall_not_mem]
   intro y hy
   obtain ⟨x,_,hx,hb⟩:=vh.1 hy
   rw [Nat.testBit_two_pow_sub_one,decide_eq_true hx] at hb;cases hb
theorem zcA {n m:Nat} (h:m < 2 ^ n):Ku n m=[]↔m=0:=by
 constructor
 · intro h0
   apply Nat.eq_of_testBit_eq
   intro j
   rw [Nat.zero_testBit]
   by_cases hj:j < n
   · cases hb:m.testBit j with
     | false=>rfl
     | true=>
       have:(j:Int)∈Ku n m:=XI.2 ⟨j,rfl,hj,hb⟩
       rw [h0] at this;cases this
   · exact Nat.testBit_lt_two_pow (Nat.lt_of_lt_of_le h (Nat.pow_le_pow_right (by decide) (by omega)))
 · rintro rfl
   rw [List.eq_nil_iff_forall_not_mem]
   intro y hy
   obtain ⟨x,_,hx,hb⟩:=XI.1 hy
   simp at hb
def YG (n:Nat) (c:Nat→Nat→Int) (nn:Int) (T:Nat→Int):Prop:=∀ m,m < 2 ^ n→T m=mn (fun x=>max (c m x.toNat) (T (m ||| 2 ^ x.toNat))) (yT n m) nn
def ziR (n:Nat) (c:Nat→Int) (W:Nat→Int):Prop:=W 0=0∧∀ m,0 < m→m < 2 ^ n→W m=max (mn (fun x=>W (m - 2 ^ x.toNat)) (Ku n m) (-1)) (c m)
theorem zfU {n:Nat} {c:Nat→Nat→Int} {nn:Int} {T U:Nat→Int} (hn:n≤8) (hT:YG n c nn T) (hU:YG n c nn U):∀ m,m < 2 ^ n→T m=U m:=by
 have key:∀ d m,m + d=2 ^ n→m < 2 ^ n→T m=U m:=by
  intro d
  induction d using Nat.strongRecOn with
  | ind d ih=>
    intro m hd hm
    rw [hT m hm,hU m hm]
    refine UZ fun y hy=>?_
    obtain ⟨x,rfl,hx,hb⟩:=vh.1 hy
    have h1:=ZN m (Lb hn hm) x (by omega) hb
    have h2:=WU hm hx
    have h3:=Nat.two_pow_pos x
    rw [Int.toNat_natCast,ih (2 ^ n - (m ||| 2 ^ x)) (by omega) (m ||| 2 ^ x) (by omega) h2]
 intro m hm
 exact key (2 ^ n - m) m (by omega) hm
inductive Ch (n:Nat) (c:Nat→Int) (t:Int):Nat→Nat→Prop
 | refl (m:Nat):Ch n c t m m
 | step {m x m':Nat}:x < n→m.testBit x=false→c (m ||| 2 ^ x)≤t→Ch n c t (m ||| 2 ^ x) m'→Ch n c t m m'
theorem QX {n:Nat} {c:Nat→Int} {t:Int} {a m x:Nat} (h:Ch n c t a m) (hx:x < n) (hb:m.testBit x=false) (hc:c (m ||| 2 ^ x)≤t):Ch n c t a (m ||| 2 ^ x):=by
 induction h with
 | refl m=>exact .step hx hb hc (.refl _)
 | step h1 h2 h3 _ ih=>exact .step h1 h2 h3 (ih hb hc)
theorem zkv {n:Nat} {c:Nat→Int} {t:Int} (hn:n≤8) {a b:Nat} (h:Ch n c t a b) (ha:a < 2 ^ n):a=b∨∃ x,x < n∧b.testBit x=true∧c b≤t∧Ch n c t a (b - 2 ^ x):=by
 induction h with
 | refl m=>exact .inl rfl
 | step h1 h2 h3 h4 ih=>
   rename_i m x m'
   right
   rcases ih (WU ha h1) with rfl | ⟨y,y1,y2,y3,y4⟩
   · refine ⟨x,h1,by rw [Nat.testBit_or,Nat.testBit_two_pow];simp,h3,?_⟩
     rw [ZN m (Lb hn ha) x (by omega) h2,Nat.add_sub_cancel]
     exact .refl _
   · exact ⟨y,y1,y2,y3,.step h1 h2 h3 y4⟩
theorem LN {n:Nat} {c:Nat→Int} {t:Int} {T:Nat→Int} (hn:n≤8) (hT:YG n (fun m x=>c (m ||| 2 ^ x)) 0 T) (ht:0≤t):∀ m,m < 2 ^ n→(T m≤t↔Ch n c t m (2 ^ n - 1)):=by
 have key:∀ d m,m + d=2 ^ n→m < 2 ^ n→(T m≤t↔Ch n c t m (2 ^ n - 1)):=by
  intro d
  induction d using Nat.strongRecOn with
  | ind d ih=>
    intro m hd hm
    rw [hT m hm]
    by_cases hf:m=2 ^ n - 1
    · rw [(XL hm).2 hf,L5]
      subst hf
      exact ⟨fun _=>.refl _,fun _=>ht⟩
    · have hne:yT n m≠[]:=fun e=>hf ((XL hm).1 e)
      rw [zcW hne]
      constructor
      · rintro ⟨y,hy,h⟩
        obtain ⟨x,rfl,hx,hb⟩:=vh.1 hy
        rw [Int.toNat_natCast] at h
        have h:max (c (m ||| 2 ^ x)) (T (m ||| 2 ^ x))≤t:=h
        have h1:=ZN m (Lb hn hm) x (by omega) hb
        have h2:=WU hm hx
        have h3:=Nat.two_pow_pos x
        exact .step hx hb (by omega) ((ih (2 ^ n - (m ||| 2 ^ x)) (by omega) (m ||| 2 ^ x) (by omega) h2).1 (by omega))
      · intro h
        cases h with
        | refl=>exact absurd rfl hf
        | step hx hb hc h=>
          rename_i x
          have h1:=ZN m (Lb hn hm) x (by omega) hb
          have h2:=WU hm hx
          have h3:=Nat.two_pow_pos x
          refine ⟨(x:Int),vh.2 ⟨x,rfl,hx,hb⟩,?_⟩
          rw [Int.toNat_natCast]
          have:=(ih (2 ^ n - (m ||| 2 ^ x)) (by omega) (m ||| 2 ^ x) (by omega) h2).2 h
          exact Int.max_le.2 ⟨hc,this⟩
 intro m hm
 exact key (2 ^ n - m) m (by omega) hm
theorem zhn {n:Nat} {c:Nat→Int} {t:Int} {W:Nat→Int} (hn:n≤8) (hW:ziR n c W) (ht:0≤t):∀ m,m < 2 ^ n→(W m≤t↔Ch n c t 0 m):=by
 intro m
 induction m using Nat.strongRecOn with
 | ind m ih=>
   intro hm
   by_cases h0:m=0
   · subst h0
     rw [hW.1]
     exact ⟨fun _=>.refl _,fun _=>ht⟩
   · rw [hW.2 m (by omega) hm]
     have hne:Ku n m≠[]:=fun e=>h0 ((zcA hm).1 e)
     rw [Int.max_le,zcW hne]
     constructor
     · rintro ⟨⟨y,hy,h⟩,hc⟩
       obtain ⟨x,rfl,hx,hb⟩:=XI.1 hy
       rw [Int.toNat_natCast] at h
       obtain ⟨s1,s2,s3⟩:=QO m (Lb hn hm) x (by omega) hb
       have h3:=Nat.two_pow_pos x
       have:=QX ((ih (m - 2 ^ x) (by omega) (by omega)).1 h) hx s2 (by rw [s3];exact hc)
       rwa [s3] at this
     · intro h
       rcases zkv hn h (Nat.two_pow_pos n) with h | ⟨x,hx,hb,hc,h⟩
       · omega
       · obtain ⟨s1,s2,s3⟩:=QO m (Lb hn hm) x (by omega) hb
         have h3:=Nat.two_pow_pos x
         refine ⟨⟨(x:Int),XI.2 ⟨x,rfl,hx,hb⟩,?_⟩,hc⟩
         rw [Int.toNat_natCast]
         exact (ih (m - 2 ^ x) (by omega) (by omega)).2 h
theorem zbQ {n:Nat} {c:Nat→Int} {W T:Nat→Int} (hn:n≤8) (hc:∀ m,0≤c m) (hW:ziR n c W) (hT:YG n (fun m x=>c (m ||| 2 ^ x)) 0 T):W (2 ^ n - 1)=T 0:=by
 have hp:=Nat.two_pow_pos n
 have hT0:0≤T 0:=by
  rw [hT 0 hp]
  by_cases h:yT n 0=[]
  · rw [h];exact Int.le_refl _
  · refine YI h fun y _=>?_
    have:=hc (0 ||| 2 ^ y.toNat)
    show 0≤max (c (0 ||| 2 ^ y.toNat)) (T (0 ||| 2 ^ y.toNat))
    omega
 have hW0:0≤W (2 ^ n - 1):=by
  by_cases h:2 ^ n - 1=0
  · rw [h,hW.1];exact Int.le_refl _
  · rw [hW.2 _ (by omega) (by omega)]
    have:=hc (2 ^ n - 1)
    omega
 apply Int.le_antisymm
 · exact (zhn hn hW hT0 _ (by omega)).2 ((LN hn hT hT0 0 hp).1 (Int.le_refl _))
 · exact (LN hn hT hW0 0 hp).2 ((zhn hn hW hW0 _ (by omega)).1 (Int.le_refl _))
end Go.Zq
namespace Go.Zq
def frt (g:Gr) (p:Nat→Bool) (j:Nat):Bool:=p j && wd (fun y=>adj g j y && !p y) g.1.toNat
theorem zgH {F:Nat} {g:Gr} {p:Nat→Bool} (hg:yA g=true) (hF:20≤F) (hG:g.2.length < F) (hs:Sm g.2.length):Zp F g (zD p g.1.toNat)=some (zD (frt g p) g.1.toNat):=by
 have h8:=zC hg
 have hp8:(zD p g.1.toNat).length≤8:=by rw [xb];exact Nat.le_trans vr (by omega)
 let Q:Nat→Nat→Bool:=fun i j=>decide ((j:Int)∈(zD p g.1.toNat).take i) && wd (fun y=>adj g j y && !p y) g.1.toNat
 unfold Zp
 refine wh (L:=fun k i s=>wI F (zD p g.1.toNat) g k s i) (n:=(zD p g.1.toNat).length) (fun i s=>s=zD (Q i) g.1.toNat) ?_ ?_ F _ (by omega) ?_
 · intro k i s hi hI
   subst hI
   refine ⟨_,rfl,?_⟩
   obtain ⟨a,ha,han,hap⟩:=WV hi
   simp only [wI]
   rw [decide_eq_true (show (i:Int) < ((zD p g.1.toNat).length:Int) by omega),cond_true]
   refine wh (L:=fun k2 y s=>wW F (zD p g.1.toNat) g (i:Int) (wI F (zD p g.1.toNat) g k) k2 s y) (n:=g.1.toNat) (fun y s=>s=zD (fun j=>Q i j || (j == a && wd (fun y=>adj g a y && !p y) y)) g.1.toNat) ?_ ?_ F _ (by omega) ?_
   · intro k2 y s hy hI
     subst hI
     refine ⟨_,rfl,?_⟩
     simp only [wW,Xj,Xl]
     rw [decide_eq_true (show (y:Int) < g.1 by omega),cond_true,zI (d:=0) hi,Option.bind_some,Option.bind_some,ha,Kb hG hs,Option.bind_some,zgE (by omega) hy (by omega),Option.bind_some,zjQ (by omega) han (by omega),Option.bind_some,zN hy (by unfold Sm;omega)]
     have hsame:(adj g a y && !p y)=false→zD (fun j=>Q i j || (j == a && wd (fun y=>adj g a y && !p y) (y + 1))) g.1.toNat=zD (fun j=>Q i j || (j == a && wd (fun y=>adj g a y && !p y) y)) g.1.toNat:=by
      intro h
      apply wt
      intro j _
      simp only [wd]
      rw [h,Bool.or_false]
     cases h1:adj g a y with
     | false=>rw [hsame (by rw [h1];rfl)];rfl
     | true=>
       rw [cond_true]
       cases h2:p y with
       | true=>rw [hsame (by rw [h1,h2];rfl)];rfl
       | false=>
         rw [Bool.not_false,cond_true]
         congr 1
         apply wt
         intro j _
         simp only [wd]
         rw [h1,h2]
         by_cases e:j=a
         · subst e;simp
         · have:(j == a)=false:=by simpa using e
           rw [this];simp
   · intro k2 s hI
     subst hI
     simp only [wW]
     rw [decide_eq_false (show ¬ (g.1.toNat:Int) < g.1 by omega),cond_false,zN hi (by unfold Sm;omega)]
     congr 1
     apply wt
     intro j _
     have hp2:=Yk (x:=a) hi ha j
     unfold xr at hp2
     show (Q i j || _)=Q (i + 1) j
     show (Q i j || _)=(decide ((j:Int)∈(zD p g.1.toNat).take (i + 1)) && wd (fun y=>adj g j y && !p y) g.1.toNat)
     rw [hp2]
     by_cases e:j=a
     · subst e
       rw [beq_self_eq_true,Bool.true_and,Bool.or_true,Bool.true_and]
       show ((_ && wd (fun y=>adj g j y && !p y) g.1.toNat) || _)=_
       cases wd (fun y=>adj g j y && !p y) g.1.toNat <;> simp
     · have:(j == a)=false:=by simpa using e
       rw [this,Bool.false_and,Bool.or_false,Bool.or_false]
   · apply wt
     intro j _
     simp [wd]
 · intro k s hI
   subst hI
   simp only [wI]
   rw [decide_eq_false (show ¬ ((zD p g.1.toNat).length:Int) < ((zD p g.1.toNat).length:Int) by omega),cond_false]
   congr 1
   apply wt
   intro j hj
   show (decide ((j:Int)∈(zD p g.1.toNat).take (zD p g.1.toNat).length) && _)=_
   rw [List.take_length]
   unfold frt
   congr 1
   rw [Bool.eq_iff_iff,decide_eq_true_eq,xf]
   constructor
   · rintro ⟨j',e,_,h⟩
     obtain rfl:j=j':=by omega
     exact h
   · exact fun h=>⟨j,rfl,hj,h⟩
 · have:zD (Q 0) g.1.toNat=zD (fun _=>false) g.1.toNat:=by
    apply wt
    intro j _
    show (decide ((j:Int)∈(zD p g.1.toNat).take 0) && _)=false
    simp
   rw [this];simp [zD]
theorem zgz {F:Nat} {g:Gr} {p:Nat→Bool} (hg:yA g=true) (hF:20≤F):Zi F ⟨zW g⟩ ((mkm p g.1.toNat:Nat):Int)=some ((mkm (frt g p) g.1.toNat:Nat):Int):=by
 have h8:=zC hg
 have hp8:(zD p g.1.toNat).length≤8:=by rw [xb];exact Nat.le_trans vr (by omega)
 unfold Zi
 rw [WH (by omega) hF,Option.bind_some]
 refine wh (L:=fun k i s=>xH F ((mkm p g.1.toNat:Nat):Int) ⟨zW g⟩ (zD p g.1.toNat) k s i) (n:=(zD p g.1.toNat).length) (fun i s=>s=((mkm (fun j=>decide ((j:Int)∈(zD p g.1.toNat).take i) && wd (fun y=>adj g j y && !p y) g.1.toNat) g.1.toNat:Nat):Int)) ?_ ?_ F _ (by omega) ?_
 · intro k i s hi hI
   subst hI
   refine ⟨_,rfl,?_⟩
   obtain ⟨a,ha,han,hap⟩:=WV hi
   simp only [xH,Zb]
   rw [decide_eq_true (show (i:Int) < ((zD p g.1.toNat).length:Int) by omega),cond_true,zI (d:=0) hi,Option.bind_some,ha,zI (d:=0) (by rw [wo];exact han),Option.bind_some,WP han,xC (by omega),Option.bind_some,zN hi (by unfold Sm;omega)]
   obtain ⟨c,hc,_,hb⟩:=Ye (uh (p:=adj g a) (n:=g.1.toNat) (by omega)) (uh (p:=p) (n:=g.1.toNat) (by omega))
   rw [hc]
   have hiff:c=0↔wd (fun y=>adj g a y && !p y) g.1.toNat=false:=by
    rw [LT,Bool.not_eq_false',yE]
    constructor
    · intro h0 y hy
      have:=hb y
      rw [h0,Nat.zero_testBit,yN,yN,decide_eq_true hy,Bool.true_and,Bool.true_and] at this
      rw [← this];rfl
    · intro h
      apply Nat.eq_of_testBit_eq
      intro y
      rw [hb,yN,yN,Nat.zero_testBit]
      by_cases hy:y < g.1.toNat
      · have:=h y hy
        rw [decide_eq_true hy,Bool.true_and,Bool.true_and]
        cases h6:(adj g a y && !p y) with
        | false=>rfl
        | true=>rw [h6] at this;cases this
      · rw [decide_eq_false hy];rfl
   have hset:∀ b:Bool,wd (fun y=>adj g a y && !p y) g.1.toNat=b→∀ j:Nat,(decide ((j:Int)∈(zD p g.1.toNat).take (i + 1)) && wd (fun y=>adj g j y && !p y) g.1.toNat)=((decide ((j:Int)∈(zD p g.1.toNat).take i) && wd (fun y=>adj g j y && !p y) g.1.toNat) || (b && j == a)):=by
    intro b hbb j
    have hp2:=Yk (x:=a) hi ha j
    unfold xr at hp2
    rw [hp2]
    by_cases e:j=a
    · subst e
      rw [hbb,beq_self_eq_true,Bool.or_true,Bool.true_and,Bool.and_true]
      cases b <;> simp
    · have:(j == a)=false:=by simpa using e
      rw [this,Bool.and_false,Bool.or_false,Bool.or_false]
   cases hany:wd (fun y=>adj g a y && !p y) g.1.toNat with
   | false=>
     rw [hiff.2 hany]
     have:mkm (fun j=>decide ((j:Int)∈(zD p g.1.toNat).take (i + 1)) && wd (fun y=>adj g j y && !p y) g.1.toNat) g.1.toNat=mkm (fun j=>decide ((j:Int)∈(zD p g.1.toNat).take i) && wd (fun y=>adj g j y && !p y) g.1.toNat) g.1.toNat:=by
      apply YN
      intro j _
      rw [hset false hany j];simp
     rw [this];rfl
   | true=>
     have hne:c≠0:=fun e=>by rw [hiff.1 e] at hany;cases hany
     have hne2:((c:Int) != 0)=true:=by simpa using hne
     rw [hne2,cond_true,Zt (uh (by omega)) (uR (by omega))]
     congr 2
     refine YE fun j=>?_
     rw [Nat.testBit_or,yN,Nat.testBit_two_pow,hset true hany j,Bool.true_and]
     by_cases e:j=a
     · subst e
       rw [decide_eq_true han];simp
     · have e1:(j == a)=false:=by simpa using e
       rw [e1,decide_eq_false (show ¬ a=j by omega),Bool.or_false,Bool.or_false]
 · intro k s hI
   subst hI
   simp only [xH]
   rw [decide_eq_false (show ¬ ((zD p g.1.toNat).length:Int) < ((zD p g.1.toNat).length:Int) by omega),cond_false]
   congr 2
   apply YN
   intro j hj
   rw [List.take_length]
   unfold frt
   congr 1
   rw [Bool.eq_iff_iff,decide_eq_true_eq,xf]
   constructor
   · rintro ⟨j',e,_,h⟩
     obtain rfl:j=j':=by omega
     exact h
   · exact fun h=>⟨j,rfl,hj,h⟩
 · have:mkm (fun j=>decide ((j:Int)∈(zD p g.1.toNat).take 0) && wd (fun y=>adj g j y && !p y) g.1.toNat) g.1.toNat=0:=by
    rw [zhh,vn]
    intro j _
    simp
   rw [this];rfl
def frC (g:Gr) (m:Nat):Int:=(yy (frt g m.testBit) g.1.toNat:Int)
theorem JH {g:Gr} {m:Nat}:0≤frC g m:=by unfold frC;omega
theorem zb9 {n m:Nat} (h:m < 2 ^ n):mkm m.testBit n=m:=by
 symm
 refine YE fun j=>?_
 by_cases hj:j < n
 · rw [decide_eq_true hj,Bool.true_and]
 · rw [decide_eq_false hj,Bool.false_and]
   exact Nat.testBit_lt_two_pow (Nat.lt_of_lt_of_le h (Nat.pow_le_pow_right (by decide) (by omega)))
theorem zaR {F:Nat} {g:Gr} {m x:Nat} (hg:yA g=true) (hF:20≤F) (hm:m < 2 ^ g.1.toNat) (hx:x < g.1.toNat):xe F ⟨zW g⟩ (m:Int) (x:Int)=some (frC g (m ||| 2 ^ x)):=by
 have h8:=zC hg
 have h256:=Lb (by omega) hm
 unfold xe
 rw [xC (by omega),Option.bind_some,Zt (by omega) (uR (by omega))]
 have hf:=zgz (F:=F) (p:=(m ||| 2 ^ x).testBit) hg hF
 rw [zb9 (WU hm hx)] at hf
 rw [hf,Option.bind_some,zae (zaz (by omega)),Option.bind_some,MI (by omega)]
 rfl
def frP (g:Gr) (m x:Nat):Int:=frC g (m ||| 2 ^ x)
theorem Nf {F:Nat} {g:Gr} {m x:Nat} (hg:yA g=true) (hF:20≤F) (hm:m < 2 ^ g.1.toNat) (hx:x < g.1.toNat):xe F ⟨zW g⟩ (m:Int) (x:Int)=some (frP g m x):=zaR hg hF hm hx
end Go.Zq
namespace Go.Zq
theorem UE {F:Nat} {g:Gr} {nn:Int} (hg:yA g=true) (hF:300≤F) :
    ∃ best:List Int,zY F ⟨zW g⟩ nn ⟨(⟨zW g⟩,()),()⟩=some best∧best.length=2 ^ g.1.toNat∧YG g.1.toNat (frP g) nn (fun m=>best.getD m 0):=by
 have h8:=zC hg
 obtain ⟨n,hn⟩:∃ n:Nat,g.1.toNat=n:=⟨_,rfl⟩
 have hn8:n≤8:=by omega
 have hpow:=Nat.two_pow_pos n
 have hp256:2 ^ n≤256:=by
  have:=Nat.pow_le_pow_right (n:=2) (by decide) hn8
  simpa using this
 have hall:yI F ⟨zW g⟩=some ((2 ^ n - 1:Nat):Int):=by
  unfold yI
  rw [wo,hn,xC (by omega),Option.bind_some,yF (by omega) (by omega)]
  congr 1;omega
 have hw:w64 (((2 ^ n - 1:Nat):Int) + 1)=((2 ^ n:Nat):Int):=by rw [yF (by omega) (by omega)];omega
 unfold zY
 rw [hall,Option.bind_some,hw,LH (by omega),Option.bind_some,Option.bind_some,hn]
 have key:∀ d k (best:List Int),d≤2 ^ n→d < k→best.length=2 ^ n →
     (∀ j,d≤j→j < 2 ^ n→best.getD j 0=mn (fun x=>max (frP g j x.toNat) (best.getD (j ||| 2 ^ x.toNat) 0)) (yT n j) nn) →
     ∃ b,zB F nn ⟨(⟨zW g⟩,()),()⟩ ⟨zW g⟩ k best ((d:Int) - 1)=some b∧b.length=2 ^ n∧YG n (frP g) nn (fun m=>b.getD m 0):=by
  intro d
  induction d with
  | zero=>
    intro k best _ hk hlen hrec
    obtain ⟨k,rfl⟩:∃ k',k=k' + 1:=⟨k - 1,by omega⟩
    refine ⟨best,?_,hlen,fun m hm=>hrec m (by omega) hm⟩
    simp only [zB]
    rw [decide_eq_false (by omega),cond_false]
  | succ d ih=>
    intro k best hd hk hlen hrec
    obtain ⟨k,rfl⟩:∃ k',k=k' + 1:=⟨k - 1,by omega⟩
    have hdn:d < 2 ^ n:=by omega
    have e0:((d + 1:Nat):Int) - 1=(d:Int):=by omega
    have hmk:xp .i64 ((2 ^ n - 1:Nat):Int) (d:Int)=((mkm (fun x=>!d.testBit x) n:Nat):Int):=by
     obtain ⟨c,hc,_,hb⟩:=Ye (a:=2 ^ n - 1) (b:=d) (by omega) (by omega)
     rw [hc]
     congr 1
     refine YE fun j=>?_
     rw [hb,Nat.testBit_two_pow_sub_one]
    have hl8:(yT n d).length≤8:=by unfold yT;rw [xb];exact Nat.le_trans vr hn8
    simp only [zB]
    rw [e0,decide_eq_true (by omega),cond_true,zI (d:=0) (by omega),Option.bind_some,hall,Option.bind_some,hmk,WH hn8 (by omega),Option.bind_some,Int.toNat_natCast]
    obtain ⟨s,hs,he⟩:=Wd (L:=fun k2 t s=>zG F nn ⟨(⟨zW g⟩,()),()⟩ ⟨zW g⟩ (d:Int) (yT n d) (zB F nn ⟨(⟨zW g⟩,()),()⟩ ⟨zW g⟩ k) k2 s t) (n:=(yT n d).length)
     (fun t s=>s=best.set d (mn (fun x=>max (frP g d x.toNat) (best.getD (d ||| 2 ^ x.toNat) 0)) ((yT n d).take t) nn)) (fin:=fun s=>zB F nn ⟨(⟨zW g⟩,()),()⟩ ⟨zW g⟩ k s ((d:Int) - 1)) (by
       intro k2 t s ht hI
       subst hI
       refine ⟨_,rfl,?_⟩
       obtain ⟨x,hx,hxn,hxb⟩:=vh.1 (wg (d:=0) ht)
       have hgt:=ZN d (by omega) x (by omega) hxb
       have hxp:=Nat.two_pow_pos x
       have hor:=WU hdn hxn
       have hcost:=Nf (F:=F) (m:=d) (x:=x) hg (by omega) (by rw [hn];exact hdn) (by rw [hn];exact hxn)
       have htake:(yT n d).take (t + 1)=(yT n d).take t++[(x:Int)]:=by
        rw [List.take_add_one,List.getElem?_eq_getElem ht]
        rw [List.getD_eq_getElem?_getD,List.getElem?_eq_getElem ht,Option.getD_some] at hx
        rw [hx];rfl
       have hget:∀ a:Int,(best.set d a).getD (d ||| 2 ^ x) 0=best.getD (d ||| 2 ^ x) 0:=by
        intro a
        rw [List.getD_eq_getElem?_getD,List.getElem?_set_ne (by omega),← List.getD_eq_getElem?_getD]
       have hgetd:∀ a:Int,(best.set d a).getD d 0=a:=by
        intro a
        rw [List.getD_eq_getElem?_getD,List.getElem?_set_self (by omega),Option.getD_some]
       simp only [zG,ym,yn]
       rw [decide_eq_true (show (t:Int) < ((yT n d).length:Int) by omega),cond_true,zI (d:=0) ht,Option.bind_some,hx]
       rw [hcost,Option.bind_some,xC (by omega),Option.bind_some,Zt (by omega) (uR (by omega)),zI (d:=0) (by rw [List.length_set];omega),Option.bind_some,hget,zI (d:=0) (by rw [List.length_set];omega),Option.bind_some,Option.bind_some,hgetd,Int.toNat_natCast,List.set_set,zN ht (by unfold Sm;omega),htake,Km]
       have hmax:(if best.getD (d ||| 2 ^ x) 0 > frP g d x then best.getD (d ||| 2 ^ x) 0 else frP g d x)=max (frP g d x) (best.getD (d ||| 2 ^ x) 0):=by
        by_cases h:best.getD (d ||| 2 ^ x) 0 > frP g d x
        · rw [if_pos h,Int.max_eq_right (by omega)]
        · rw [if_neg h,Int.max_eq_left (by omega)]
       rw [hmax,Int.toNat_natCast]
       by_cases ht0:t=0
       · subst ht0
         rw [if_pos (.inl (by simp))]
         rfl
       · have hne:(yT n d).take t≠[]:=by
          intro e
          have:=congrArg List.length e
          rw [List.length_take] at this
          simp only [List.length_nil] at this
          omega
         have hb:((t:Int) == 0)=false:=by rw [beq_eq_false_iff_ne];omega
         rw [hb,cond_false]
         by_cases hlt:max (frP g d x) (best.getD (d ||| 2 ^ x) 0) < mn (fun x=>max (frP g d x.toNat) (best.getD (d ||| 2 ^ x.toNat) 0)) ((yT n d).take t) nn
         · rw [decide_eq_true hlt,cond_true,if_pos (.inr hlt)]
         · rw [decide_eq_false hlt,cond_false,if_neg (fun h=>h.elim hne hlt)]) (by
       intro k2 s hI
       simp only [zG]
       rw [decide_eq_false (show ¬ ((yT n d).length:Int) < ((yT n d).length:Int) by omega),cond_false,yF (by omega) (by omega)]) F (best.set d nn) (by omega) rfl
    have he':zG F nn ⟨(⟨zW g⟩,()),()⟩ ⟨zW g⟩ (d:Int) (yT n d) (zB F nn ⟨(⟨zW g⟩,()),()⟩ ⟨zW g⟩ k) F (best.set d nn) 0=zB F nn ⟨(⟨zW g⟩,()),()⟩ ⟨zW g⟩ k s ((d:Int) - 1):=he
    rw [List.take_length] at hs
    rw [show zD (fun x=>!d.testBit x) n=yT n d from rfl,he']
    refine ih k s (by omega) (by omega) (by rw [hs,List.length_set];exact hlen) ?_
    have hsd:s.getD d 0=mn (fun x=>max (frP g d x.toNat) (best.getD (d ||| 2 ^ x.toNat) 0)) (yT n d) nn:=by
     rw [hs,List.getD_eq_getElem?_getD,List.getElem?_set_self (by omega),Option.getD_some]
    have hsne:∀ j,j≠d→s.getD j 0=best.getD j 0:=by
     intro j hj
     rw [hs,List.getD_eq_getElem?_getD,List.getElem?_set_ne (by omega),← List.getD_eq_getElem?_getD]
    intro j h1 h2
    have hcg:mn (fun x=>max (frP g j x.toNat) (best.getD (j ||| 2 ^ x.toNat) 0)) (yT n j) nn=mn (fun x=>max (frP g j x.toNat) (s.getD (j ||| 2 ^ x.toNat) 0)) (yT n j) nn:=by
     refine UZ fun y hy=>?_
     obtain ⟨x,rfl,hxn,hxb⟩:=vh.1 hy
     have hgt:=ZN j (by omega) x (by omega) hxb
     have hxp:=Nat.two_pow_pos x
     rw [Int.toNat_natCast,hsne _ (by omega)]
    by_cases e:j=d
    · subst e;rw [hsd,hcg]
    · rw [hsne j e,hrec j (by omega) h2,hcg]
 have e1:((2 ^ n - 1:Nat):Int)=((2 ^ n:Nat):Int) - 1:=by omega
 rw [e1]
 exact key (2 ^ n) F _ (by omega) (by omega) (by simp) (fun j h1 h2=>absurd h2 (by omega))
end Go.Zq
namespace Go.Zq
theorem Wq {n:Nat} (hn:n≤8):2 ^ n≤256:=by
 have:=Nat.pow_le_pow_right (n:=2) (by decide) hn
 simpa using this
theorem Qc {F:Nat} {g:Gr} (hg:yA g=true) (hF:300≤F) (hG:g.2.length < F) (hs:Sm g.2.length) :
    ∃ out:List Int,JR F g=some out∧out.length=2 ^ g.1.toNat∧ziR g.1.toNat (frC g) (fun m=>out.getD m 0):=by
 have h8:=zC hg
 obtain ⟨n,hn⟩:∃ n:Nat,g.1.toNat=n:=⟨_,rfl⟩
 have hn8:n≤8:=by omega
 have hgn:g.1=(n:Int):=by omega
 have hpow:=Nat.two_pow_pos n
 have hp256:=Wq hn8
 rw [hn]
 unfold JR
 obtain ⟨s,⟨i1,i2,i3⟩,he⟩:=Wd (L:=fun k i s=>vR F g k s (i + 1)) (n:=2 ^ n - 1)
  (fun i s=>s.length=i + 1∧(∀ j,j < i + 1→0≤s.getD j 0)∧(s.getD 0 0=0∧∀ j,0 < j→j < i + 1→s.getD j 0=max (mn (fun x=>s.getD (j - 2 ^ x.toNat) 0) (Ku n j) (-1)) (frC g j))) (fin:=fun s=>some s) (by
    rintro k i s hi ⟨i1,i2,i3,i4⟩
    have hc2:i + 1 < 2 ^ n:=by omega
    have e1:((i:Int) + 1)=((i + 1:Nat):Int):=by omega
    obtain ⟨code,hcode⟩:∃ code,i + 1=code:=⟨_,rfl⟩
    have hc0:0 < code:=by omega
    have hfr:Zp F g (zD code.testBit n)=some (zD (frt g code.testBit) n):=by
     have:=zgH (F:=F) (p:=code.testBit) hg (by omega) hG hs
     rwa [hn] at this
    have hne:Ku n code≠[]:=fun e=>by have:=(zcA (by omega)).1 e;omega
    have hv:∀ y∈Ku n code,0≤s.getD (code - 2 ^ y.toNat) 0:=by
     intro y hy
     obtain ⟨x,rfl,hx,hb⟩:=XI.1 hy
     have:=Nat.two_pow_pos x
     rw [Int.toNat_natCast]
     exact i2 _ (by omega)
    have hmn0:=YI (nn:=-1) hne hv
    refine ⟨s++[max (mn (fun x=>s.getD (code - 2 ^ x.toNat) 0) (Ku n code) (-1)) (frC g code)],⟨by rw [List.length_append];simp;omega,?_,?_,?_⟩,?_⟩
    · intro j hj
      by_cases e:j < code
      · rw [List.getD_eq_getElem?_getD,List.getElem?_append_left (by omega),← List.getD_eq_getElem?_getD];exact i2 j (by omega)
      · obtain rfl:j=s.length:=by omega
        rw [List.getD_eq_getElem?_getD,List.getElem?_append_right (by omega)]
        simp only [Nat.sub_self,List.getElem?_cons_zero,Option.getD_some]
        omega
    · rw [List.getD_eq_getElem?_getD,List.getElem?_append_left (by omega),← List.getD_eq_getElem?_getD];exact i3
    · intro j h0 hj
      have hold:∀ k,k < code→(s++[max (mn (fun x=>s.getD (code - 2 ^ x.toNat) 0) (Ku n code) (-1)) (frC g code)]).getD k 0=s.getD k 0:=by
       intro k hk
       rw [List.getD_eq_getElem?_getD,List.getElem?_append_left (by omega),← List.getD_eq_getElem?_getD]
      have hcg:mn (fun x=>(s++[max (mn (fun x=>s.getD (code - 2 ^ x.toNat) 0) (Ku n code) (-1)) (frC g code)]).getD (j - 2 ^ x.toNat) 0) (Ku n j) (-1)=mn (fun x=>s.getD (j - 2 ^ x.toNat) 0) (Ku n j) (-1):=by
       refine UZ fun y hy=>?_
       obtain ⟨x,rfl,hx,hb⟩:=XI.1 hy
       have:=Nat.two_pow_pos x
       rw [Int.toNat_natCast,hold _ (by omega)]
      rw [hcg]
      by_cases e:j < code
      · rw [hold j e];exact i4 j h0 (by omega)
      · obtain rfl:j=code:=by omega
        rw [List.getD_eq_getElem?_getD,List.getElem?_append_right (by omega)]
        have:j - s.length=0:=by omega
        rw [this];rfl
    · simp only [vR]
      rw [hgn,xC (by omega),Option.bind_some,e1,hcode,decide_eq_true (show (code:Int) < ((2 ^ n:Nat):Int) by omega),cond_true]
      refine wh (L:=fun k2 x b=>vK F g s (code:Int) (vR F g k) k2 b x) (n:=n) (fun x b=>b=mn (fun y=>s.getD (code - 2 ^ y.toNat) 0) (zD code.testBit x) (-1)) ?_ ?_ F _ (by omega) rfl
      · intro k2 x b hx hI
        subst hI
        refine ⟨_,rfl,?_⟩
        obtain ⟨q,q1,q2,_⟩:=U0 (m:=code) (j:=x) (by omega) (by omega)
        simp only [vK,Wi,YS]
        rw [hgn,decide_eq_true (show (x:Int) < (n:Int) by omega),cond_true,q1,Option.bind_some,q2,zN hx (by unfold Sm;omega)]
        cases hb:code.testBit x with
        | false=>
          rw [cond_false,xm,hb];simp
        | true=>
          obtain ⟨s1,_,_⟩:=QO code (by omega) x (by omega) hb
          have hxp:=Nat.two_pow_pos x
          have hw:w64 ((code:Int) - ((2 ^ x:Nat):Int))=((code - 2 ^ x:Nat):Int):=by rw [yF (by omega) (by omega)];omega
          rw [cond_true,xC (by omega),Option.bind_some,Option.bind_some,hw,zI (d:=0) (by omega),Option.bind_some,Option.bind_some,xm,hb,if_pos rfl,Km,Int.toNat_natCast]
          by_cases hl:zD code.testBit x=[]
          · rw [hl,L5,if_pos (.inl rfl),decide_eq_true (by omega)];rfl
          · have h0:=YI (nn:=-1) (v:=fun y=>s.getD (code - 2 ^ y.toNat) 0) hl (fun y hy=>by
             obtain ⟨z,rfl,hz,hzb⟩:=xf.1 hy
             exact hv _ (XI.2 ⟨z,rfl,by omega,hzb⟩))
            rw [decide_eq_false (by omega),cond_false]
            by_cases hlt:s.getD (code - 2 ^ x) 0 < mn (fun y=>s.getD (code - 2 ^ y.toNat) 0) (zD code.testBit x) (-1)
            · rw [decide_eq_true hlt,cond_true,if_pos (.inr hlt)]
            · rw [decide_eq_false hlt,cond_false,if_neg (fun h=>h.elim hl hlt)]
      · intro k2 b hI
        subst hI
        simp only [vK]
        rw [hgn,decide_eq_false (show ¬ (n:Int) < (n:Int) by omega),cond_false,zat hn8 (by omega) (by omega),Option.bind_some,hfr,Option.bind_some,Ji,Option.bind_some,wN (by omega),Option.bind_some,xb,yF (by omega) (by omega)]
        have:frC g code=((yy (frt g code.testBit) n:Nat):Int):=by unfold frC;rw [hn]
        rw [this];rfl) (by
    rintro k s ⟨i1,i2,i3⟩
    simp only [vR]
    rw [hgn,xC (by omega),Option.bind_some,decide_eq_false (by omega),cond_false]) F [0] (by omega) ⟨rfl,fun j hj=>by
     obtain rfl:j=0:=by omega
     exact Int.le_refl _,rfl,fun j h1 h2=>absurd h2 (by omega)⟩
 have he':vR F g F [0] ((0:Int) + 1)=some s:=he
 refine ⟨s,he',by omega,i3.1,fun m h0 hm=>i3.2 m h0 (by omega)⟩
theorem zno {F:Nat} {g:Gr} (hg:yA g=true) (hF:300≤F) (hG:g.2.length < F) (hs:Sm g.2.length):uP F g=xM F ⟨zW g⟩∧∃ w,xM F ⟨zW g⟩=some w:=by
 have h8:=zC hg
 have hp256:=Wq (n:=g.1.toNat) (by omega)
 have hpow:=Nat.two_pow_pos g.1.toNat
 obtain ⟨out,o1,o2,o3⟩:=Qc hg hF hG hs
 obtain ⟨best,b1,b2,b3⟩:=UE (F:=F) (nn:=0) hg hF
 have heq:=zbQ (n:=g.1.toNat) (c:=frC g) (by omega) (fun m=>JH) o3 b3
 have hi:xM F ⟨zW g⟩=some (best.getD 0 0):=by
  unfold xM
  rw [b1,Option.bind_some]
  have:=zI (xs:=best) (i:=0) (d:=0) (by omega)
  rw [show ((0:Nat):Int)=0 from rfl] at this
  rw [this,Option.bind_some]
 refine ⟨?_,_,hi⟩
 unfold uP
 have hgn:g.1=((g.1.toNat:Nat):Int):=by omega
 have hsh:=xC (j:=g.1.toNat) (by omega)
 rw [← hgn] at hsh
 rw [o1,Option.bind_some,hsh,Option.bind_some]
 have hw:w64 (((2 ^ g.1.toNat:Nat):Int) - 1)=((2 ^ g.1.toNat - 1:Nat):Int):=by rw [yF (by omega) (by omega)];omega
 rw [hw,zI (d:=0) (by omega),Option.bind_some,hi]
 congr 1
end Go.Zq
