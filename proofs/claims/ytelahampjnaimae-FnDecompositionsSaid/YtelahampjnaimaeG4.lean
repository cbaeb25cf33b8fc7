/- Functions of the program, typed (part 4). No further condition. -/
import Derived.Test.YtelahampjnaimaeG3
set_option linter.unusedVariables false
set_option linter.unusedSimpArgs false
namespace Go.Zq
open Go.Proofs Go.Shelf Enc
variable {D:Den} {σ:Sig} {F:Nat}
def zuK:AC:=(.cond (.t 58) (.seq (rr [jv 4 (.mov kf)]) .ret) .skip)
def znm:AC:=(rr [jv 65 (.load .p (.t 7)),jm 66 11,jv 67 (.idx (.t 65) (.t 66) 1),jl 68 67,jm 69 8,jv 70 (.bin .shl (jn 1) (.t 69)),jv 71 (.bin .or (.t 68) (.t 70)),jv 72 (.idx (.t 65) (.t 66) 1),jz (.store .s (.t 72) (.t 71))])
def zo4:AC:=(rr [jv 73 (.bin .add (.t 61) (jn 1)),jm 61 73])
def znp:AC:=(.seq (.block 3 (.seq (rr [jv 63 (.idx (.t 59) (.t 61) 1),jl 64 63,jm 11 64]) znm)) zo4)
def zue:AC:=(.seq (.cond (.t 62) .skip (.exit 2)) znp)
def zh9:AC:=(.seq (rr [jv 62 (.bin .lss (.t 61) (.t 60))]) zue)
def zsE:AC:=(.block 2 (.loop zh9))
def zp9:AC:=(.seq (rr [jm 59 9,jk 60 59,jv 61 (.mov (jn 0))]) zsE)
def zui:AC:=(.seq (.seq (rr [jv 55 (.load (.ag [.s,.p]) (.t 2)),jm 56 9,jx 57 (.call (jf 48) [.t 55,.t 56]),jv 58 (.un .not (.t 57))]) zuK) zp9)
def zhv:AC:=(rr [jv 74 (.bin .add (.t 50) (jn 1)),jm 50 74])
def zrn:AC:=(.seq (.block 1 (.seq (rr [jm 52 50,jv 53 (.idx (.t 48) (.t 50) 1),jv 54 (.load .p (.t 53)),jm 8 52,jm 9 54]) zui)) zhv)
def zu8:AC:=(.seq (.cond (.t 51) .skip (.exit 0)) zrn)
def Qf:AC:=(.seq (rr [jv 51 (.bin .lss (.t 50) (.t 49))]) zu8)
def zoR:AC:=(.cond (.t 77) (.seq (rr [jv 4 (.mov kf)]) .ret) .skip)
def zoI:AC:=(.seq (rr [jv 78 (.fld (.t 2) 1 1),jv 79 (.load .p (.t 78)),jv 80 (.fn 52 [] [.t 7]),jx 81 (.call (jf 51) [.t 79,.t 80]),jv 82 (.un .not (.t 81)),jm 4 82]) .ret)
def zbO:AC:=(.seq (.seq (rr [jv 75 (.load .p (.t 7)),jv 76 (.fn 50 [] [.t 6]),jx 77 (.call (jf 49) [.t 75,.t 76])]) zoR) zoI)
def zhZ:AC:=(.cond (.t 43) (.seq (rr [jv 4 (.mov kf)]) .ret) .skip)
def zon:AC:=(.block 0 (.loop Qf))
def znC:AC:=(.seq (.seq (rr [jv 47 (.fld (.t 3) 0 0),jv 48 (.load .p (.t 47)),jk 49 48,jv 50 (.mov (jn 0))]) zon) zbO)
def zjz:AC:=(.seq (.reg [.clr [46,7]] [jv 44 (.fld (.t 2) 0 0),jl 45 44,jx 46 (.mk (.t 45) i0 i0),jx 7 (.alloc (.sl .nl .s 0 [])),jz (.store .p (.t 7) (.t 46))] []) znC)
def zm5:AC:=(.seq (.seq (rr [jm 19 5,jv 20 (.bin .eql (.t 19) (jn 0)),jm 21 20,jg 22 21 false (.load (.ag [.s,.p]) (.t 6)),.mk (some 23) (some (21,false)) false (.call (jf 22) [.t 22]),jg 24 21 false (.un .not (.t 23)),jv 25 (.pick (.t 21) kt (.t 24)),jm 26 25,jg 27 26 false (.fld (.t 3) 1 1),jg 28 26 false (.load .p (.t 27)),jg 29 26 false (.len (.t 28)),jg 30 26 false (.mov (.t 5)),jg 31 26 false (.bin .sub (.t 30) (jn 1)),jg 32 26 false (.bin .neq (.t 29) (.t 31)),jv 33 (.pick (.t 26) kt (.t 32)),jm 34 33,jg 35 34 false (.load (.ag [.s,.p]) (.t 6)),.mk (some 36) (some (34,false)) false (.call (jf 29) [.t 35]),jg 37 34 false (.mov (.t 5)),jg 38 34 false (.bin .shl (jn 1) (.t 37)),jg 39 34 false (.bin .sub (.t 38) (jn 1)),.mk (some 40) (some (34,false)) false (.call (jf 47) [.t 36,.t 39]),jg 41 34 false (.len (.t 40)),jg 42 34 false (.bin .neq (.t 41) (jn 1)),jv 43 (.pick (.t 34) kt (.t 42))]) zhZ) zjz)
def zo8:AC:=(.seq (.reg [.clr [6]] [jm 15 5,jv 16 (.fld (.t 3) 1 1),jv 17 (.load .p (.t 16)),jv 18 (.bld (.agg [i0,.sl .nl (.ag [.s,.s]) 0 []]) [(0,0,.t 15),(1,1,.t 17)]),jx 6 (.alloc (.agg [i0,.sl .nl (.ag [.s,.s]) 0 []])),jz (.store (.ag [.s,.p]) (.t 6) (.t 18))] []) zm5)
def znf:AC:=(.seq (rr [jv 12 (.fld (.t 3) 0 0),jv 13 (.load .p (.t 12)),jk 14 13,jm 5 14]) zo8)
def A23:AC:=(.seq (.reg [.clr [2,3]] [jx 2 (.box (.t 0)),jx 3 (.box (.t 1)),jv 4 (.mov kf)] []) znf)
def zxz:List An:=[⟨0,[.clr [2,3]],[],[],[]⟩,⟨2,[.clr [6]],[],[],[]⟩,⟨5,[.clr [46,7]],[],[],[]⟩]
theorem c23:cq Tp Try.f23 zxz=some A23:=by kernel_rfl
structure H23 (D:Den) (σ:Sig) (F:Nat):Prop where
 c22:C22 (D 22) F
 g22:σ 22=some (0,false)
 c29:C29 (D 29) F
 g29:σ 29=some (0,false)
 c47:C47 (D 47) F
 g47:σ 47=some (0,false)
 c48:C48 (D 48) F
 g48:σ 48=some (0,false)
 c49s1:zmh (D 49) F
 g49s1:σ 49=some (0,false)
 c51s1:zlV (D 51) F
 g51s1:σ 51=some (0,false)
abbrev R23 (r:Bool):(Nat→V)→Prop:=RR Tp [.tmp 4] 0 false (enc (r:Bool))
section
variable {r:Bool}
def wk (F:Nat) (x1:GR) (x2:((List LI)×TP)) (x26:Int) (v43:LI) (c1:LI→Int→Option Bool):Nat→LI→Int→Option Bool
 | 0,_,_=>none
 | k + 1,x49,x50=>
   bif decide (x50 < (v43.length:Int)) then
    (idx v43 x50).bind fun v55=>
    (idx x49 v55).bind fun v56=>
    (Uv .i64 1 x26).bind fun q57=>
    (idx x49 v55).bind fun v58=>
    (wk F x1 x2 x26 v43 c1 k) (x49.set v55.toNat (ior .i64 v56 q57)) (w64 (x50 + 1))
   else
    c1 x49 (w64 (x26 + 1))
theorem zii (H:H23 D σ F) (x1:GR) (x2:((List LI)×TP)) (x26:Int) (v43:LI) (c1:LI→Int→Option Bool) (Hc1:∀ (x25:LI) (x26:Int) (s:Nat→V),zB [(2,bG 2 x1),(4,jb false),(6,.ref (.bx 6) 0 [] (.agg [ji (x2.1.length:Int),eP x2.2])),(7,.ref (.bx 7) 0 [] (oI 46 [] (.of x25))),(48,enc (x2.1:List LI)),(49,ji (x2.1.length:Int)),(50,ji x26)] s→c1 x25 x26=some r→Run D σ (R23 r) (.run Qf [.lp Qf,.bk 0,.sq zbO]) s):∀ (k:Nat) (x49:LI) (x50:Int) (s:Nat→V),zB [(2,bG 2 x1),(4,jb false),(6,.ref (.bx 6) 0 [] (.agg [ji (x2.1.length:Int),eP x2.2])),(7,.ref (.bx 7) 0 [] (oI 46 [] (.of x49))),(8,ji x26),(48,enc (x2.1:List LI)),(49,ji (x2.1.length:Int)),(50,ji x26),(59,eL v43),(60,ji (v43.length:Int)),(61,ji x50)] s→wk F x1 x2 x26 v43 c1 k x49 x50=some r→Run D σ (R23 r) (.run zh9 [.lp zh9,.bk 2,.bk 1,.sq zhv,.lp Qf,.bk 0,.sq zbO]) s:=by
 intro k
 induction k with
 | zero=>intro x49 x50 s _ h;exact nm h
 | succ k ih=>
   intro x49 x50 s hs h
   rw [wk] at h
   obtain ⟨h2,h4,h6,h7,h8,h48,h49,h50,h59,h60,h61⟩:=hs
   refine .seq (rg (g2 61 60 (jb (decide (x50 < (v43.length:Int)))) h61 h60 fun h62=>gq (.nsq (.seq (zu h62 h (fun h=>?_) (fun h=>?_))))))
   · refine .skip (.nsq (.seq (.block (.seq (rg ?_)))))
     obtain ⟨v55,Ev55,h⟩:=zd h
     refine gv (.ref .sh 0 [] (ji v55)) (yG (t:=.sh) (lo:=0) (xs:=v43) h59 h61 Ev55 rfl rfl) fun h63=>g1 63 (ji v55) h63 fun h64=>gm h64 fun h11=>gq (.nsq (rg (g1 7 (oI 46 [] (.of x49)) h7 fun h65=>gm h11 fun h66=>?_)))
     obtain ⟨v56,Ev56,h⟩:=zd h
     refine gv (.ref (.at 46 []) v55.toNat [] (ji v56)) (vi (o:=.of x49) h65 h66 Ev56 rfl) fun h67=>g1 67 (ji v56) h67 fun h68=>gm h8 fun h69=>?_
     obtain ⟨q57,Eq57,h⟩:=zd h
     refine gv (ji q57) (Y1 rfl h69 Eq57) fun h70=>g2 68 70 (ji (ior .i64 v56 q57)) h68 h70 fun h71=>?_
     obtain ⟨v58,Ev58,h⟩:=zd h
     refine gv (.ref (.at 46 []) v55.toNat [] (ji v58)) (vi (o:=.of x49) h65 h66 Ev58 rfl) fun h72=>zQ (ji (ior .i64 v56 q57)) (zx h72 rfl) (zx h71 rfl) (xr (by first | rfl | simp [V.toks,V.tokss,toks_enc,zN])) ?_
     refine gz [(2,bG 2 x1),(4,jb false),(6,.ref (.bx 6) 0 [] (.agg [ji (x2.1.length:Int),eP x2.2])),(7,.ref (.bx 7) 0 [] (oI 46 [] (.of (x49.set v55.toNat (ior .i64 v56 q57))))),(8,ji x26),(48,enc (x2.1:List LI)),(49,ji (x2.1.length:Int)),(50,ji x26),(59,eL v43),(60,ji (v43.length:Int)),(61,ji x50)] ⟨zb h2 (zj rfl rfl uIE),zb h4 rfl,zb h6 (zj rfl rfl uIE),zb h7 (zj rfl rfl Kl),zb h8 rfl,zb h48 uE,zb h49 rfl,zb h50 rfl,zb h59 uE,zb h60 rfl,zb h61 rfl⟩ ?_
     rintro s ⟨h2,h4,h6,h7,h8,h48,h49,h50,h59,h60,h61⟩
     refine .nbk (.nsq (rg (g1 61 (ji (w64 (x50 + 1))) h61 fun h73=>gm h73 fun h61=>gq (.nlp ?_))))
     exact ih (x49.set v55.toNat (ior .i64 v56 q57)) (w64 (x50 + 1)) _ ⟨h2,h4,h6,h7,h8,h48,h49,h50,h59,h60,h61⟩ h
   refine .exit (.esq (.elp (.ebk (.nbk (.nsq (rg (g1 50 (ji (w64 (x26 + 1))) h50 fun h74=>gm h74 fun h50=>gq (.nlp ?_))))))))
   exact Hc1 x49 (w64 (x26 + 1)) _ ⟨h2,h4,h6,h7,h48,h49,h50⟩ h
def xd (F:Nat) (x1:GR) (x2:((List LI)×TP)) :Nat→LI→Int→Option Bool
 | 0,_,_=>none
 | k + 1,x25,x26=>
   bif decide (x26 < (x2.1.length:Int)) then
    (idx x2.1 x26).bind fun v43=>
    (Ji F x1 v43).bind fun r44=>
    bif (!r44) then
     some false
    else
     wk F x1 x2 x26 v43 (xd F x1 x2 k) F x25 0
   else
    (yH F x25 (Cl.mk () ((Rf.mk ((x2.1.length:Int),x2.2):(Rf GR)),()):(Cl 50 Unit ((Rf GR)×Unit)))).bind fun r59=>
    bif r59 then
     some false
    else
     (yi F x1.2 (Cl.mk () ((Rf.mk x25:(Rf LI)),()):(Cl 52 Unit ((Rf LI)×Unit)))).bind fun r60=>
     some (!r60)
theorem zhU (H:H23 D σ F) (x1:GR) (x2:((List LI)×TP)) :∀ (k:Nat) (x25:LI) (x26:Int) (s:Nat→V),zB [(2,bG 2 x1),(4,jb false),(6,.ref (.bx 6) 0 [] (.agg [ji (x2.1.length:Int),eP x2.2])),(7,.ref (.bx 7) 0 [] (oI 46 [] (.of x25))),(48,enc (x2.1:List LI)),(49,ji (x2.1.length:Int)),(50,ji x26)] s→xd F x1 x2 k x25 x26=some r→Run D σ (R23 r) (.run Qf [.lp Qf,.bk 0,.sq zbO]) s:=by
 intro k
 induction k with
 | zero=>intro x25 x26 s _ h;exact nm h
 | succ k ih=>
   intro x25 x26 s hs h
   rw [xd] at h
   obtain ⟨h2,h4,h6,h7,h48,h49,h50⟩:=hs
   refine .seq (rg (g2 50 49 (jb (decide (x26 < (x2.1.length:Int)))) h50 h49 fun h51=>gq (.nsq (.seq (zu h51 h (fun h=>?_) (fun h=>?_))))))
   · refine .skip (.nsq (.seq (.block (.seq (rg (gm h50 fun h52=>?_))))))
     obtain ⟨v43,Ev43,h⟩:=zd h
     refine gv (.ref .sh 0 [] (eL v43)) (yG (t:=.sh) (lo:=0) (xs:=x2.1) h48 h50 Ev43 rfl rfl) fun h53=>g1 53 (eL v43) h53 fun h54=>gm h52 fun h8=>gm h54 fun h9=>gq (.nsq (.seq (.seq (rg (g1 2 (gV x1) h2 fun h55=>gm h9 fun h56=>?_)))))
     obtain ⟨r44,Er44,h⟩:=zd h
     refine gcF [enc (x1:GR),eL v43] (zl h55 rfl (erase_enc (x1:GR)) (zl h56 rfl (erase_enc (v43:LI)) zJ)) (H.c48 _ _ _ Er44) H.g48 (g1 57 (jb (!r44)) (rf (jb r44)) fun h58=>gq (.nsq (zu h58 h (fun h=>?_) (fun h=>?_))))
     · refine .seq (rg (g0 (jb false) fun h4=>gq (.nsq (.ret ?_))))
       obtain rfl:=oi h
       exact rrA (zA h4) rfl
     refine .skip (.nsq (.seq (rg (gm h9 fun h59=>gl v43 h59 fun h60=>g0 (ji 0) fun h61=>gq (.nsq (.block (.loop ?_)))))))
     exact zii H x1 x2 x26 v43 (xd F x1 x2 k) ih F x25 0 _ ⟨h2,h4,h6,h7,h8,h48,h49,h50,h59,h60,h61⟩ h
   refine .exit (.esq (.elp (.ebk (.nsq (.seq (.seq (rg (g1 7 (oI 46 [] (.of x25)) h7 fun h75=>g1 6 (.fn 50 [] [.ref (.bx 6) 0 [] (.agg [ji (x2.1.length:Int),eP x2.2])]) h6 fun h76=>?_))))))))
   obtain ⟨r59,Er59,h⟩:=zd h
   refine gcF [eL x25,Arg.arg ((Cl.mk () ((Rf.mk ((x2.1.length:Int),x2.2):(Rf GR)),()):(Cl 50 Unit ((Rf GR)×Unit))):(Cl 50 Unit ((Rf GR)×Unit)))] (zl h75 rfl (ug (o:=.of x25)) (zl h76 rfl (UZ xD (vg (Xg (erase_enc (((x2.1.length:Int),x2.2):GR))) xD)) zJ)) (H.c49s1 _ _ _ Er59) H.g49s1 (gq (.nsq (zu rfl h (fun h=>?_) (fun h=>?_))))
   · refine .seq (rg (g0 (jb false) fun h4=>gq (.nsq (.ret ?_))))
     obtain rfl:=oi h
     exact rrA (zA h4) rfl
   refine .skip (.nsq (.seq (rg (g1 2 (.ref (.bx 2) 0 [1] (eP x1.2)) h2 fun h78=>g1 78 (eP x1.2) h78 fun h79=>g1 7 (.fn 52 [] [.ref (.bx 7) 0 [] (oI 46 [] (.of x25))]) h7 fun h80=>?_))))
   obtain ⟨r60,Er60,h⟩:=zd h
   refine gcF [eP x1.2,Arg.arg ((Cl.mk () ((Rf.mk x25:(Rf LI)),()):(Cl 52 Unit ((Rf LI)×Unit))):(Cl 52 Unit ((Rf LI)×Unit)))] (zl h79 rfl (erase_enc (x1.2:TP)) (zl h80 rfl (UZ xD (vg (Xg (ug (o:=.of x25))) xD)) zJ)) (H.c51s1 _ _ _ Er60) H.g51s1 (g1 81 (jb (!r60)) (rf (jb r60)) fun h82=>gm h82 fun h4=>gq (.nsq (.ret ?_)))
   obtain rfl:=oi h
   exact rrA (zA h4) rfl
def wm (F:Nat) (x1:GR) (x2:((List LI)×TP))  (x7:Bool):Option Bool:=
 bif x7 then
  some false
 else
  (mkN x1.1 (0:Int)).bind fun mk8=>
  xd F x1 x2 F mk8 0
theorem K8 (H:H23 D σ F) (x1:GR) (x2:((List LI)×TP))  (x7:Bool) (s:Nat→V) (hs:zB [(2,bG 2 x1),(3,.ref (.bx 3) 0 [] (.agg [enc (x2.1:List LI),eP x2.2])),(4,jb false),(6,.ref (.bx 6) 0 [] (.agg [ji (x2.1.length:Int),eP x2.2])),(43,jb x7)] s) (h:wm F x1 x2  x7=some r):Run D σ (R23 r) (.nrm [.sq zhZ,.sq zjz]) s:=by
 unfold wm at h
 obtain ⟨h2,h3,h4,h6,h43⟩:=hs
 refine .nsq (zu h43 h (fun h=>?_) (fun h=>?_))
 · refine .seq (rg (g0 (jb false) fun h4=>gq (.nsq (.ret ?_))))
   obtain rfl:=oi h
   exact rrA (zA h4) rfl
 refine .skip (.nsq (.seq (zC (yc ?_))))
 refine ez [(2,_),(3,_),(4,_),(6,_),(7,_),(46,_)] ⟨za h2 rfl (zi rfl mIE),za h3 rfl (zi rfl (zr (zc me (zc me zk)))),za h4 rfl mb,za h6 rfl (zi rfl mIE),zg rfl,zg rfl⟩ ?_
 rintro s ⟨h2,h3,h4,h6,h7,h46⟩
 refine g1 2 (.ref (.bx 2) 0 [0] (ji x1.1)) h2 fun h44=>g1 44 (ji x1.1) h44 fun h45=>?_
 obtain ⟨mk8,Emk8,h⟩:=zd h
 refine znL (0:Int) h45 rfl h46 Emk8 (y6 h7 (zQ (oI 46 [] (.of mk8)) (zx rfl rfl) (zx rfl rfl) (xr (by first | rfl | simp [V.toks,V.tokss,toks_enc,zN])) (gz [(2,bG 2 x1),(3,.ref (.bx 3) 0 [] (.agg [enc (x2.1:List LI),eP x2.2])),(4,jb false),(6,.ref (.bx 6) 0 [] (.agg [ji (x2.1.length:Int),eP x2.2])),(7,.ref (.bx 7) 0 [] (oI 46 [] (.of mk8)))] ⟨zb h2 (zj rfl rfl uIE),zb h3 (zj rfl rfl (zK (zf uE (zf uE rfl)))),zb h4 rfl,zb h6 (zj rfl rfl uIE),zb rfl rfl⟩ ?_)))
 rintro s ⟨h2,h3,h4,h6,h7⟩
 refine .nsq (.seq (.seq (rg (g1 3 (.ref (.bx 3) 0 [0] (enc (x2.1:List LI))) h3 fun h47=>g1 47 (enc (x2.1:List LI)) h47 fun h48=>gl x2.1 h48 fun h49=>g0 (ji 0) fun h50=>gq (.nsq (.block (.loop ?_)))))))
 exact zhU H x1 x2 F mk8 0 _ ⟨h2,h4,h6,h7,h48,h49,h50⟩ h
def wE (F:Nat) (x1:GR) (x2:((List LI)×TP)):Option Bool:=
 bif ((x2.1.length:Int) == 0) then
  wm F x1 x2 true
 else
  (vl F ((x2.1.length:Int),x2.2)).bind fun r61=>
  bif (!r61) then
   wm F x1 x2 true
  else
   bif ((x2.2.length:Int) != (w64 ((x2.1.length:Int) - 1))) then
    wm F x1 x2 true
   else
    (ZX F ((x2.1.length:Int),x2.2)).bind fun r62=>
    (Uv .i64 1 (x2.1.length:Int)).bind fun q63=>
    (uF F r62 (w64 (q63 - 1))).bind fun r64=>
    wm F x1 x2 ((r64.length:Int) != 1)
theorem t23 (H:H23 D σ F) (x1:GR) (x2:((List LI)×TP)) (s:Nat→V) (hs:zB [(0,gV x1),(1,.agg [enc (x2.1:List LI),eP x2.2])] s) (h:wE F x1 x2=some r):Run D σ (R23 r) (.run A23 []) s:=by
 unfold wE at h
 obtain ⟨h0,h1⟩:=hs
 refine .seq (zC (yc ?_))
 refine ez [(0,_),(1,_),(2,_),(3,_)] ⟨za h0 rfl mIE,za h1 rfl (zr (zc me (zc me zk))),zg rfl,zg rfl⟩ ?_
 rintro s ⟨h0,h1,h2,h3⟩
 refine xU (gV x1) (zx h0 rfl) h2 rfl (xU (.agg [enc (x2.1:List LI),eP x2.2]) (zx h1 rfl) h3 rfl (g0 (jb false) fun h4=>gq (.nsq (.seq (rg (g1 3 (.ref (.bx 3) 0 [0] (enc (x2.1:List LI))) (rf (.ref (.bx 3) 0 [] (.agg [enc (x2.1:List LI),eP x2.2]))) fun h12=>g1 12 (enc (x2.1:List LI)) h12 fun h13=>gl x2.1 h13 fun h14=>gm h14 fun h5=>gq (.nsq (.seq (zC (yc ?_))))))))))
 refine ez [(2,_),(3,_),(4,_),(5,_),(6,_)] ⟨za rfl rfl (zi rfl mIE),za rfl rfl (zi rfl (zr (zc me (zc me zk)))),za h4 rfl mb,za h5 rfl mi,zg rfl⟩ ?_
 rintro s ⟨h2,h3,h4,h5,h6⟩
 refine gm h5 fun h15=>g1 3 (.ref (.bx 3) 0 [1] (eP x2.2)) h3 fun h16=>g1 16 (eP x2.2) h16 fun h17=>g2 15 17 (.agg [ji (x2.1.length:Int),eP x2.2]) h15 h17 fun h18=>y6 h6 (zQ (.agg [ji (x2.1.length:Int),eP x2.2]) (zx rfl rfl) (zx h18 rfl) (xr (by first | rfl | simp [V.toks,V.tokss,toks_enc,zN])) ?_)
 refine gz [(2,bG 2 x1),(3,.ref (.bx 3) 0 [] (.agg [enc (x2.1:List LI),eP x2.2])),(4,jb false),(5,ji (x2.1.length:Int)),(6,.ref (.bx 6) 0 [] (.agg [ji (x2.1.length:Int),eP x2.2]))] ⟨zb h2 (zj rfl rfl uIE),zb h3 (zj rfl rfl (zK (zf uE (zf uE rfl)))),zb h4 rfl,zb h5 rfl,zb rfl rfl⟩ ?_
 rintro s ⟨h2,h3,h4,h5,h6⟩
 refine .nsq (.seq (.seq (rg (gm h5 fun h19=>g1 19 (jb ((x2.1.length:Int) == 0)) h19 fun h20=>gm h20 fun h21=>yd h (fun hg3 h=>?_) (fun hg3 h=>?_)))))
 · iterate 3 refine yq (ct h21 hg3) ?_
   refine g2 21 24 (jb true) (ct h21 hg3) (rf (.tup [])) fun h25=>gm h25 fun h26=>yq h26 ?_
   iterate 5 refine yq h26 ?_
   refine g2 26 32 (jb true) h26 (rf (.tup [])) fun h33=>gm h33 fun h34=>yq h34 ?_
   iterate 7 refine yq h34 ?_
   refine g2 34 42 (jb true) h34 (rf (.tup [])) fun h43=>gq ?_
   exact K8 H x1 x2 true _ ⟨h2,h3,h4,h6,h43⟩ h
 refine zt (ct h21 hg3) (g1 6 (.agg [ji (x2.1.length:Int),eP x2.2]) h6 fun h22=>?_)
 obtain ⟨r61,Er61,h⟩:=zd h
 refine zt (ct h21 hg3) (gcF [enc (((x2.1.length:Int),x2.2):GR)] (zl h22 rfl (erase_enc (((x2.1.length:Int),x2.2):GR)) zJ) (H.c22 _ _ Er61) H.g22 (zt (ct h21 hg3) (g1 23 (jb (!r61)) (rf (jb r61)) fun h24=>g2 21 24 (jb (!r61)) (ct h21 hg3) h24 fun h25=>gm h25 fun h26=>yd h (fun hg8 h=>?_) (fun hg8 h=>?_))))
 · iterate 6 refine yq (ct h26 hg8) ?_
   refine g2 26 32 (jb true) (ct h26 hg8) (rf (.tup [])) fun h33=>gm h33 fun h34=>yq h34 ?_
   iterate 7 refine yq h34 ?_
   refine g2 34 42 (jb true) h34 (rf (.tup [])) fun h43=>gq ?_
   exact K8 H x1 x2 true _ ⟨h2,h3,h4,h6,h43⟩ h
 refine zt (ct h26 hg8) (g1 3 (.ref (.bx 3) 0 [1] (eP x2.2)) h3 fun h27=>zt (ct h26 hg8) (g1 27 (eP x2.2) h27 fun h28=>zt (ct h26 hg8) (gl x2.2 h28 fun h29=>zt (ct h26 hg8) (gm h5 fun h30=>zt (ct h26 hg8) (g1 30 (ji (w64 ((x2.1.length:Int) - 1))) h30 fun h31=>zt (ct h26 hg8) (g2 29 31 (jb ((x2.2.length:Int) != (w64 ((x2.1.length:Int) - 1)))) h29 h31 fun h32=>g2 26 32 (jb ((x2.2.length:Int) != (w64 ((x2.1.length:Int) - 1)))) (ct h26 hg8) h32 fun h33=>gm h33 fun h34=>yd h (fun hg16 h=>?_) (fun hg16 h=>?_)))))))
 · iterate 8 refine yq (ct h34 hg16) ?_
   refine g2 34 42 (jb true) (ct h34 hg16) (rf (.tup [])) fun h43=>gq ?_
   exact K8 H x1 x2 true _ ⟨h2,h3,h4,h6,h43⟩ h
 refine zt (ct h34 hg16) (g1 6 (.agg [ji (x2.1.length:Int),eP x2.2]) h6 fun h35=>?_)
 obtain ⟨r62,Er62,h⟩:=zd h
 refine zt (ct h34 hg16) (gcF [enc (((x2.1.length:Int),x2.2):GR)] (zl h35 rfl (erase_enc (((x2.1.length:Int),x2.2):GR)) zJ) (H.c29 _ _ Er62) H.g29 (zt (ct h34 hg16) (gm h5 fun h37=>?_)))
 obtain ⟨q63,Eq63,h⟩:=zd h
 refine zt (ct h34 hg16) (gv (ji q63) (Y1 rfl h37 Eq63) fun h38=>zt (ct h34 hg16) (g1 38 (ji (w64 (q63 - 1))) h38 fun h39=>?_))
 obtain ⟨r64,Er64,h⟩:=zd h
 refine zt (ct h34 hg16) (gcF [enc (r62:(S1 LI)),enc (w64 (q63 - 1):Int)] (zl (v:=.agg [eL r62.a]) rfl rfl (erase_enc (r62:(S1 LI))) (zl h39 rfl rfl zJ)) (H.c47 _ _ _ Er64) H.g47 (zt (ct h34 hg16) (gl r64 rfl fun h41=>zt (ct h34 hg16) (g1 41 (jb ((r64.length:Int) != 1)) h41 fun h42=>g2 34 42 (jb ((r64.length:Int) != 1)) (ct h34 hg16) h42 fun h43=>gq ?_))))
 exact K8 H x1 x2 ((r64.length:Int) != 1) _ ⟨h2,h3,h4,h6,h43⟩ h
end
def e23 (F:Nat):Ent:=ent 23 (fun (x:(GR×((List LI)×TP)×Unit))=>wE F x.1 x.2.1) (fun (r:Bool)=>(enc (r:Bool))) 0 false []
abbrev C23 (D:List V→Option V) (F:Nat):Prop:=∀ (x0:GR) (x1:((List LI)×TP)) r,wE F x0 x1=some r→D [enc x0,enc x1]=some (enc (r:Bool))
theorem p23 {F:Nat}:C23 (e23 F).den F:=fun x0 x1 _ h=>zZ (x0,x1,()) h
theorem o23 (hF:zH Tp D σ) (H:H23 D σ F):(e23 F).Ok Tp:=okZ (f:=23) Try.func23 fun ⟨x0,x1,_⟩ y hy=>cR hF Try.func23 c23 (t23 H x0 x1 _ ⟨rfl,rfl⟩ hy)
def zxj:AC:=(.cond (.t 8) (.seq (rr [jv 4 (.mov kf),jv 5 (.mov kf)]) .ret) .skip)
def zwH:AC:=(.seq (rr [jv 9 (.load (.ag [.s,.p]) (.t 2)),jv 10 (.load (.ag [.p,.p]) (.t 3)),jx 11 (.call (jf 23) [.t 9,.t 10]),jm 4 11,jv 5 (.mov kt)]) .ret)
def zxK:AC:=(.seq (.seq (rr [jv 6 (.load (.ag [.s,.p]) (.t 2)),jx 7 (.call (jf 22) [.t 6]),jv 8 (.un .not (.t 7))]) zxj) zwH)
def A6:AC:=(.seq (.reg [.clr [2,3]] [jx 2 (.box (.t 0)),jx 3 (.box (.t 1)),jv 4 (.mov kf),jv 5 (.mov kf)] []) zxK)
def an6:List An:=[⟨0,[.clr [2,3]],[],[],[]⟩]
theorem c6:cq Tp Try.f6 an6=some A6:=by kernel_rfl
structure H6 (D:Den) (σ:Sig) (F:Nat):Prop where
 c22:C22 (D 22) F
 g22:σ 22=some (0,false)
 c23:C23 (D 23) F
 g23:σ 23=some (0,false)
abbrev R6 (r:(Bool×Bool)):(Nat→V)→Prop:=RR Tp [.tmp 4,.tmp 5] 0 false (.tup [enc (r.1:Bool),enc (r.2:Bool)])
section
variable {r:(Bool×Bool)}
def xR (F:Nat) (x1:GR) (x2:((List LI)×TP)):Option (Bool×Bool):=
 (vl F x1).bind fun r3=>
 bif (!r3) then
  some (false,false)
 else
  (wE F x1 x2).bind fun r4=>
  some (r4,true)
theorem t6 (H:H6 D σ F) (x1:GR) (x2:((List LI)×TP)) (s:Nat→V) (hs:zB [(0,gV x1),(1,.agg [enc (x2.1:List LI),eP x2.2])] s) (h:xR F x1 x2=some r):Run D σ (R6 r) (.run A6 []) s:=by
 unfold xR at h
 obtain ⟨h0,h1⟩:=hs
 refine .seq (zC (yc ?_))
 refine ez [(0,_),(1,_),(2,_),(3,_)] ⟨za h0 rfl mIE,za h1 rfl (zr (zc me (zc me zk))),zg rfl,zg rfl⟩ ?_
 rintro s ⟨h0,h1,h2,h3⟩
 refine xU (gV x1) (zx h0 rfl) h2 rfl (xU (.agg [enc (x2.1:List LI),eP x2.2]) (zx h1 rfl) h3 rfl (g0 (jb false) fun h4=>g0 (jb false) fun h5=>gq (.nsq (.seq (.seq (rg (g1 2 (gV x1) (rf (bG 2 x1)) fun h6=>?_)))))))
 obtain ⟨r3,Er3,h⟩:=zd h
 refine gcF [enc (x1:GR)] (zl h6 rfl (erase_enc (x1:GR)) zJ) (H.c22 _ _ Er3) H.g22 (g1 7 (jb (!r3)) (rf (jb r3)) fun h8=>gq (.nsq (zu h8 h (fun h=>?_) (fun h=>?_))))
 · refine .seq (rg (g0 (jb false) fun h4=>g0 (jb false) fun h5=>gq (.nsq (.ret ?_))))
   obtain rfl:=oi h
   exact rrB (zA h4) (zA h5) rfl
 refine .skip (.nsq (.seq (rg (g1 2 (gV x1) (rf (bG 2 x1)) fun h9=>g1 3 (.agg [enc (x2.1:List LI),eP x2.2]) (rf (.ref (.bx 3) 0 [] (.agg [enc (x2.1:List LI),eP x2.2]))) fun h10=>?_))))
 obtain ⟨r4,Er4,h⟩:=zd h
 refine gcF [enc (x1:GR),enc (x2:((List LI)×TP))] (zl h9 rfl (erase_enc (x1:GR)) (zl h10 rfl (erase_enc (x2:((List LI)×TP))) zJ)) (H.c23 _ _ _ Er4) H.g23 (gm (rf (jb r4)) fun h4=>g0 (jb true) fun h5=>gq (.nsq (.ret ?_)))
 obtain rfl:=oi h
 exact rrB (zA h4) (zA h5) rfl
end
def e6 (F:Nat):Ent:=ent 6 (fun (x:(GR×((List LI)×TP)×Unit))=>xR F x.1 x.2.1) (fun (r:(Bool×Bool))=>(.tup [enc (r.1:Bool),enc (r.2:Bool)])) 0 false []
abbrev C6 (D:List V→Option V) (F:Nat):Prop:=∀ (x0:GR) (x1:((List LI)×TP)) r,xR F x0 x1=some r→D [enc x0,enc x1]=some (.tup [enc (r.1:Bool),enc (r.2:Bool)])
theorem p6 {F:Nat}:C6 (e6 F).den F:=fun x0 x1 _ h=>zZ (x0,x1,()) h
theorem o6 (hF:zH Tp D σ) (H:H6 D σ F):(e6 F).Ok Tp:=okZ (f:=6) Try.func6 fun ⟨x0,x1,_⟩ y hy=>cR hF Try.func6 c6 (t6 H x0 x1 _ ⟨rfl,rfl⟩ hy)
def zud:AC:=(.cond (.t 11) .skip (.exit 0))
def zmm:AC:=(.cond (.t 37) (.seq (rr [jv 6 (.mov kf)]) .ret) .skip)
def zmM:AC:=(rr [jm 12 7,jv 13 (.bin .add (.t 12) (jn 1)),jm 7 13])
def zpF:AC:=(.seq (.block 1 (.seq (rr [jm 14 0,jm 15 7,jv 16 (.idx (.t 14) (.t 15) 1),jl 17 16,jm 18 1,jm 19 2,jx 20 (.call (jf 53) [.t 17,.t 18,.t 19]),jv 21 (.un .not (.t 20)),jm 22 21,jg 23 22 false (.mov (.t 7)),jg 24 22 false (.bin .gtr (.t 23) (jn 0)),jg 25 22 false (.mov (.t 24)),jg 26 25 true (.mov (.t 0)),jg 27 25 true (.mov (.t 7)),jg 28 25 true (.bin .sub (.t 27) (jn 1)),jg 29 25 true (.idx (.t 26) (.t 28) 1),jg 30 25 true (.load .s (.t 29)),jg 31 25 true (.mov (.t 0)),jg 32 25 true (.mov (.t 7)),jg 33 25 true (.idx (.t 31) (.t 32) 1),jg 34 25 true (.load .s (.t 33)),jg 35 25 true (.bin .geq (.t 30) (.t 34)),jg 36 22 false (.pick (.t 25) (.t 35) kf),jv 37 (.pick (.t 22) kt (.t 36))]) zmm)) zmM)
def QE:AC:=(.seq (.seq (rr [jm 8 7,jm 9 0,jk 10 9,jv 11 (.bin .lss (.t 8) (.t 10))]) zud) zpF)
def ze3:AC:=(.seq (rr [jv 6 (.mov kt)]) .ret)
def ztm:AC:=(.block 0 (.loop QE))
def zsa:AC:=(.seq (.seq (rr [jv 7 (.mov (jn 0))]) ztm) ze3)
def A87:AC:=(.seq (rr [jv 6 (.mov kf)]) zsa)
def zxe:List An:=[]
theorem c87:cq Tp Try.f87 zxe=some A87:=by kernel_rfl
structure H87 (D:Den) (σ:Sig) (F:Nat):Prop where
 c53:C53 (D 53) F
 g53:σ 53=some (0,false)
abbrev R87 (r:Bool):(Nat→V)→Prop:=RR Tp [.tmp 6] 0 false (enc (r:Bool))
section
variable {r:Bool}
def ZJ (F:Nat) (x1:LI) (x2:Int) (x3:Int) (x13:Int) (c1:Int→Option Bool) (x27:Bool):Option Bool:=
 bif x27 then
  some false
 else
  c1 (w64 (x13 + 1))
theorem M6 (H:H87 D σ F) (x1:LI) (x2:Int) (x3:Int) (x13:Int) (c1:Int→Option Bool) (Hc1:∀ (x13:Int) (s:Nat→V),zB [(0,eL x1),(1,ji x2),(2,ji x3),(6,jb false),(7,ji x13)] s→c1 x13=some r→Run D σ (R87 r) (.run QE [.lp QE,.bk 0,.sq ze3]) s) (x27:Bool) (s:Nat→V) (hs:zB [(0,eL x1),(1,ji x2),(2,ji x3),(6,jb false),(7,ji x13),(37,jb x27)] s) (h:ZJ F x1 x2 x3 x13 c1 x27=some r):Run D σ (R87 r) (.nrm [.sq zmm,.bk 1,.sq zmM,.lp QE,.bk 0,.sq ze3]) s:=by
 unfold ZJ at h
 obtain ⟨h0,h1,h2,h6,h7,h37⟩:=hs
 refine .nsq (zu h37 h (fun h=>?_) (fun h=>?_))
 · refine .seq (rg (g0 (jb false) fun h6=>gq (.nsq (.ret ?_))))
   obtain rfl:=oi h
   exact rrA (zA h6) rfl
 refine .skip (.nbk (.nsq (rg (gm h7 fun h12=>g1 12 (ji (w64 (x13 + 1))) h12 fun h13=>gm h13 fun h7=>gq (.nlp ?_)))))
 exact Hc1 (w64 (x13 + 1)) _ ⟨h0,h1,h2,h6,h7⟩ h
def wq (F:Nat) (x1:LI) (x2:Int) (x3:Int) :Nat→Int→Option Bool
 | 0,_=>none
 | k + 1,x13=>
   bif decide (x13 < (x1.length:Int)) then
    (idx x1 x13).bind fun v28=>
    (W0 F v28 x2 x3).bind fun r29=>
    bif (!r29) then
     ZJ F x1 x2 x3 x13 (wq F x1 x2 x3 k) true
    else
     bif decide (x13 > 0) then
      (idx x1 (w64 (x13 - 1))).bind fun v30=>
      (idx x1 x13).bind fun v31=>
      ZJ F x1 x2 x3 x13 (wq F x1 x2 x3 k) (decide (v30≥v31))
     else
      ZJ F x1 x2 x3 x13 (wq F x1 x2 x3 k) false
   else
    some true
theorem zhc (H:H87 D σ F) (x1:LI) (x2:Int) (x3:Int) :∀ (k:Nat) (x13:Int) (s:Nat→V),zB [(0,eL x1),(1,ji x2),(2,ji x3),(6,jb false),(7,ji x13)] s→wq F x1 x2 x3 k x13=some r→Run D σ (R87 r) (.run QE [.lp QE,.bk 0,.sq ze3]) s:=by
 intro k
 induction k with
 | zero=>intro x13 s _ h;exact nm h
 | succ k ih=>
   intro x13 s hs h
   rw [wq] at h
   obtain ⟨h0,h1,h2,h6,h7⟩:=hs
   refine .seq (.seq (rg (gm h7 fun h8=>gm h0 fun h9=>gl x1 h9 fun h10=>g2 8 10 (jb (decide (x13 < (x1.length:Int)))) h8 h10 fun h11=>gq (.nsq (zu h11 h (fun h=>?_) (fun h=>?_))))))
   · refine .skip (.nsq (.seq (.block (.seq (rg (gm h0 fun h14=>gm h7 fun h15=>?_))))))
     obtain ⟨v28,Ev28,h⟩:=zd h
     refine gv (.ref .sh 0 [] (ji v28)) (yG (t:=.sh) (lo:=0) (xs:=x1) h14 h15 Ev28 rfl rfl) fun h16=>g1 16 (ji v28) h16 fun h17=>gm h1 fun h18=>gm h2 fun h19=>?_
     obtain ⟨r29,Er29,h⟩:=zd h
     refine gcF [enc (v28:Int),enc (x2:Int),enc (x3:Int)] (zl h17 rfl rfl (zl h18 rfl rfl (zl h19 rfl rfl zJ))) (H.c53 _ _ _ _ Er29) H.g53 (g1 20 (jb (!r29)) (rf (jb r29)) fun h21=>gm h21 fun h22=>yd h (fun hg9 h=>?_) (fun hg9 h=>?_))
     · iterate 3 refine yq (ct h22 hg9) ?_
       iterate 10 refine Yu rfl ?_
       refine yq (ct h22 hg9) (g2 22 36 (jb true) (ct h22 hg9) (rf (.tup [])) fun h37=>gq ?_)
       exact M6 H x1 x2 x3 x13 (wq F x1 x2 x3 k) ih true _ ⟨h0,h1,h2,h6,h7,h37⟩ h
     refine zt (ct h22 hg9) (gm h7 fun h23=>zt (ct h22 hg9) (g1 23 (jb (decide (x13 > 0))) h23 fun h24=>zt (ct h22 hg9) (gm h24 fun h25=>yd h (fun hg12 h=>?_) (fun hg12 h=>?_))))
     · refine zt (ct h25 hg12) (gm h0 fun h26=>zt (ct h25 hg12) (gm h7 fun h27=>zt (ct h25 hg12) (g1 27 (ji (w64 (x13 - 1))) h27 fun h28=>?_)))
       obtain ⟨v30,Ev30,h⟩:=zd h
       refine zt (ct h25 hg12) (gv (.ref .sh 0 [] (ji v30)) (yG (t:=.sh) (lo:=0) (xs:=x1) h26 h28 Ev30 rfl rfl) fun h29=>zt (ct h25 hg12) (g1 29 (ji v30) h29 fun h30=>zt (ct h25 hg12) (gm h0 fun h31=>zt (ct h25 hg12) (gm h7 fun h32=>?_))))
       obtain ⟨v31,Ev31,h⟩:=zd h
       refine zt (ct h25 hg12) (gv (.ref .sh 0 [] (ji v31)) (yG (t:=.sh) (lo:=0) (xs:=x1) h31 h32 Ev31 rfl rfl) fun h33=>zt (ct h25 hg12) (g1 33 (ji v31) h33 fun h34=>zt (ct h25 hg12) (g2 30 34 (jb (decide (v30≥v31))) h30 h34 fun h35=>zt (ct h22 hg9) (g2 25 35 (jb (decide (v30≥v31))) (ct h25 hg12) h35 fun h36=>g2 22 36 (jb (decide (v30≥v31))) (ct h22 hg9) h36 fun h37=>gq ?_))))
       exact M6 H x1 x2 x3 x13 (wq F x1 x2 x3 k) ih (decide (v30≥v31)) _ ⟨h0,h1,h2,h6,h7,h37⟩ h
     iterate 10 refine yq (ct h25 hg12) ?_
     refine zt (ct h22 hg9) (g2 25 35 (jb false) (ct h25 hg12) (rf (.tup [])) fun h36=>g2 22 36 (jb false) (ct h22 hg9) h36 fun h37=>gq ?_)
     exact M6 H x1 x2 x3 x13 (wq F x1 x2 x3 k) ih false _ ⟨h0,h1,h2,h6,h7,h37⟩ h
   refine .exit (.esq (.elp (.ebk (.nsq (.seq (rg (g0 (jb true) fun h6=>gq (.nsq (.ret ?_)))))))))
   obtain rfl:=oi h
   exact rrA (zA h6) rfl
def XH (F:Nat) (x1:LI) (x2:Int) (x3:Int):Option Bool:=
 wq F x1 x2 x3 F 0
theorem t87 (H:H87 D σ F) (x1:LI) (x2:Int) (x3:Int) (s:Nat→V) (hs:zB [(0,eL x1),(1,ji x2),(2,ji x3)] s) (h:XH F x1 x2 x3=some r):Run D σ (R87 r) (.run A87 []) s:=by
 unfold XH at h
 obtain ⟨h0,h1,h2⟩:=hs
 refine .seq (rg (g0 (jb false) fun h6=>gq (.nsq (.seq (.seq (rg (g0 (ji 0) fun h7=>gq (.nsq (.block (.loop ?_))))))))))
 exact zhc H x1 x2 x3 F 0 _ ⟨h0,h1,h2,h6,h7⟩ h
end
def e87 (F:Nat):Ent:=ent 87 (fun (x:(LI×Int×Int×Unit))=>XH F x.1 x.2.1 x.2.2.1) (fun (r:Bool)=>(enc (r:Bool))) 0 false []
abbrev C87 (D:List V→Option V) (F:Nat):Prop:=∀ (x0:LI) (x1:Int) (x2:Int) r,XH F x0 x1 x2=some r→D [enc x0,enc x1,enc x2]=some (enc (r:Bool))
theorem p87 {F:Nat}:C87 (e87 F).den F:=fun x0 x1 x2 _ h=>zZ (x0,x1,x2,()) h
theorem o87 (hF:zH Tp D σ) (H:H87 D σ F):(e87 F).Ok Tp:=okZ (f:=87) Try.func87 fun ⟨x0,x1,x2,_⟩ y hy=>cR hF Try.func87 c87 (t87 H x0 x1 x2 _ ⟨rfl,rfl,rfl⟩ hy)
def zqb:AC:=(.seq (rr [jm 5 1,jv 6 (.fld (.t 2) 0 0),jl 7 6,jv 8 (.bin .sub (.t 7) (jn 1)),jx 9 (.call (jf 87) [.t 5,jn 0,.t 8]),jm 4 9]) .ret)
def A80:AC:=(.seq (.reg [.clr [2]] [jx 2 (.box (.t 0)),jv 4 (.mov kf)] []) zqb)
def zxI:List An:=[⟨0,[.clr [2]],[],[],[]⟩]
theorem c80:cq Tp Try.f80 zxI=some A80:=by kernel_rfl
structure H80 (D:Den) (σ:Sig) (F:Nat):Prop where
 c87:C87 (D 87) F
 g87:σ 87=some (0,false)
abbrev R80 (r:Bool):(Nat→V)→Prop:=RR Tp [.tmp 4] 0 false (enc (r:Bool))
section
variable {r:Bool}
def Jx (F:Nat) (x1:GR) (x2:LI):Option Bool:=
 (XH F x2 0 (w64 (x1.1 - 1))).bind fun r3=>
 some r3
theorem t80 (H:H80 D σ F) (x1:GR) (x2:LI) (s:Nat→V) (hs:zB [(0,gV x1),(1,eL x2)] s) (h:Jx F x1 x2=some r):Run D σ (R80 r) (.run A80 []) s:=by
 unfold Jx at h
 obtain ⟨h0,h1⟩:=hs
 refine .seq (zC (yc ?_))
 refine ez [(0,_),(1,_),(2,_)] ⟨za h0 rfl mIE,za h1 rfl me,zg rfl⟩ ?_
 rintro s ⟨h0,h1,h2⟩
 refine xU (gV x1) (zx h0 rfl) h2 rfl (g0 (jb false) fun h4=>gq (.nsq (.seq (rg (gm h1 fun h5=>g1 2 (.ref (.bx 2) 0 [0] (ji x1.1)) (rf (bG 2 x1)) fun h6=>g1 6 (ji x1.1) h6 fun h7=>g1 7 (ji (w64 (x1.1 - 1))) h7 fun h8=>?_)))))
 obtain ⟨r3,Er3,h⟩:=zd h
 refine gcF [eL x2,enc (0:Int),enc (w64 (x1.1 - 1):Int)] (zl h5 rfl (erase_enc (x2:LI)) (zl (v:=ji 0) rfl rfl rfl (zl h8 rfl rfl zJ))) (H.c87 _ _ _ _ Er3) H.g87 (gm (rf (jb r3)) fun h4=>gq (.nsq (.ret ?_)))
 obtain rfl:=oi h
 exact rrA (zA h4) rfl
end
def e80 (F:Nat):Ent:=ent 80 (fun (x:(GR×LI×Unit))=>Jx F x.1 x.2.1) (fun (r:Bool)=>(enc (r:Bool))) 0 false []
abbrev C80 (D:List V→Option V) (F:Nat):Prop:=∀ (x0:GR) (x1:LI) r,Jx F x0 x1=some r→D [enc x0,enc x1]=some (enc (r:Bool))
theorem p80 {F:Nat}:C80 (e80 F).den F:=fun x0 x1 _ h=>zZ (x0,x1,()) h
theorem o80 (hF:zH Tp D σ) (H:H80 D σ F):(e80 F).Ok Tp:=okZ (f:=80) Try.func80 fun ⟨x0,x1,_⟩ y hy=>cR hF Try.func80 c80 (t80 H x0 x1 _ ⟨rfl,rfl⟩ hy)
def zsB:AC:=(.cond (.t 8) .skip (.exit 0))
def zse:AC:=(rr [jm 9 4,jv 10 (.bin .add (.t 9) (jn 1)),jm 4 10])
def ztC:AC:=(.seq (.block 1 (.reg [.clr [13,14]] [jm 11 3,jm 12 4,jx 13 (.lit i0 1 [(0,0,.t 12)]),jx 14 (.app .s (.t 11) (.t 13)),jm 3 14] [.home 14 3])) zse)
def zhA:AC:=(.seq (.seq (rr [jm 6 4,jm 7 0,jv 8 (.bin .lss (.t 6) (.t 7))]) zsB) ztC)
def zl2:AC:=(.seq (.reg [] [jm 15 3,jm 2 15] [.home 3 2]) .ret)
def zvE:AC:=(.block 0 (.loop zhA))
def zqd:AC:=(.seq (.seq (rr [jv 4 (.mov (jn 0))]) zvE) zl2)
def zsk:AC:=(.seq (.reg [.clr [5]] [jx 5 (.lit i0 0 []),jm 3 5] [.home 5 3]) zqd)
def A81:AC:=(.seq (rr [jv 2 (.mov (.k (.sl .nl .s 0 [])))]) zsk)
def zw7:List An:=[⟨1,[.clr [5]],[],[],[.home 5 3]⟩,⟨5,[.clr [13,14]],[],[],[.home 14 3]⟩,⟨6,[],[],[],[.home 3 2]⟩]
theorem c81:cq Tp Try.f81 zw7=some A81:=by kernel_rfl
structure H81 (D:Den) (σ:Sig) (F:Nat):Prop where
 mk ::
abbrev R81 (r:LI):(Nat→V)→Prop:=RR Tp [.tmp 2] 0 false (eL r)
section
variable {r:LI}
def uj (F:Nat) (x1:Int) :Nat→LI→Int→Option LI
 | 0,_,_=>none
 | k + 1,x3,x4=>
   bif decide (x4 < x1) then
    (vh x3 [x4]).bind fun ap6=>
    (uj F x1 k) ap6 (w64 (x4 + 1))
   else
    some x3
theorem zhe (H:H81 D σ F) (x1:Int) :∀ (k:Nat) (x3:LI) (x4:Int) (s:Nat→V),zB [(0,ji x1),(2,nI),(3,oI 3 [] (.of x3)),(4,ji x4)] s→uj F x1 k x3 x4=some r→Run D σ (R81 r) (.run zhA [.lp zhA,.bk 0,.sq zl2]) s:=by
 intro k
 induction k with
 | zero=>intro x3 x4 s _ h;exact nm h
 | succ k ih=>
   intro x3 x4 s hs h
   rw [uj] at h
   obtain ⟨h0,h2,h3,h4⟩:=hs
   refine .seq (.seq (rg (gm h4 fun h6=>gm h0 fun h7=>g2 6 7 (jb (decide (x4 < x1))) h6 h7 fun h8=>gq (.nsq (zu h8 h (fun h=>?_) (fun h=>?_))))))
   · refine .skip (.nsq (.seq (.block (zC (yc ?_)))))
     refine ez [(0,_),(2,_),(3,_),(4,_),(13,_),(14,_)] ⟨za h0 rfl mi,za h2 rfl rfl,za h3 rfl (zm (r:=3) (p:=[]) rfl rfl),za h4 rfl mi,zg rfl,zg rfl⟩ ?_
     rintro s ⟨h0,h2,h3,h4,h13,h14⟩
     refine gm h3 fun h11=>gm h4 fun h12=>xv [(12,ji x4)] [enc (x4:Int)] h12 rfl rfl h13 ?_
     obtain ⟨ap6,Eap6,h⟩:=zd h
     refine ZG (q:=3) (p:=[]) (o:=.of (x3:LI)) (ys:=([x4]:LI)) (t2:=.at 13 []) (lo2:=0) h11 rfl rfl h14 (vK (o:=.of (x3:LI)) Eap6 trivial) (fun s10 ha10=>gm (rf (oI 14 [] (.of ap6))) fun h3=>xf (yR (r:=14) (x:=3) (v:=_) h3 rfl (fun s11 hz11=>?_)))
     refine ez [(0,ji x1),(2,nI),(3,oI 3 [] (.of ap6)),(4,ji x4)] ⟨hz11 0 _ _ (show s10 0=(ji x1) from zF ha10 h0 mi) mi,hz11 2 _ nI (show s10 2=nI from zF ha10 h2 rfl) rfl,hz11 3 _ _ h3 (zm (r:=14) (p:=[]) rfl rfl),hz11 4 _ _ (show s10 4=(ji x4) from zF ha10 h4 mi) mi⟩ ?_
     rintro s ⟨h0,h2,h3,h4⟩
     refine .nbk (.nsq (rg (gm h4 fun h9=>g1 9 (ji (w64 (x4 + 1))) h9 fun h10=>gm h10 fun h4=>gq (.nlp ?_))))
     exact ih ap6 (w64 (x4 + 1)) _ ⟨h0,h2,h3,h4⟩ h
   refine .exit (.esq (.elp (.ebk (.nsq (.seq (rg (gm h3 fun h15=>gm h15 fun h2=>xf (yR (r:=3) (x:=2) (v:=_) h2 rfl (fun s12 hz12=>?_)))))))))
   refine ez [(2,oI 2 [] (.of x3))] (hz12 2 _ _ h2 (zm (r:=3) (p:=[]) rfl rfl)) ?_
   rintro s h2
   refine .nsq (.ret ?_)
   obtain rfl:=oi h
   exact rrA (zA h2) (Yx (xk (o:=.of x3)) (vR rfl))
def Zs (F:Nat) (x1:Int):Option LI:=
 uj F x1 F [] 0
theorem t81 (H:H81 D σ F) (x1:Int) (s:Nat→V) (hs:zB [(0,ji x1)] s) (h:Zs F x1=some r):Run D σ (R81 r) (.run A81 []) s:=by
 unfold Zs at h
 have h0:=hs
 refine .seq (rg (g0 nI fun h2=>gq (.nsq (.seq (zC (yc ?_))))))
 refine ez [(0,_),(2,_),(5,_)] ⟨za h0 rfl mi,za h2 rfl rfl,zg rfl⟩ ?_
 rintro s ⟨h0,h2,h5⟩
 refine xv [] [] trivial rfl rfl h5 (gm (rf (oI 5 [] (.of []))) fun h3=>xf (yR (r:=5) (x:=3) (v:=_) h3 rfl (fun s2 hz2=>?_)))
 refine ez [(0,ji x1),(2,nI),(3,oI 3 [] (.of []))] ⟨hz2 0 _ _ h0 mi,hz2 2 _ _ h2 rfl,hz2 3 _ _ h3 (zm (r:=5) (p:=[]) rfl rfl)⟩ ?_
 rintro s ⟨h0,h2,h3⟩
 refine .nsq (.seq (.seq (rg (g0 (ji 0) fun h4=>gq (.nsq (.block (.loop ?_)))))))
 exact zhe H x1 F [] 0 _ ⟨h0,h2,h3,h4⟩ h
end
def e81 (F:Nat):Ent:=ent 81 (fun (x:(Int×Unit))=>Zs F x.1) (fun (r:LI)=>(eL r)) 0 false []
abbrev C81 (D:List V→Option V) (F:Nat):Prop:=∀ (x0:Int) r,Zs F x0=some r→D [enc x0]=some (eL r)
theorem p81 {F:Nat}:C81 (e81 F).den F:=fun x0 _ h=>zZ (x0,()) h
theorem o81 (hF:zH Tp D σ) (H:H81 D σ F):(e81 F).Ok Tp:=okZ (f:=81) Try.func81 fun ⟨x0,_⟩ y hy=>cR hF Try.func81 c81 (t81 H x0 _ rfl hy)
def zp8:AC:=(.cond (.t 20) .skip (.exit 0))
def ztc:AC:=(.cond (.t 26) .skip (.exit 2))
def zof:AC:=(rr [jm 50 0,jm 51 7,jv 52 (.idx (.t 50) (.t 51) 2),jv 53 (.idxA (.t 52) (jn 0) 2 1),jl 54 53,jm 9 54])
def zu1:AC:=(.cond (.t 44) (.seq (rr [jm 45 0,jm 46 7,jv 47 (.idx (.t 45) (.t 46) 2),jv 48 (.idxA (.t 47) (jn 1) 2 1),jl 49 48,jm 8 49]) zof) .skip)
def zi2:AC:=(.cond (.t 71) (.reg [.clr [74,75]] [jm 72 5,jm 73 9,jx 74 (.lit i0 1 [(0,0,.t 73)]),jx 75 (.app .s (.t 72) (.t 74)),jm 5 75] [.home 75 5]) .skip)
def zjB:AC:=(.seq (rr [jm 55 8,jm 56 5,jm 57 6,jv 58 (.idx (.t 56) (.t 57) 1),jl 59 58,jv 60 (.bin .eql (.t 55) (.t 59)),jm 61 60,jg 62 61 true (.mov (.t 1)),jg 63 61 true (.mov (.t 9)),.mk (some 64) (some (61,true)) false (.call (jf 65) [.t 62,.t 63]),jv 65 (.pick (.t 61) (.t 64) kf),jm 66 65,jg 67 66 true (.mov (.t 5)),jg 68 66 true (.mov (.t 9)),.mk (some 69) (some (66,true)) false (.call (jf 65) [.t 67,.t 68]),jg 70 66 true (.un .not (.t 69)),jv 71 (.pick (.t 66) (.t 70) kf)]) zi2)
def zrm:AC:=(.seq (.seq (rr [jm 39 9,jm 40 5,jm 41 6,jv 42 (.idx (.t 40) (.t 41) 1),jl 43 42,jv 44 (.bin .eql (.t 39) (.t 43))]) zu1) zjB)
def zac:AC:=(rr [jm 27 7,jv 28 (.bin .add (.t 27) (jn 1)),jm 7 28])
def zr2:AC:=(.seq (.block 3 (.seq (rr [jm 29 0,jm 30 7,jv 31 (.idx (.t 29) (.t 30) 2),jv 32 (.idxA (.t 31) (jn 0) 2 1),jl 33 32,jm 34 0,jm 35 7,jv 36 (.idx (.t 34) (.t 35) 2),jv 37 (.idxA (.t 36) (jn 1) 2 1),jl 38 37,jm 8 33,jm 9 38]) zrm)) zac)
def JE:AC:=(.seq (.seq (rr [jm 23 7,jm 24 0,jk 25 24,jv 26 (.bin .lss (.t 23) (.t 25))]) ztc) zr2)
def zpK:AC:=(.block 2 (.loop JE))
def JN:AC:=(rr [jm 21 6,jv 22 (.bin .add (.t 21) (jn 1)),jm 6 22])
def ztT:AC:=(.seq (.block 1 (.seq (rr [jv 7 (.mov (jn 0))]) zpK)) JN)
def XC:AC:=(.seq (.seq (rr [jm 17 6,jm 18 5,jk 19 18,jv 20 (.bin .lss (.t 17) (.t 19))]) zp8) ztT)
def XU:AC:=(.seq (rr [jm 76 5,jk 77 76,jm 78 1,jk 79 78,jv 80 (.bin .eql (.t 77) (.t 79)),jm 4 80]) .ret)
def zoe:AC:=(.cond (.t 12) (.seq (rr [jv 4 (.mov kt)]) .ret) .skip)
def zpb:AC:=(.block 0 (.loop XC))
def znO:AC:=(.seq (.seq (rr [jv 6 (.mov (jn 0))]) zpb) XU)
def zow:AC:=(.seq (.reg [.clr [16]] [jm 13 1,jv 14 (.idx (.t 13) (jn 0) 1),jl 15 14,jx 16 (.lit i0 1 [(0,0,.t 15)]),jm 5 16] [.home 16 5]) znO)
def zn5:AC:=(.seq (.seq (rr [jm 10 1,jk 11 10,jv 12 (.bin .eql (.t 11) (jn 0))]) zoe) zow)
def A57:AC:=(.seq (rr [jv 4 (.mov kf)]) zn5)
def zxw:List An:=[⟨3,[.clr [16]],[],[],[.home 16 5]⟩,⟨15,[.clr [74,75]],[],[],[.home 75 5]⟩]
theorem c57:cq Tp Try.f57 zxw=some A57:=by kernel_rfl
structure H57 (D:Den) (σ:Sig) (F:Nat):Prop where
 c65:C65 (D 65) F
 g65:σ 65=some (0,false)
abbrev R57 (r:Bool):(Nat→V)→Prop:=RR Tp [.tmp 4] 0 false (enc (r:Bool))
section
variable {r:Bool}
def YA (F:Nat) (x1:TP) (x2:LI) (x64:Int) (x144:Int) (c1:LI→Int→Option Bool) (c4:LI→Int→Option Bool) (x176:LI):Option Bool:=
 c4 x176 (w64 (x144 + 1))
theorem zcx (H:H57 D σ F) (x1:TP) (x2:LI) (x64:Int) (x144:Int) (c1:LI→Int→Option Bool) (Hc1:∀ (x63:LI) (x64:Int) (s:Nat→V),zB [(0,eP x1),(1,eL x2),(4,jb false),(5,oI 5 [] (.of x63)),(6,ji x64)] s→c1 x63 x64=some r→Run D σ (R57 r) (.run XC [.lp XC,.bk 0,.sq XU]) s) (c4:LI→Int→Option Bool) (Hc4:∀ (x143:LI) (x144:Int) (s:Nat→V),zB [(0,eP x1),(1,eL x2),(4,jb false),(5,oI 5 [] (.of x143)),(6,ji x64),(7,ji x144)] s→c4 x143 x144=some r→Run D σ (R57 r) (.run JE [.lp JE,.bk 2,.bk 1,.sq JN,.lp XC,.bk 0,.sq XU]) s) (x176:LI) (s:Nat→V) (hs:zB [(0,eP x1),(1,eL x2),(4,jb false),(5,oI 5 [] (.of x176)),(6,ji x64),(7,ji x144)] s) (h:YA F x1 x2 x64 x144 c1 c4 x176=some r):Run D σ (R57 r) (.nrm [.bk 3,.sq zac,.lp JE,.bk 2,.bk 1,.sq JN,.lp XC,.bk 0,.sq XU]) s:=by
 unfold YA at h
 obtain ⟨h0,h1,h4,h5,h6,h7⟩:=hs
 refine .nbk (.nsq (rg (gm h7 fun h27=>g1 27 (ji (w64 (x144 + 1))) h27 fun h28=>gm h28 fun h7=>gz [(0,_),(1,_),(4,_),(5,_),(6,_),(7,_)] ⟨h0,h1,h4,h5,h6,h7⟩ ?_)))
 rintro s ⟨h0,h1,h4,h5,h6,h7⟩
 refine .nlp ?_
 exact Hc4 x176 (w64 (x144 + 1)) _ ⟨h0,h1,h4,h5,h6,h7⟩ h
def ZP (F:Nat) (x1:TP) (x2:LI) (x143:LI) (x64:Int) (x144:Int) (x170:Int) (c1:LI→Int→Option Bool) (c4:LI→Int→Option Bool) (x174:Bool):Option Bool:=
 bif x174 then
  (vh x143 [x170]).bind fun ap177=>
  YA F x1 x2 x64 x144 c1 c4 ap177
 else
  YA F x1 x2 x64 x144 c1 c4 x143
theorem Nh (H:H57 D σ F) (x1:TP) (x2:LI) (x143:LI) (x64:Int) (x144:Int) (x170:Int) (c1:LI→Int→Option Bool) (Hc1:∀ (x63:LI) (x64:Int) (s:Nat→V),zB [(0,eP x1),(1,eL x2),(4,jb false),(5,oI 5 [] (.of x63)),(6,ji x64)] s→c1 x63 x64=some r→Run D σ (R57 r) (.run XC [.lp XC,.bk 0,.sq XU]) s) (c4:LI→Int→Option Bool) (Hc4:∀ (x143:LI) (x144:Int) (s:Nat→V),zB [(0,eP x1),(1,eL x2),(4,jb false),(5,oI 5 [] (.of x143)),(6,ji x64),(7,ji x144)] s→c4 x143 x144=some r→Run D σ (R57 r) (.run JE [.lp JE,.bk 2,.bk 1,.sq JN,.lp XC,.bk 0,.sq XU]) s) (x174:Bool) (s:Nat→V) (hs:zB [(0,eP x1),(1,eL x2),(4,jb false),(5,oI 5 [] (.of x143)),(6,ji x64),(7,ji x144),(9,ji x170),(71,jb x174)] s) (h:ZP F x1 x2 x143 x64 x144 x170 c1 c4 x174=some r):Run D σ (R57 r) (.nrm [.sq zi2,.bk 3,.sq zac,.lp JE,.bk 2,.bk 1,.sq JN,.lp XC,.bk 0,.sq XU]) s:=by
 unfold ZP at h
 obtain ⟨h0,h1,h4,h5,h6,h7,h9,h71⟩:=hs
 refine .nsq (zu h71 h (fun h=>?_) (fun h=>?_))
 · refine zC (yc ?_)
   refine ez [(0,_),(1,_),(4,_),(5,_),(6,_),(7,_),(9,_),(74,_),(75,_)] ⟨za h0 rfl me,za h1 rfl me,za h4 rfl mb,za h5 rfl (zm (r:=5) (p:=[]) rfl rfl),za h6 rfl mi,za h7 rfl mi,za h9 rfl mi,zg rfl,zg rfl⟩ ?_
   rintro s ⟨h0,h1,h4,h5,h6,h7,h9,h74,h75⟩
   refine gm h5 fun h72=>gm h9 fun h73=>xv [(73,ji x170)] [enc (x170:Int)] h73 rfl rfl h74 ?_
   obtain ⟨ap177,Eap177,h⟩:=zd h
   refine ZG (q:=5) (p:=[]) (o:=.of (x143:LI)) (ys:=([x170]:LI)) (t2:=.at 74 []) (lo2:=0) h72 rfl rfl h75 (vK (o:=.of (x143:LI)) Eap177 trivial) (fun s55 ha55=>gm (rf (oI 75 [] (.of ap177))) fun h5=>xf (yR (r:=75) (x:=5) (v:=_) h5 rfl (fun s56 hz56=>?_)))
   refine ez [(0,eP x1),(1,eL x2),(4,jb false),(5,oI 5 [] (.of ap177)),(6,ji x64),(7,ji x144)] ⟨hz56 0 _ _ (show s55 0=(eP x1) from zF ha55 h0 me) me,hz56 1 _ _ (show s55 1=(eL x2) from zF ha55 h1 me) me,hz56 4 _ _ (show s55 4=(jb false) from zF ha55 h4 mb) mb,hz56 5 _ _ h5 (zm (r:=75) (p:=[]) rfl rfl),hz56 6 _ _ (show s55 6=(ji x64) from zF ha55 h6 mi) mi,hz56 7 _ _ (show s55 7=(ji x144) from zF ha55 h7 mi) mi⟩ ?_
   rintro s ⟨h0,h1,h4,h5,h6,h7⟩
   exact zcx H x1 x2 x64 x144 c1 Hc1 c4 Hc4 ap177 _ ⟨h0,h1,h4,h5,h6,h7⟩ h
 refine .skip ?_
 exact zcx H x1 x2 x64 x144 c1 Hc1 c4 Hc4 x143 _ ⟨h0,h1,h4,h5,h6,h7⟩ h
def YK (F:Nat) (x1:TP) (x2:LI) (x143:LI) (x64:Int) (x144:Int) (c1:LI→Int→Option Bool) (c4:LI→Int→Option Bool) (x169:Int) (x170:Int):Option Bool:=
 (idx x143 x64).bind fun v178=>
 bif (x169 == v178) then
  (vF F x2 x170).bind fun r179=>
  bif r179 then
   (vF F x143 x170).bind fun r180=>
   ZP F x1 x2 x143 x64 x144 x170 c1 c4 (!r180)
  else
   ZP F x1 x2 x143 x64 x144 x170 c1 c4 false
 else
  ZP F x1 x2 x143 x64 x144 x170 c1 c4 false
theorem zdr (H:H57 D σ F) (x1:TP) (x2:LI) (x143:LI) (x64:Int) (x144:Int) (c1:LI→Int→Option Bool) (Hc1:∀ (x63:LI) (x64:Int) (s:Nat→V),zB [(0,eP x1),(1,eL x2),(4,jb false),(5,oI 5 [] (.of x63)),(6,ji x64)] s→c1 x63 x64=some r→Run D σ (R57 r) (.run XC [.lp XC,.bk 0,.sq XU]) s) (c4:LI→Int→Option Bool) (Hc4:∀ (x143:LI) (x144:Int) (s:Nat→V),zB [(0,eP x1),(1,eL x2),(4,jb false),(5,oI 5 [] (.of x143)),(6,ji x64),(7,ji x144)] s→c4 x143 x144=some r→Run D σ (R57 r) (.run JE [.lp JE,.bk 2,.bk 1,.sq JN,.lp XC,.bk 0,.sq XU]) s) (x169:Int) (x170:Int) (s:Nat→V) (hs:zB [(0,eP x1),(1,eL x2),(4,jb false),(5,oI 5 [] (.of x143)),(6,ji x64),(7,ji x144),(8,ji x169),(9,ji x170)] s) (h:YK F x1 x2 x143 x64 x144 c1 c4 x169 x170=some r):Run D σ (R57 r) (.nrm [.sq zjB,.bk 3,.sq zac,.lp JE,.bk 2,.bk 1,.sq JN,.lp XC,.bk 0,.sq XU]) s:=by
 unfold YK at h
 obtain ⟨h0,h1,h4,h5,h6,h7,h8,h9⟩:=hs
 refine .nsq (.seq (rg (gm h8 fun h55=>gm h5 fun h56=>gm h6 fun h57=>?_)))
 obtain ⟨v178,Ev178,h⟩:=zd h
 refine gv (.ref (.at 5 []) x64.toNat [] (ji v178)) (vi (o:=.of x143) h56 h57 Ev178 rfl) fun h58=>g1 58 (ji v178) h58 fun h59=>g2 55 59 (jb (x169 == v178)) h55 h59 fun h60=>gm h60 fun h61=>yd h (fun hg7 h=>?_) (fun hg7 h=>?_)
 · refine zt (ct h61 hg7) (gm h1 fun h62=>zt (ct h61 hg7) (gm h9 fun h63=>?_))
   obtain ⟨r179,Er179,h⟩:=zd h
   refine zt (ct h61 hg7) (gcF [eL x2,enc (x170:Int)] (zl h62 rfl (erase_enc (x2:LI)) (zl h63 rfl rfl zJ)) (H.c65 _ _ _ Er179) H.g65 (g2 61 64 (jb r179) (ct h61 hg7) (rf (jb r179)) fun h65=>gm h65 fun h66=>yd h (fun hg12 h=>?_) (fun hg12 h=>?_)))
   · refine zt (ct h66 hg12) (gm h5 fun h67=>zt (ct h66 hg12) (gm h9 fun h68=>?_))
     obtain ⟨r180,Er180,h⟩:=zd h
     refine zt (ct h66 hg12) (gcF [eL x143,enc (x170:Int)] (zl h67 rfl (ug (o:=.of x143)) (zl h68 rfl rfl zJ)) (H.c65 _ _ _ Er180) H.g65 (zt (ct h66 hg12) (g1 69 (jb (!r180)) (rf (jb r180)) fun h70=>g2 66 70 (jb (!r180)) (ct h66 hg12) h70 fun h71=>gz [(0,_),(1,_),(4,_),(5,_),(6,_),(7,_),(9,_),(71,_)] ⟨h0,h1,h4,h5,h6,h7,h9,h71⟩ ?_)))
     rintro s ⟨h0,h1,h4,h5,h6,h7,h9,h71⟩
     exact Nh H x1 x2 x143 x64 x144 x170 c1 Hc1 c4 Hc4 (!r180) _ ⟨h0,h1,h4,h5,h6,h7,h9,h71⟩ h
   iterate 4 refine yq (ct h66 hg12) ?_
   refine g2 66 70 (jb false) (ct h66 hg12) (rf (.tup [])) fun h71=>gz [(0,_),(1,_),(4,_),(5,_),(6,_),(7,_),(9,_),(71,_)] ⟨h0,h1,h4,h5,h6,h7,h9,h71⟩ ?_
   rintro s ⟨h0,h1,h4,h5,h6,h7,h9,h71⟩
   exact Nh H x1 x2 x143 x64 x144 x170 c1 Hc1 c4 Hc4 false _ ⟨h0,h1,h4,h5,h6,h7,h9,h71⟩ h
 iterate 3 refine yq (ct h61 hg7) ?_
 refine g2 61 64 (jb false) (ct h61 hg7) (rf (.tup [])) fun h65=>gm h65 fun h66=>yq h66 ?_
 iterate 3 refine yq h66 ?_
 refine g2 66 70 (jb false) h66 (rf (.tup [])) fun h71=>gz [(0,_),(1,_),(4,_),(5,_),(6,_),(7,_),(9,_),(71,_)] ⟨h0,h1,h4,h5,h6,h7,h9,h71⟩ ?_
 rintro s ⟨h0,h1,h4,h5,h6,h7,h9,h71⟩
 exact Nh H x1 x2 x143 x64 x144 x170 c1 Hc1 c4 Hc4 false _ ⟨h0,h1,h4,h5,h6,h7,h9,h71⟩ h
def xE (F:Nat) (x1:TP) (x2:LI) (x64:Int) (c1:LI→Int→Option Bool):Nat→LI→Int→Option Bool
 | 0,_,_=>none
 | k + 1,x143,x144=>
   bif decide (x144 < (x1.length:Int)) then
    (idx x1 x144).bind fun v164=>
    (idx x1 x144).bind fun v165=>
    (idx x143 x64).bind fun v166=>
    bif (v165.2 == v166) then
     (idx x1 x144).bind fun v181=>
     (idx x1 x144).bind fun v182=>
     YK F x1 x2 x143 x64 x144 c1 (xE F x1 x2 x64 c1 k) v181.2 v182.1
    else
     YK F x1 x2 x143 x64 x144 c1 (xE F x1 x2 x64 c1 k) v164.1 v165.2
   else
    c1 x143 (w64 (x64 + 1))
theorem zhB (H:H57 D σ F) (x1:TP) (x2:LI) (x64:Int) (c1:LI→Int→Option Bool) (Hc1:∀ (x63:LI) (x64:Int) (s:Nat→V),zB [(0,eP x1),(1,eL x2),(4,jb false),(5,oI 5 [] (.of x63)),(6,ji x64)] s→c1 x63 x64=some r→Run D σ (R57 r) (.run XC [.lp XC,.bk 0,.sq XU]) s):∀ (k:Nat) (x143:LI) (x144:Int) (s:Nat→V),zB [(0,eP x1),(1,eL x2),(4,jb false),(5,oI 5 [] (.of x143)),(6,ji x64),(7,ji x144)] s→xE F x1 x2 x64 c1 k x143 x144=some r→Run D σ (R57 r) (.run JE [.lp JE,.bk 2,.bk 1,.sq JN,.lp XC,.bk 0,.sq XU]) s:=by
 intro k
 induction k with
 | zero=>intro x143 x144 s _ h;exact nm h
 | succ k ih=>
   intro x143 x144 s hs h
   rw [xE] at h
   obtain ⟨h0,h1,h4,h5,h6,h7⟩:=hs
   refine .seq (.seq (rg (gm h7 fun h23=>gm h0 fun h24=>gl x1 h24 fun h25=>g2 23 25 (jb (decide (x144 < (x1.length:Int)))) h23 h25 fun h26=>gq (.nsq (zu h26 h (fun h=>?_) (fun h=>?_))))))
   · refine .skip (.nsq (.seq (.block (.seq (rg (gm h0 fun h29=>gm h7 fun h30=>?_))))))
     obtain ⟨v164,Ev164,h⟩:=zd h
     refine gv (.ref .sh 0 [] (.agg [ji v164.1,ji v164.2])) (yG (t:=.sh) (lo:=0) (xs:=x1) h29 h30 Ev164 rfl rfl) fun h31=>g1 31 (.ref .sh 0 [0] (ji v164.1)) h31 fun h32=>g1 32 (ji v164.1) h32 fun h33=>gm h0 fun h34=>gm h7 fun h35=>?_
     obtain ⟨v165,Ev165,h⟩:=zd h
     refine gv (.ref .sh 0 [] (.agg [ji v165.1,ji v165.2])) (yG (t:=.sh) (lo:=0) (xs:=x1) h34 h35 Ev165 rfl rfl) fun h36=>g1 36 (.ref .sh 0 [1] (ji v165.2)) h36 fun h37=>g1 37 (ji v165.2) h37 fun h38=>gm h33 fun h8=>gm h38 fun h9=>gq (.nsq (.seq (.seq (rg (gm h9 fun h39=>gm h5 fun h40=>gm h6 fun h41=>?_)))))
     obtain ⟨v166,Ev166,h⟩:=zd h
     refine gv (.ref (.at 5 []) x64.toNat [] (ji v166)) (vi (o:=.of x143) h40 h41 Ev166 rfl) fun h42=>g1 42 (ji v166) h42 fun h43=>g2 39 43 (jb (v165.2 == v166)) h39 h43 fun h44=>gq (.nsq (zu h44 h (fun h=>?_) (fun h=>?_)))
     · refine .seq (rg (gm h0 fun h45=>gm h7 fun h46=>?_))
       obtain ⟨v181,Ev181,h⟩:=zd h
       refine gv (.ref .sh 0 [] (.agg [ji v181.1,ji v181.2])) (yG (t:=.sh) (lo:=0) (xs:=x1) h45 h46 Ev181 rfl rfl) fun h47=>g1 47 (.ref .sh 0 [1] (ji v181.2)) h47 fun h48=>g1 48 (ji v181.2) h48 fun h49=>gm h49 fun h8=>gz [(0,_),(1,_),(4,_),(5,_),(6,_),(7,_),(8,_),(9,_)] ⟨h0,h1,h4,h5,h6,h7,h8,h9⟩ ?_
       rintro s ⟨h0,h1,h4,h5,h6,h7,h8,h9⟩
       refine .nsq (rg (gm h0 fun h50=>gm h7 fun h51=>?_))
       obtain ⟨v182,Ev182,h⟩:=zd h
       refine gv (.ref .sh 0 [] (.agg [ji v182.1,ji v182.2])) (yG (t:=.sh) (lo:=0) (xs:=x1) h50 h51 Ev182 rfl rfl) fun h52=>g1 52 (.ref .sh 0 [0] (ji v182.1)) h52 fun h53=>g1 53 (ji v182.1) h53 fun h54=>gm h54 fun h9=>gq ?_
       exact zdr H x1 x2 x143 x64 x144 c1 Hc1 (xE F x1 x2 x64 c1 k) ih v181.2 v182.1 _ ⟨h0,h1,h4,h5,h6,h7,h8,h9⟩ h
     refine .skip ?_
     exact zdr H x1 x2 x143 x64 x144 c1 Hc1 (xE F x1 x2 x64 c1 k) ih v164.1 v165.2 _ ⟨h0,h1,h4,h5,h6,h7,h8,h9⟩ h
   refine .exit (.esq (.elp (.ebk (.nbk (.nsq (rg (gm h6 fun h21=>g1 21 (ji (w64 (x64 + 1))) h21 fun h22=>gm h22 fun h6=>gq (.nlp ?_))))))))
   exact Hc1 x143 (w64 (x64 + 1)) _ ⟨h0,h1,h4,h5,h6⟩ h
def ua (F:Nat) (x1:TP) (x2:LI) :Nat→LI→Int→Option Bool
 | 0,_,_=>none
 | k + 1,x63,x64=>
   bif decide (x64 < (x63.length:Int)) then
    xE F x1 x2 x64 (ua F x1 x2 k) F x63 0
   else
    some ((x63.length:Int) == (x2.length:Int))
theorem zhC (H:H57 D σ F) (x1:TP) (x2:LI) :∀ (k:Nat) (x63:LI) (x64:Int) (s:Nat→V),zB [(0,eP x1),(1,eL x2),(4,jb false),(5,oI 5 [] (.of x63)),(6,ji x64)] s→ua F x1 x2 k x63 x64=some r→Run D σ (R57 r) (.run XC [.lp XC,.bk 0,.sq XU]) s:=by
 intro k
 induction k with
 | zero=>intro x63 x64 s _ h;exact nm h
 | succ k ih=>
   intro x63 x64 s hs h
   rw [ua] at h
   obtain ⟨h0,h1,h4,h5,h6⟩:=hs
   refine .seq (.seq (rg (gm h6 fun h17=>gm h5 fun h18=>gv (ji (x63.length:Int)) (YN (o:=.of x63) h18) fun h19=>g2 17 19 (jb (decide (x64 < (x63.length:Int)))) h17 h19 fun h20=>gq (.nsq (zu h20 h (fun h=>?_) (fun h=>?_))))))
   · refine .skip (.nsq (.seq (.block (.seq (rg (g0 (ji 0) fun h7=>gq (.nsq (.block (.loop ?_)))))))))
     exact zhB H x1 x2 x64 (ua F x1 x2 k) ih F x63 0 _ ⟨h0,h1,h4,h5,h6,h7⟩ h
   refine .exit (.esq (.elp (.ebk (.nsq (.seq (rg (gm h5 fun h76=>gv (ji (x63.length:Int)) (YN (o:=.of x63) h76) fun h77=>gm h1 fun h78=>gl x2 h78 fun h79=>g2 77 79 (jb ((x63.length:Int) == (x2.length:Int))) h77 h79 fun h80=>gm h80 fun h4=>gq (.nsq (.ret ?_)))))))))
   obtain rfl:=oi h
   exact rrA (zA h4) rfl
def Zv (F:Nat) (x1:TP) (x2:LI):Option Bool:=
 bif ((x2.length:Int) == 0) then
  some true
 else
  (idx x2 0).bind fun v3=>
  ua F x1 x2 F [v3] 0
theorem t57 (H:H57 D σ F) (x1:TP) (x2:LI) (s:Nat→V) (hs:zB [(0,eP x1),(1,eL x2)] s) (h:Zv F x1 x2=some r):Run D σ (R57 r) (.run A57 []) s:=by
 unfold Zv at h
 obtain ⟨h0,h1⟩:=hs
 refine .seq (rg (g0 (jb false) fun h4=>gq (.nsq (.seq (.seq (rg (gm h1 fun h10=>gl x2 h10 fun h11=>g1 11 (jb ((x2.length:Int) == 0)) h11 fun h12=>gq (.nsq (zu h12 h (fun h=>?_) (fun h=>?_))))))))))
 · refine .seq (rg (g0 (jb true) fun h4=>gq (.nsq (.ret ?_))))
   obtain rfl:=oi h
   exact rrA (zA h4) rfl
 refine .skip (.nsq (.seq (zC (yc ?_))))
 refine ez [(0,_),(1,_),(4,_),(16,_)] ⟨za h0 rfl me,za h1 rfl me,za h4 rfl mb,zg rfl⟩ ?_
 rintro s ⟨h0,h1,h4,h16⟩
 refine gm h1 fun h13=>?_
 obtain ⟨v3,Ev3,h⟩:=zd h
 refine gv (.ref .sh 0 [] (ji v3)) (yG (t:=.sh) (lo:=0) (xs:=x2) h13 rfl Ev3 rfl rfl) fun h14=>g1 14 (ji v3) h14 fun h15=>xv [(15,ji v3)] [enc (v3:Int)] h15 rfl rfl h16 (gm (rf (oI 16 [] (.of [v3]))) fun h5=>xf (yR (r:=16) (x:=5) (v:=_) h5 rfl (fun s2 hz2=>?_)))
 refine ez [(0,eP x1),(1,eL x2),(4,jb false),(5,oI 5 [] (.of [v3]))] ⟨hz2 0 _ _ h0 me,hz2 1 _ _ h1 me,hz2 4 _ _ h4 mb,hz2 5 _ _ h5 (zm (r:=16) (p:=[]) rfl rfl)⟩ ?_
 rintro s ⟨h0,h1,h4,h5⟩
 refine .nsq (.seq (.seq (rg (g0 (ji 0) fun h6=>gq (.nsq (.block (.loop ?_)))))))
 exact zhC H x1 x2 F [v3] 0 _ ⟨h0,h1,h4,h5,h6⟩ h
end
def e57 (F:Nat):Ent:=ent 57 (fun (x:(TP×LI×Unit))=>Zv F x.1 x.2.1) (fun (r:Bool)=>(enc (r:Bool))) 0 false []
abbrev C57 (D:List V→Option V) (F:Nat):Prop:=∀ (x0:TP) (x1:LI) r,Zv F x0 x1=some r→D [enc x0,enc x1]=some (enc (r:Bool))
theorem p57 {F:Nat}:C57 (e57 F).den F:=fun x0 x1 _ h=>zZ (x0,x1,()) h
theorem o57 (hF:zH Tp D σ) (H:H57 D σ F):(e57 F).Ok Tp:=okZ (f:=57) Try.func57 fun ⟨x0,x1,_⟩ y hy=>cR hF Try.func57 c57 (t57 H x0 x1 _ ⟨rfl,rfl⟩ hy)
def zrd:AC:=(.cond (.t 40) .skip (.exit 2))
def zl6:AC:=(.cond (.t 78) (.seq (rr [jv 4 (.mov kf)]) .ret) .skip)
def zqm:AC:=(.seq (rr [jv 48 (.idxA (.t 8) (jn 0) 2 1),jl 49 48,jv 50 (.bin .lss (.t 49) (jn 0)),jm 51 50,jg 52 51 false (.idxA (.t 8) (jn 0) 2 1),jg 53 51 false (.load .s (.t 52)),jg 54 51 false (.idxA (.t 8) (jn 1) 2 1),jg 55 51 false (.load .s (.t 54)),jg 56 51 false (.bin .geq (.t 53) (.t 55)),jv 57 (.pick (.t 51) kt (.t 56)),jm 58 57,jg 59 58 false (.idxA (.t 8) (jn 1) 2 1),jg 60 58 false (.load .s (.t 59)),jg 61 58 false (.mov (.t 5)),jg 62 58 false (.bin .geq (.t 60) (.t 61)),jv 63 (.pick (.t 58) kt (.t 62)),jm 64 63,jg 65 64 false (.mov (.t 7)),jg 66 64 false (.bin .gtr (.t 65) (jn 0)),jg 67 64 false (.mov (.t 66)),jg 68 67 true (.fld (.t 3) 1 1),jg 69 67 true (.load .p (.t 68)),jg 70 67 true (.mov (.t 7)),jg 71 67 true (.bin .sub (.t 70) (jn 1)),jg 72 67 true (.idx (.t 69) (.t 71) 2),jg 73 67 true (.load (.ag [.s,.s]) (.t 72)),jg 74 67 true (.load (.ag [.s,.s]) (.t 8)),.mk (some 75) (some (67,true)) false (.call (jf 54) [.t 73,.t 74]),jg 76 67 true (.un .not (.t 75)),jg 77 64 false (.pick (.t 67) (.t 76) kf),jv 78 (.pick (.t 64) kt (.t 77))]) zl6)
def zlZ:AC:=(rr [jm 41 7,jv 42 (.bin .add (.t 41) (jn 1)),jm 7 42])
def zqN:AC:=(.seq (.block 3 (.seq (.reg [.clr [8]] [jv 43 (.fld (.t 3) 1 1),jv 44 (.load .p (.t 43)),jm 45 7,jv 46 (.idx (.t 44) (.t 45) 2),jv 47 (.load (.ag [.s,.s]) (.t 46)),jx 8 (.alloc (.agg [i0,i0])),jz (.store (.ag [.s,.s]) (.t 8) (.t 47))] []) zqm)) zlZ)
def Qd:AC:=(.seq (.seq (rr [jm 36 7,jv 37 (.fld (.t 3) 1 1),jv 38 (.load .p (.t 37)),jk 39 38,jv 40 (.bin .lss (.t 36) (.t 39))]) zrd) zqN)
def zep:AC:=(.seq (rr [jv 79 (.fld (.t 3) 1 1),jv 80 (.load .p (.t 79)),jm 81 5,jx 82 (.call (jf 81) [.t 81]),jx 83 (.call (jf 57) [.t 80,.t 82]),jm 4 83]) .ret)
def ztH:AC:=(.cond (.t 25) .skip (.exit 0))
def znT:AC:=(.cond (.t 35) (.seq (rr [jv 4 (.mov kf)]) .ret) .skip)
def znc:AC:=(rr [jm 26 6,jv 27 (.bin .add (.t 26) (jn 1)),jm 6 27])
def zoG:AC:=(.seq (.block 1 (.seq (rr [jv 28 (.load (.ag [.s,.p]) (.t 2)),jv 29 (.fld (.t 3) 0 0),jv 30 (.load .p (.t 29)),jm 31 6,jv 32 (.idx (.t 30) (.t 31) 1),jv 33 (.load .p (.t 32)),jx 34 (.call (jf 80) [.t 28,.t 33]),jv 35 (.un .not (.t 34))]) znT)) znc)
def zh8:AC:=(.seq (.seq (rr [jm 23 6,jm 24 5,jv 25 (.bin .lss (.t 23) (.t 24))]) ztH) zoG)
def zo0:AC:=(.block 2 (.loop Qd))
def zhY:AC:=(.seq (.seq (rr [jv 7 (.mov (jn 0))]) zo0) zep)
def zja:AC:=(.cond (.t 22) (.seq (rr [jv 4 (.mov kf)]) .ret) .skip)
def zpl:AC:=(.block 0 (.loop zh8))
def zhg:AC:=(.seq (.seq (rr [jv 6 (.mov (jn 0))]) zpl) zhY)
def znU:AC:=(.seq (.seq (rr [jm 12 5,jx 13 (.call (jf 53) [.t 12,jn 1,jn 8]),jv 14 (.un .not (.t 13)),jm 15 14,jg 16 15 false (.fld (.t 3) 1 1),jg 17 15 false (.load .p (.t 16)),jg 18 15 false (.len (.t 17)),jg 19 15 false (.mov (.t 5)),jg 20 15 false (.bin .sub (.t 19) (jn 1)),jg 21 15 false (.bin .neq (.t 18) (.t 20)),jv 22 (.pick (.t 15) kt (.t 21))]) zja) zhg)
def zpd:AC:=(.seq (rr [jv 9 (.fld (.t 3) 0 0),jv 10 (.load .p (.t 9)),jk 11 10,jm 5 11]) znU)
def A55:AC:=(.seq (.reg [.clr [2,3]] [jx 2 (.box (.t 0)),jx 3 (.box (.t 1)),jv 4 (.mov kf)] []) zpd)
def zwF:List An:=[⟨0,[.clr [2,3]],[],[],[]⟩,⟨12,[.clr [8]],[],[],[]⟩]
theorem c55:cq Tp Try.f55 zwF=some A55:=by kernel_rfl
structure H55 (D:Den) (σ:Sig) (F:Nat):Prop where
 c53:C53 (D 53) F
 g53:σ 53=some (0,false)
 c80:C80 (D 80) F
 g80:σ 80=some (0,false)
 c54:C54 (D 54) F
 g54:σ 54=some (0,false)
 c81:C81 (D 81) F
 g81:σ 81=some (0,false)
 c57:C57 (D 57) F
 g57:σ 57=some (0,false)
abbrev R55 (r:Bool):(Nat→V)→Prop:=RR Tp [.tmp 4] 0 false (enc (r:Bool))
section
variable {r:Bool}
def uC (F:Nat) (x2:((List LI)×TP)) (x18:Int) (c2:Int→Option Bool) (x28:Bool):Option Bool:=
 bif x28 then
  some false
 else
  c2 (w64 (x18 + 1))
theorem Kh (H:H55 D σ F) (x2:((List LI)×TP)) (x18:Int) (c2:Int→Option Bool) (Hc2:∀ (x18:Int) (s:Nat→V),zB [(3,.ref (.bx 3) 0 [] (.agg [enc (x2.1:List LI),eP x2.2])),(4,jb false),(5,ji (x2.1.length:Int)),(7,ji x18)] s→c2 x18=some r→Run D σ (R55 r) (.run Qd [.lp Qd,.bk 2,.sq zep]) s) (x28:Bool) (s:Nat→V) (hs:zB [(3,.ref (.bx 3) 0 [] (.agg [enc (x2.1:List LI),eP x2.2])),(4,jb false),(5,ji (x2.1.length:Int)),(7,ji x18),(78,jb x28)] s) (h:uC F x2 x18 c2 x28=some r):Run D σ (R55 r) (.nrm [.sq zl6,.bk 3,.sq zlZ,.lp Qd,.bk 2,.sq zep]) s:=by
 unfold uC at h
 obtain ⟨h3,h4,h5,h7,h78⟩:=hs
 refine .nsq (zu h78 h (fun h=>?_) (fun h=>?_))
 · refine .seq (rg (g0 (jb false) fun h4=>gq (.nsq (.ret ?_))))
   obtain rfl:=oi h
   exact rrA (zA h4) rfl
 refine .skip (.nbk (.nsq (rg (gm h7 fun h41=>g1 41 (ji (w64 (x18 + 1))) h41 fun h42=>gm h42 fun h7=>gq (.nlp ?_)))))
 exact Hc2 (w64 (x18 + 1)) _ ⟨h3,h4,h5,h7⟩ h
def xI (F:Nat) (x2:((List LI)×TP)) :Nat→Int→Option Bool
 | 0,_=>none
 | k + 1,x18=>
   bif decide (x18 < (x2.2.length:Int)) then
    (idx x2.2 x18).bind fun v25=>
    bif decide (v25.1 < 0) then
     uC F x2 x18 (xI F x2 k) true
    else
     bif decide (v25.1≥v25.2) then
      uC F x2 x18 (xI F x2 k) true
     else
      bif decide (v25.2≥(x2.1.length:Int)) then
       uC F x2 x18 (xI F x2 k) true
      else
       bif decide (x18 > 0) then
        (idx x2.2 (w64 (x18 - 1))).bind fun v29=>
        (Zu F v29 v25).bind fun r30=>
        uC F x2 x18 (xI F x2 k) (!r30)
       else
        uC F x2 x18 (xI F x2 k) false
   else
    (Zs F (x2.1.length:Int)).bind fun r31=>
    (Zv F x2.2 r31).bind fun r32=>
    some r32
theorem zjX (H:H55 D σ F) (x2:((List LI)×TP)) :∀ (k:Nat) (x18:Int) (s:Nat→V),zB [(3,.ref (.bx 3) 0 [] (.agg [enc (x2.1:List LI),eP x2.2])),(4,jb false),(5,ji (x2.1.length:Int)),(7,ji x18)] s→xI F x2 k x18=some r→Run D σ (R55 r) (.run Qd [.lp Qd,.bk 2,.sq zep]) s:=by
 intro k
 induction k with
 | zero=>intro x18 s _ h;exact nm h
 | succ k ih=>
   intro x18 s hs h
   rw [xI] at h
   obtain ⟨h3,h4,h5,h7⟩:=hs
   refine .seq (.seq (rg (gm h7 fun h36=>g1 3 (.ref (.bx 3) 0 [1] (eP x2.2)) h3 fun h37=>g1 37 (eP x2.2) h37 fun h38=>gl x2.2 h38 fun h39=>g2 36 39 (jb (decide (x18 < (x2.2.length:Int)))) h36 h39 fun h40=>gq (.nsq (zu h40 h (fun h=>?_) (fun h=>?_))))))
   · refine .skip (.nsq (.seq (.block (.seq (zC (yc ?_))))))
     refine ez [(3,_),(4,_),(5,_),(7,_),(8,_)] ⟨za h3 rfl (zi rfl (zr (zc me (zc me zk)))),za h4 rfl mb,za h5 rfl mi,za h7 rfl mi,zg rfl⟩ ?_
     rintro s ⟨h3,h4,h5,h7,h8⟩
     refine g1 3 (.ref (.bx 3) 0 [1] (eP x2.2)) h3 fun h43=>g1 43 (eP x2.2) h43 fun h44=>gm h7 fun h45=>?_
     obtain ⟨v25,Ev25,h⟩:=zd h
     refine gv (.ref .sh 0 [] (.agg [ji v25.1,ji v25.2])) (yG (t:=.sh) (lo:=0) (xs:=x2.2) h44 h45 Ev25 rfl rfl) fun h46=>g1 46 (.agg [ji v25.1,ji v25.2]) h46 fun h47=>y6 h8 (zQ (.agg [ji v25.1,ji v25.2]) (zx rfl rfl) (zx h47 rfl) (xr (by first | rfl | simp [V.toks,V.tokss,toks_enc,zN])) (gz [(3,.ref (.bx 3) 0 [] (.agg [enc (x2.1:List LI),eP x2.2])),(4,jb false),(5,ji (x2.1.length:Int)),(7,ji x18),(8,.ref (.bx 8) 0 [] (.agg [ji v25.1,ji v25.2]))] ⟨zb h3 (zj rfl rfl (zK (zf uE (zf uE rfl)))),zb h4 rfl,zb h5 rfl,zb h7 rfl,zb rfl rfl⟩ ?_))
     rintro s ⟨h3,h4,h5,h7,h8⟩
     refine .nsq (.seq (rg (g1 8 (.ref (.bx 8) 0 [0] (ji v25.1)) h8 fun h48=>g1 48 (ji v25.1) h48 fun h49=>g1 49 (jb (decide (v25.1 < 0))) h49 fun h50=>gm h50 fun h51=>yd h (fun hg4 h=>?_) (fun hg4 h=>?_))))
     · iterate 5 refine yq (ct h51 hg4) ?_
       refine g2 51 56 (jb true) (ct h51 hg4) (rf (.tup [])) fun h57=>gm h57 fun h58=>yq h58 ?_
       iterate 3 refine yq h58 ?_
       refine g2 58 62 (jb true) h58 (rf (.tup [])) fun h63=>gm h63 fun h64=>yq h64 ?_
       iterate 2 refine yq h64 ?_
       iterate 9 refine Yu rfl ?_
       refine yq h64 (g2 64 77 (jb true) h64 (rf (.tup [])) fun h78=>gz [(3,_),(4,_),(5,_),(7,_),(78,_)] ⟨h3,h4,h5,h7,h78⟩ ?_)
       rintro s ⟨h3,h4,h5,h7,h78⟩
       exact Kh H x2 x18 (xI F x2 k) ih true _ ⟨h3,h4,h5,h7,h78⟩ h
     refine zt (ct h51 hg4) (g1 8 (.ref (.bx 8) 0 [0] (ji v25.1)) h8 fun h52=>zt (ct h51 hg4) (g1 52 (ji v25.1) h52 fun h53=>zt (ct h51 hg4) (g1 8 (.ref (.bx 8) 0 [1] (ji v25.2)) h8 fun h54=>zt (ct h51 hg4) (g1 54 (ji v25.2) h54 fun h55=>zt (ct h51 hg4) (g2 53 55 (jb (decide (v25.1≥v25.2))) h53 h55 fun h56=>g2 51 56 (jb (decide (v25.1≥v25.2))) (ct h51 hg4) h56 fun h57=>gm h57 fun h58=>yd h (fun hg11 h=>?_) (fun hg11 h=>?_))))))
     · iterate 4 refine yq (ct h58 hg11) ?_
       refine g2 58 62 (jb true) (ct h58 hg11) (rf (.tup [])) fun h63=>gm h63 fun h64=>yq h64 ?_
       iterate 2 refine yq h64 ?_
       iterate 9 refine Yu rfl ?_
       refine yq h64 (g2 64 77 (jb true) h64 (rf (.tup [])) fun h78=>gz [(3,_),(4,_),(5,_),(7,_),(78,_)] ⟨h3,h4,h5,h7,h78⟩ ?_)
       rintro s ⟨h3,h4,h5,h7,h78⟩
       exact Kh H x2 x18 (xI F x2 k) ih true _ ⟨h3,h4,h5,h7,h78⟩ h
     refine zt (ct h58 hg11) (g1 8 (.ref (.bx 8) 0 [1] (ji v25.2)) h8 fun h59=>zt (ct h58 hg11) (g1 59 (ji v25.2) h59 fun h60=>zt (ct h58 hg11) (gm h5 fun h61=>zt (ct h58 hg11) (g2 60 61 (jb (decide (v25.2≥(x2.1.length:Int)))) h60 h61 fun h62=>g2 58 62 (jb (decide (v25.2≥(x2.1.length:Int)))) (ct h58 hg11) h62 fun h63=>gm h63 fun h64=>yd h (fun hg17 h=>?_) (fun hg17 h=>?_)))))
     · iterate 3 refine yq (ct h64 hg17) ?_
       iterate 9 refine Yu rfl ?_
       refine yq (ct h64 hg17) (g2 64 77 (jb true) (ct h64 hg17) (rf (.tup [])) fun h78=>gz [(3,_),(4,_),(5,_),(7,_),(78,_)] ⟨h3,h4,h5,h7,h78⟩ ?_)
       rintro s ⟨h3,h4,h5,h7,h78⟩
       exact Kh H x2 x18 (xI F x2 k) ih true _ ⟨h3,h4,h5,h7,h78⟩ h
     refine zt (ct h64 hg17) (gm h7 fun h65=>zt (ct h64 hg17) (g1 65 (jb (decide (x18 > 0))) h65 fun h66=>zt (ct h64 hg17) (gm h66 fun h67=>yd h (fun hg20 h=>?_) (fun hg20 h=>?_))))
     · refine zt (ct h67 hg20) (g1 3 (.ref (.bx 3) 0 [1] (eP x2.2)) h3 fun h68=>zt (ct h67 hg20) (g1 68 (eP x2.2) h68 fun h69=>zt (ct h67 hg20) (gm h7 fun h70=>zt (ct h67 hg20) (g1 70 (ji (w64 (x18 - 1))) h70 fun h71=>?_))))
       obtain ⟨v29,Ev29,h⟩:=zd h
       refine zt (ct h67 hg20) (gv (.ref .sh 0 [] (.agg [ji v29.1,ji v29.2])) (yG (t:=.sh) (lo:=0) (xs:=x2.2) h69 h71 Ev29 rfl rfl) fun h72=>zt (ct h67 hg20) (g1 72 (.agg [ji v29.1,ji v29.2]) h72 fun h73=>zt (ct h67 hg20) (g1 8 (.agg [ji v25.1,ji v25.2]) h8 fun h74=>?_)))
       obtain ⟨r30,Er30,h⟩:=zd h
       refine zt (ct h67 hg20) (gcF [enc (v29:(Int×Int)),enc (v25:(Int×Int))] (zl h73 rfl (erase_enc (v29:(Int×Int))) (zl h74 rfl (erase_enc (v25:(Int×Int))) zJ)) (H.c54 _ _ _ Er30) H.g54 (zt (ct h67 hg20) (g1 75 (jb (!r30)) (rf (jb r30)) fun h76=>zt (ct h64 hg17) (g2 67 76 (jb (!r30)) (ct h67 hg20) h76 fun h77=>g2 64 77 (jb (!r30)) (ct h64 hg17) h77 fun h78=>gz [(3,_),(4,_),(5,_),(7,_),(78,_)] ⟨h3,h4,h5,h7,h78⟩ ?_))))
       rintro s ⟨h3,h4,h5,h7,h78⟩
       exact Kh H x2 x18 (xI F x2 k) ih (!r30) _ ⟨h3,h4,h5,h7,h78⟩ h
     iterate 9 refine yq (ct h67 hg20) ?_
     refine zt (ct h64 hg17) (g2 67 76 (jb false) (ct h67 hg20) (rf (.tup [])) fun h77=>g2 64 77 (jb false) (ct h64 hg17) h77 fun h78=>gz [(3,_),(4,_),(5,_),(7,_),(78,_)] ⟨h3,h4,h5,h7,h78⟩ ?_)
     rintro s ⟨h3,h4,h5,h7,h78⟩
     exact Kh H x2 x18 (xI F x2 k) ih false _ ⟨h3,h4,h5,h7,h78⟩ h
   refine .exit (.esq (.elp (.ebk (.nsq (.seq (rg (g1 3 (.ref (.bx 3) 0 [1] (eP x2.2)) h3 fun h79=>g1 79 (eP x2.2) h79 fun h80=>gm h5 fun h81=>?_)))))))
   obtain ⟨r31,Er31,h⟩:=zd h
   refine gcF [enc ((x2.1.length:Int):Int)] (zl h81 rfl rfl zJ) (H.c81 _ _ Er31) H.g81 ?_
   obtain ⟨r32,Er32,h⟩:=zd h
   refine gcF [eP x2.2,eL r31] (zl h80 rfl (erase_enc (x2.2:TP)) (zl (v:=eL r31) rfl rfl (erase_enc (r31:LI)) zJ)) (H.c57 _ _ _ Er32) H.g57 (gm (rf (jb r32)) fun h4=>gq (.nsq (.ret ?_)))
   obtain rfl:=oi h
   exact rrA (zA h4) rfl
def Zx (F:Nat) (x1:GR) (x2:((List LI)×TP)) :Nat→Int→Option Bool
 | 0,_=>none
 | k + 1,x7=>
   bif decide (x7 < (x2.1.length:Int)) then
    (idx x2.1 x7).bind fun v10=>
    (Jx F x1 v10).bind fun r11=>
    bif (!r11) then
     some false
    else
     (Zx F x1 x2 k) (w64 (x7 + 1))
   else
    xI F x2 F 0
theorem zjd (H:H55 D σ F) (x1:GR) (x2:((List LI)×TP)) :∀ (k:Nat) (x7:Int) (s:Nat→V),zB [(2,bG 2 x1),(3,.ref (.bx 3) 0 [] (.agg [enc (x2.1:List LI),eP x2.2])),(4,jb false),(5,ji (x2.1.length:Int)),(6,ji x7)] s→Zx F x1 x2 k x7=some r→Run D σ (R55 r) (.run zh8 [.lp zh8,.bk 0,.sq zhY]) s:=by
 intro k
 induction k with
 | zero=>intro x7 s _ h;exact nm h
 | succ k ih=>
   intro x7 s hs h
   rw [Zx] at h
   obtain ⟨h2,h3,h4,h5,h6⟩:=hs
   refine .seq (.seq (rg (gm h6 fun h23=>gm h5 fun h24=>g2 23 24 (jb (decide (x7 < (x2.1.length:Int)))) h23 h24 fun h25=>gq (.nsq (zu h25 h (fun h=>?_) (fun h=>?_))))))
   · refine .skip (.nsq (.seq (.block (.seq (rg (g1 2 (gV x1) h2 fun h28=>g1 3 (.ref (.bx 3) 0 [0] (enc (x2.1:List LI))) h3 fun h29=>g1 29 (enc (x2.1:List LI)) h29 fun h30=>gm h6 fun h31=>?_))))))
     obtain ⟨v10,Ev10,h⟩:=zd h
     refine gv (.ref .sh 0 [] (eL v10)) (yG (t:=.sh) (lo:=0) (xs:=x2.1) h30 h31 Ev10 rfl rfl) fun h32=>g1 32 (eL v10) h32 fun h33=>?_
     obtain ⟨r11,Er11,h⟩:=zd h
     refine gcF [enc (x1:GR),eL v10] (zl h28 rfl (erase_enc (x1:GR)) (zl h33 rfl (erase_enc (v10:LI)) zJ)) (H.c80 _ _ _ Er11) H.g80 (g1 34 (jb (!r11)) (rf (jb r11)) fun h35=>gq (.nsq (zu h35 h (fun h=>?_) (fun h=>?_))))
     · refine .seq (rg (g0 (jb false) fun h4=>gq (.nsq (.ret ?_))))
       obtain rfl:=oi h
       exact rrA (zA h4) rfl
     refine .skip (.nbk (.nsq (rg (gm h6 fun h26=>g1 26 (ji (w64 (x7 + 1))) h26 fun h27=>gm h27 fun h6=>gq (.nlp ?_)))))
     exact ih (w64 (x7 + 1)) _ ⟨h2,h3,h4,h5,h6⟩ h
   refine .exit (.esq (.elp (.ebk (.nsq (.seq (.seq (rg (g0 (ji 0) fun h7=>gq (.nsq (.block (.loop ?_)))))))))))
   exact zjX H x2 F 0 _ ⟨h3,h4,h5,h7⟩ h
def Xr (F:Nat) (x1:GR) (x2:((List LI)×TP))  (x4:Bool):Option Bool:=
 bif x4 then
  some false
 else
  Zx F x1 x2 F 0
theorem zda (H:H55 D σ F) (x1:GR) (x2:((List LI)×TP))  (x4:Bool) (s:Nat→V) (hs:zB [(2,bG 2 x1),(3,.ref (.bx 3) 0 [] (.agg [enc (x2.1:List LI),eP x2.2])),(4,jb false),(5,ji (x2.1.length:Int)),(22,jb x4)] s) (h:Xr F x1 x2  x4=some r):Run D σ (R55 r) (.nrm [.sq zja,.sq zhg]) s:=by
 unfold Xr at h
 obtain ⟨h2,h3,h4,h5,h22⟩:=hs
 refine .nsq (zu h22 h (fun h=>?_) (fun h=>?_))
 · refine .seq (rg (g0 (jb false) fun h4=>gq (.nsq (.ret ?_))))
   obtain rfl:=oi h
   exact rrA (zA h4) rfl
 refine .skip (.nsq (.seq (.seq (rg (g0 (ji 0) fun h6=>gq (.nsq (.block (.loop ?_))))))))
 exact zjd H x1 x2 F 0 _ ⟨h2,h3,h4,h5,h6⟩ h
def XV (F:Nat) (x1:GR) (x2:((List LI)×TP)):Option Bool:=
 (W0 F (x2.1.length:Int) 1 8).bind fun r33=>
 bif (!r33) then
  Xr F x1 x2 true
 else
  Xr F x1 x2 ((x2.2.length:Int) != (w64 ((x2.1.length:Int) - 1)))
theorem t55 (H:H55 D σ F) (x1:GR) (x2:((List LI)×TP)) (s:Nat→V) (hs:zB [(0,gV x1),(1,.agg [enc (x2.1:List LI),eP x2.2])] s) (h:XV F x1 x2=some r):Run D σ (R55 r) (.run A55 []) s:=by
 unfold XV at h
 obtain ⟨h0,h1⟩:=hs
 refine .seq (zC (yc ?_))
 refine ez [(0,_),(1,_),(2,_),(3,_)] ⟨za h0 rfl mIE,za h1 rfl (zr (zc me (zc me zk))),zg rfl,zg rfl⟩ ?_
 rintro s ⟨h0,h1,h2,h3⟩
 refine xU (gV x1) (zx h0 rfl) h2 rfl (xU (.agg [enc (x2.1:List LI),eP x2.2]) (zx h1 rfl) h3 rfl (g0 (jb false) fun h4=>gq (.nsq (.seq (rg (g1 3 (.ref (.bx 3) 0 [0] (enc (x2.1:List LI))) (rf (.ref (.bx 3) 0 [] (.agg [enc (x2.1:List LI),eP x2.2]))) fun h9=>g1 9 (enc (x2.1:List LI)) h9 fun h10=>gl x2.1 h10 fun h11=>gm h11 fun h5=>gq (.nsq (.seq (.seq (rg (gm h5 fun h12=>?_)))))))))))
 obtain ⟨r33,Er33,h⟩:=zd h
 refine gcF [enc ((x2.1.length:Int):Int),enc (1:Int),enc (8:Int)] (zl h12 rfl rfl (zl (v:=ji 1) rfl rfl rfl (zl (v:=ji 8) rfl rfl rfl zJ))) (H.c53 _ _ _ _ Er33) H.g53 (g1 13 (jb (!r33)) (rf (jb r33)) fun h14=>gm h14 fun h15=>yd h (fun hg4 h=>?_) (fun hg4 h=>?_))
 · iterate 6 refine yq (ct h15 hg4) ?_
   refine g2 15 21 (jb true) (ct h15 hg4) (rf (.tup [])) fun h22=>gq ?_
   exact zda H x1 x2 true _ ⟨rfl,rfl,h4,h5,h22⟩ h
 refine zt (ct h15 hg4) (g1 3 (.ref (.bx 3) 0 [1] (eP x2.2)) (rf (.ref (.bx 3) 0 [] (.agg [enc (x2.1:List LI),eP x2.2]))) fun h16=>zt (ct h15 hg4) (g1 16 (eP x2.2) h16 fun h17=>zt (ct h15 hg4) (gl x2.2 h17 fun h18=>zt (ct h15 hg4) (gm h5 fun h19=>zt (ct h15 hg4) (g1 19 (ji (w64 ((x2.1.length:Int) - 1))) h19 fun h20=>zt (ct h15 hg4) (g2 18 20 (jb ((x2.2.length:Int) != (w64 ((x2.1.length:Int) - 1)))) h18 h20 fun h21=>g2 15 21 (jb ((x2.2.length:Int) != (w64 ((x2.1.length:Int) - 1)))) (ct h15 hg4) h21 fun h22=>gq ?_))))))
 exact zda H x1 x2 ((x2.2.length:Int) != (w64 ((x2.1.length:Int) - 1))) _ ⟨rfl,rfl,h4,h5,h22⟩ h
end
def e55 (F:Nat):Ent:=ent 55 (fun (x:(GR×((List LI)×TP)×Unit))=>XV F x.1 x.2.1) (fun (r:Bool)=>(enc (r:Bool))) 0 false []
abbrev C55 (D:List V→Option V) (F:Nat):Prop:=∀ (x0:GR) (x1:((List LI)×TP)) r,XV F x0 x1=some r→D [enc x0,enc x1]=some (enc (r:Bool))
theorem p55 {F:Nat}:C55 (e55 F).den F:=fun x0 x1 _ h=>zZ (x0,x1,()) h
theorem o55 (hF:zH Tp D σ) (H:H55 D σ F):(e55 F).Ok Tp:=okZ (f:=55) Try.func55 fun ⟨x0,x1,_⟩ y hy=>cR hF Try.func55 c55 (t55 H x0 x1 _ ⟨rfl,rfl⟩ hy)
def zqL:AC:=(.cond (.t 14) .skip (.exit 0))
def zsL:AC:=(.cond (.t 20) .skip (.exit 2))
def zmS:AC:=(rr [jm 21 8,jv 22 (.bin .add (.t 21) (jn 1)),jm 8 22])
def zrO:AC:=(.seq (.block 3 (rr [jm 23 7,jm 24 23,jg 25 24 true (.fld (.t 2) 0 0),jg 26 24 true (.load .p (.t 25)),jg 27 24 true (.mov (.t 6)),jg 28 24 true (.idx (.t 26) (.t 27) 1),jg 29 24 true (.load .p (.t 28)),jg 30 24 true (.mov (.t 1)),jg 31 24 true (.mov (.t 8)),jg 32 24 true (.idx (.t 30) (.t 31) 1),jg 33 24 true (.load .s (.t 32)),.mk (some 34) (some (24,true)) false (.call (jf 65) [.t 29,.t 33]),jv 35 (.pick (.t 24) (.t 34) kf),jm 7 35])) zmS)
def QD:AC:=(.seq (.seq (rr [jm 17 8,jm 18 1,jk 19 18,jv 20 (.bin .lss (.t 17) (.t 19))]) zsL) zrO)
def zsU:AC:=(.block 2 (.loop QD))
def zob:AC:=(.cond (.t 36) (.reg [.clr [39,40]] [jm 37 5,jm 38 6,jx 39 (.lit i0 1 [(0,0,.t 38)]),jx 40 (.app .s (.t 37) (.t 39)),jm 5 40] [.home 40 5]) .skip)
def zao:AC:=(.seq (rr [jm 36 7]) zob)
def zsy:AC:=(.seq (.seq (rr [jv 8 (.mov (jn 0))]) zsU) zao)
def NY:AC:=(rr [jm 15 6,jv 16 (.bin .add (.t 15) (jn 1)),jm 6 16])
def ztd:AC:=(.seq (.block 1 (.seq (rr [jv 7 (.mov kt)]) zsy)) NY)
def UN:AC:=(.seq (.seq (rr [jm 10 6,jv 11 (.fld (.t 2) 0 0),jv 12 (.load .p (.t 11)),jk 13 12,jv 14 (.bin .lss (.t 10) (.t 13))]) zqL) ztd)
def Jo:AC:=(.seq (.reg [] [jm 41 5,jm 4 41] [.home 5 4]) .ret)
def znj:AC:=(.block 0 (.loop UN))
def znw:AC:=(.seq (.seq (rr [jv 6 (.mov (jn 0))]) znj) Jo)
def zoy:AC:=(.seq (.reg [.clr [9]] [jx 9 (.lit i0 0 []),jm 5 9] [.home 9 5]) znw)
def A56:AC:=(.seq (.reg [.clr [2]] [jx 2 (.box (.t 0)),jv 4 (.mov (.k (.sl .nl .s 0 [])))] []) zoy)
def zxh:List An:=[⟨0,[.clr [2]],[],[],[]⟩,⟨1,[.clr [9]],[],[],[.home 9 5]⟩,⟨11,[.clr [39,40]],[],[],[.home 40 5]⟩,⟨12,[],[],[],[.home 5 4]⟩]
theorem c56:cq Tp Try.f56 zxh=some A56:=by kernel_rfl
structure H56 (D:Den) (σ:Sig) (F:Nat):Prop where
 c65:C65 (D 65) F
 g65:σ 65=some (0,false)
abbrev R56 (r:LI):(Nat→V)→Prop:=RR Tp [.tmp 4] 0 false (eL r)
section
variable {r:LI}
def X5 (F:Nat) (x2:LI) (x1:((List LI)×TP)) (x28:LI) (x29:Int) (x62:Int) (c1:LI→Int→Option LI) (c4:Bool→Int→Option LI) (x73:Bool):Option LI:=
 c4 x73 (w64 (x62 + 1))
theorem zc6 (H:H56 D σ F) (x2:LI) (x1:((List LI)×TP)) (x28:LI) (x29:Int) (x62:Int) (c1:LI→Int→Option LI) (Hc1:∀ (x28:LI) (x29:Int) (s:Nat→V),zB [(1,eL x2),(2,.ref (.bx 2) 0 [] (.agg [enc (x1.1:List LI),eP x1.2])),(4,nI),(5,oI 5 [] (.of x28)),(6,ji x29)] s→c1 x28 x29=some r→Run D σ (R56 r) (.run UN [.lp UN,.bk 0,.sq Jo]) s) (c4:Bool→Int→Option LI) (Hc4:∀ (x61:Bool) (x62:Int) (s:Nat→V),zB [(1,eL x2),(2,.ref (.bx 2) 0 [] (.agg [enc (x1.1:List LI),eP x1.2])),(4,nI),(5,oI 5 [] (.of x28)),(6,ji x29),(7,jb x61),(8,ji x62)] s→c4 x61 x62=some r→Run D σ (R56 r) (.run QD [.lp QD,.bk 2,.sq zao,.bk 1,.sq NY,.lp UN,.bk 0,.sq Jo]) s) (x73:Bool) (s:Nat→V) (hs:zB [(1,eL x2),(2,.ref (.bx 2) 0 [] (.agg [enc (x1.1:List LI),eP x1.2])),(4,nI),(5,oI 5 [] (.of x28)),(6,ji x29),(7,jb x73),(8,ji x62)] s) (h:X5 F x2 x1 x28 x29 x62 c1 c4 x73=some r):Run D σ (R56 r) (.nrm [.bk 3,.sq zmS,.lp QD,.bk 2,.sq zao,.bk 1,.sq NY,.lp UN,.bk 0,.sq Jo]) s:=by
 unfold X5 at h
 obtain ⟨h1,h2,h4,h5,h6,h7,h8⟩:=hs
 refine .nbk (.nsq (rg (gm h8 fun h21=>g1 21 (ji (w64 (x62 + 1))) h21 fun h22=>gm h22 fun h8=>gq (.nlp ?_))))
 exact Hc4 x73 (w64 (x62 + 1)) _ ⟨h1,h2,h4,h5,h6,h7,h8⟩ h
def X7 (F:Nat) (x2:LI) (x1:((List LI)×TP)) (x29:Int) (c1:LI→Int→Option LI) (x78:LI):Option LI:=
 c1 x78 (w64 (x29 + 1))
theorem zcz (H:H56 D σ F) (x2:LI) (x1:((List LI)×TP)) (x29:Int) (c1:LI→Int→Option LI) (Hc1:∀ (x28:LI) (x29:Int) (s:Nat→V),zB [(1,eL x2),(2,.ref (.bx 2) 0 [] (.agg [enc (x1.1:List LI),eP x1.2])),(4,nI),(5,oI 5 [] (.of x28)),(6,ji x29)] s→c1 x28 x29=some r→Run D σ (R56 r) (.run UN [.lp UN,.bk 0,.sq Jo]) s) (x78:LI) (s:Nat→V) (hs:zB [(1,eL x2),(2,.ref (.bx 2) 0 [] (.agg [enc (x1.1:List LI),eP x1.2])),(4,nI),(5,oI 5 [] (.of x78)),(6,ji x29)] s) (h:X7 F x2 x1 x29 c1 x78=some r):Run D σ (R56 r) (.nrm [.bk 1,.sq NY,.lp UN,.bk 0,.sq Jo]) s:=by
 unfold X7 at h
 obtain ⟨h1,h2,h4,h5,h6⟩:=hs
 refine .nbk (.nsq (rg (gm h6 fun h15=>g1 15 (ji (w64 (x29 + 1))) h15 fun h16=>gm h16 fun h6=>gq (.nlp ?_))))
 exact Hc1 x78 (w64 (x29 + 1)) _ ⟨h1,h2,h4,h5,h6⟩ h
def vV (F:Nat) (x2:LI) (x1:((List LI)×TP)) (x28:LI) (x29:Int) (c1:LI→Int→Option LI):Nat→Bool→Int→Option LI
 | 0,_,_=>none
 | k + 1,x61,x62=>
   bif decide (x62 < (x2.length:Int)) then
    bif x61 then
     (idx x1.1 x29).bind fun v74=>
     (idx x2 x62).bind fun v75=>
     (vF F v74 v75).bind fun r76=>
     X5 F x2 x1 x28 x29 x62 c1 (vV F x2 x1 x28 x29 c1 k) r76
    else
     X5 F x2 x1 x28 x29 x62 c1 (vV F x2 x1 x28 x29 c1 k) false
   else
    bif x61 then
     (vh x28 [x29]).bind fun ap79=>
     X7 F x2 x1 x29 c1 ap79
    else
     X7 F x2 x1 x29 c1 x28
theorem zhi (H:H56 D σ F) (x2:LI) (x1:((List LI)×TP)) (x28:LI) (x29:Int) (c1:LI→Int→Option LI) (Hc1:∀ (x28:LI) (x29:Int) (s:Nat→V),zB [(1,eL x2),(2,.ref (.bx 2) 0 [] (.agg [enc (x1.1:List LI),eP x1.2])),(4,nI),(5,oI 5 [] (.of x28)),(6,ji x29)] s→c1 x28 x29=some r→Run D σ (R56 r) (.run UN [.lp UN,.bk 0,.sq Jo]) s):∀ (k:Nat) (x61:Bool) (x62:Int) (s:Nat→V),zB [(1,eL x2),(2,.ref (.bx 2) 0 [] (.agg [enc (x1.1:List LI),eP x1.2])),(4,nI),(5,oI 5 [] (.of x28)),(6,ji x29),(7,jb x61),(8,ji x62)] s→vV F x2 x1 x28 x29 c1 k x61 x62=some r→Run D σ (R56 r) (.run QD [.lp QD,.bk 2,.sq zao,.bk 1,.sq NY,.lp UN,.bk 0,.sq Jo]) s:=by
 intro k
 induction k with
 | zero=>intro x61 x62 s _ h;exact nm h
 | succ k ih=>
   intro x61 x62 s hs h
   rw [vV] at h
   obtain ⟨h1,h2,h4,h5,h6,h7,h8⟩:=hs
   refine .seq (.seq (rg (gm h8 fun h17=>gm h1 fun h18=>gl x2 h18 fun h19=>g2 17 19 (jb (decide (x62 < (x2.length:Int)))) h17 h19 fun h20=>gq (.nsq (zu h20 h (fun h=>?_) (fun h=>?_))))))
   · refine .skip (.nsq (.seq (.block (rg (gm h7 fun h23=>gm h23 fun h24=>yd h (fun hg2 h=>?_) (fun hg2 h=>?_))))))
     · refine zt (ct h24 hg2) (g1 2 (.ref (.bx 2) 0 [0] (enc (x1.1:List LI))) h2 fun h25=>zt (ct h24 hg2) (g1 25 (enc (x1.1:List LI)) h25 fun h26=>zt (ct h24 hg2) (gm h6 fun h27=>?_)))
       obtain ⟨v74,Ev74,h⟩:=zd h
       refine zt (ct h24 hg2) (gv (.ref .sh 0 [] (eL v74)) (yG (t:=.sh) (lo:=0) (xs:=x1.1) h26 h27 Ev74 rfl rfl) fun h28=>zt (ct h24 hg2) (g1 28 (eL v74) h28 fun h29=>zt (ct h24 hg2) (gm h1 fun h30=>zt (ct h24 hg2) (gm h8 fun h31=>?_))))
       obtain ⟨v75,Ev75,h⟩:=zd h
       refine zt (ct h24 hg2) (gv (.ref .sh 0 [] (ji v75)) (yG (t:=.sh) (lo:=0) (xs:=x2) h30 h31 Ev75 rfl rfl) fun h32=>zt (ct h24 hg2) (g1 32 (ji v75) h32 fun h33=>?_))
       obtain ⟨r76,Er76,h⟩:=zd h
       refine zt (ct h24 hg2) (gcF [eL v74,enc (v75:Int)] (zl h29 rfl (erase_enc (v74:LI)) (zl h33 rfl rfl zJ)) (H.c65 _ _ _ Er76) H.g65 (g2 24 34 (jb r76) (ct h24 hg2) (rf (jb r76)) fun h35=>gm h35 fun h7=>gq ?_))
       exact zc6 H x2 x1 x28 x29 x62 c1 Hc1 (vV F x2 x1 x28 x29 c1 k) ih r76 _ ⟨h1,h2,h4,h5,h6,h7,h8⟩ h
     iterate 10 refine yq (ct h24 hg2) ?_
     refine g2 24 34 (jb false) (ct h24 hg2) (rf (.tup [])) fun h35=>gm h35 fun h7=>gq ?_
     exact zc6 H x2 x1 x28 x29 x62 c1 Hc1 (vV F x2 x1 x28 x29 c1 k) ih false _ ⟨h1,h2,h4,h5,h6,h7,h8⟩ h
   refine .exit (.esq (.elp (.ebk (.nsq (.seq (rg (gm h7 fun h36=>gq (.nsq (zu h36 h (fun h=>?_) (fun h=>?_))))))))))
   · refine zC (yc ?_)
     refine ez [(1,_),(2,_),(4,_),(5,_),(6,_),(39,_),(40,_)] ⟨za h1 rfl me,za h2 rfl (zi rfl (zr (zc me (zc me zk)))),za h4 rfl rfl,za h5 rfl (zm (r:=5) (p:=[]) rfl rfl),za h6 rfl mi,zg rfl,zg rfl⟩ ?_
     rintro s ⟨h1,h2,h4,h5,h6,h39,h40⟩
     refine gm h5 fun h37=>gm h6 fun h38=>xv [(38,ji x29)] [enc (x29:Int)] h38 rfl rfl h39 ?_
     obtain ⟨ap79,Eap79,h⟩:=zd h
     refine ZG (q:=5) (p:=[]) (o:=.of (x28:LI)) (ys:=([x29]:LI)) (t2:=.at 39 []) (lo2:=0) h37 rfl rfl h40 (vK (o:=.of (x28:LI)) Eap79 trivial) (fun s20 ha20=>gm (rf (oI 40 [] (.of ap79))) fun h5=>xf (yR (r:=40) (x:=5) (v:=_) h5 rfl (fun s21 hz21=>?_)))
     refine ez [(1,eL x2),(2,.ref (.bx 2) 0 [] (.agg [enc (x1.1:List LI),eP x1.2])),(4,nI),(5,oI 5 [] (.of ap79)),(6,ji x29)] ⟨hz21 1 _ _ (show s20 1=(eL x2) from zF ha20 h1 me) me,hz21 2 _ _ (show s20 2=(.ref (.bx 2) 0 [] (.agg [enc (x1.1:List LI),eP x1.2])) from zF ha20 h2 (zi rfl (zr (zc me (zc me zk))))) (zi rfl (zr (zc me (zc me zk)))),hz21 4 _ nI (show s20 4=nI from zF ha20 h4 rfl) rfl,hz21 5 _ _ h5 (zm (r:=40) (p:=[]) rfl rfl),hz21 6 _ _ (show s20 6=(ji x29) from zF ha20 h6 mi) mi⟩ ?_
     rintro s ⟨h1,h2,h4,h5,h6⟩
     exact zcz H x2 x1 x29 c1 Hc1 ap79 _ ⟨h1,h2,h4,h5,h6⟩ h
   refine .skip ?_
   exact zcz H x2 x1 x29 c1 Hc1 x28 _ ⟨h1,h2,h4,h5,h6⟩ h
def uG (F:Nat) (x2:LI) (x1:((List LI)×TP)) :Nat→LI→Int→Option LI
 | 0,_,_=>none
 | k + 1,x28,x29=>
   bif decide (x29 < (x1.1.length:Int)) then
    vV F x2 x1 x28 x29 (uG F x2 x1 k) F true 0
   else
    some x28
theorem zhM (H:H56 D σ F) (x2:LI) (x1:((List LI)×TP)) :∀ (k:Nat) (x28:LI) (x29:Int) (s:Nat→V),zB [(1,eL x2),(2,.ref (.bx 2) 0 [] (.agg [enc (x1.1:List LI),eP x1.2])),(4,nI),(5,oI 5 [] (.of x28)),(6,ji x29)] s→uG F x2 x1 k x28 x29=some r→Run D σ (R56 r) (.run UN [.lp UN,.bk 0,.sq Jo]) s:=by
 intro k
 induction k with
 | zero=>intro x28 x29 s _ h;exact nm h
 | succ k ih=>
   intro x28 x29 s hs h
   rw [uG] at h
   obtain ⟨h1,h2,h4,h5,h6⟩:=hs
   refine .seq (.seq (rg (gm h6 fun h10=>g1 2 (.ref (.bx 2) 0 [0] (enc (x1.1:List LI))) h2 fun h11=>g1 11 (enc (x1.1:List LI)) h11 fun h12=>gl x1.1 h12 fun h13=>g2 10 13 (jb (decide (x29 < (x1.1.length:Int)))) h10 h13 fun h14=>gq (.nsq (zu h14 h (fun h=>?_) (fun h=>?_))))))
   · refine .skip (.nsq (.seq (.block (.seq (rg (g0 (jb true) fun h7=>gq (.nsq (.seq (.seq (rg (g0 (ji 0) fun h8=>gq (.nsq (.block (.loop ?_))))))))))))))
     exact zhi H x2 x1 x28 x29 (uG F x2 x1 k) ih F true 0 _ ⟨h1,h2,h4,h5,h6,h7,h8⟩ h
   refine .exit (.esq (.elp (.ebk (.nsq (.seq (rg (gm h5 fun h41=>gm h41 fun h4=>xf (yR (r:=5) (x:=4) (v:=_) h4 rfl (fun s22 hz22=>?_)))))))))
   refine ez [(4,oI 4 [] (.of x28))] (hz22 4 _ _ h4 (zm (r:=5) (p:=[]) rfl rfl)) ?_
   rintro s h4
   refine .nsq (.ret ?_)
   obtain rfl:=oi h
   exact rrA (zA h4) (Yx (xk (o:=.of x28)) (vR rfl))
def X1 (F:Nat) (x1:((List LI)×TP)) (x2:LI):Option LI:=
 uG F x2 x1 F [] 0
theorem t56 (H:H56 D σ F) (x1:((List LI)×TP)) (x2:LI) (s:Nat→V) (hs:zB [(0,.agg [enc (x1.1:List LI),eP x1.2]),(1,eL x2)] s) (h:X1 F x1 x2=some r):Run D σ (R56 r) (.run A56 []) s:=by
 unfold X1 at h
 obtain ⟨h0,h1⟩:=hs
 refine .seq (zC (yc ?_))
 refine ez [(0,_),(1,_),(2,_)] ⟨za h0 rfl (zr (zc me (zc me zk))),za h1 rfl me,zg rfl⟩ ?_
 rintro s ⟨h0,h1,h2⟩
 refine xU (.agg [enc (x1.1:List LI),eP x1.2]) (zx h0 rfl) h2 rfl (g0 nI fun h4=>gq (.nsq (.seq (zC (yc ?_)))))
 refine ez [(1,_),(2,_),(4,_),(9,_)] ⟨za h1 rfl me,za rfl rfl (zi rfl (zr (zc me (zc me zk)))),za h4 rfl rfl,zg rfl⟩ ?_
 rintro s ⟨h1,h2,h4,h9⟩
 refine xv [] [] trivial rfl rfl h9 (gm (rf (oI 9 [] (.of []))) fun h5=>xf (yR (r:=9) (x:=5) (v:=_) h5 rfl (fun s3 hz3=>?_)))
 refine ez [(1,eL x2),(2,.ref (.bx 2) 0 [] (.agg [enc (x1.1:List LI),eP x1.2])),(4,nI),(5,oI 5 [] (.of []))] ⟨hz3 1 _ _ h1 me,hz3 2 _ _ h2 (zi rfl (zr (zc me (zc me zk)))),hz3 4 _ _ h4 rfl,hz3 5 _ _ h5 (zm (r:=9) (p:=[]) rfl rfl)⟩ ?_
 rintro s ⟨h1,h2,h4,h5⟩
 refine .nsq (.seq (.seq (rg (g0 (ji 0) fun h6=>gq (.nsq (.block (.loop ?_)))))))
 exact zhM H x2 x1 F [] 0 _ ⟨h1,h2,h4,h5,h6⟩ h
end
def e56 (F:Nat):Ent:=ent 56 (fun (x:(((List LI)×TP)×LI×Unit))=>X1 F x.1 x.2.1) (fun (r:LI)=>(eL r)) 0 false []
abbrev C56 (D:List V→Option V) (F:Nat):Prop:=∀ (x0:((List LI)×TP)) (x1:LI) r,X1 F x0 x1=some r→D [enc x0,enc x1]=some (eL r)
theorem p56 {F:Nat}:C56 (e56 F).den F:=fun x0 x1 _ h=>zZ (x0,x1,()) h
theorem o56 (hF:zH Tp D σ) (H:H56 D σ F):(e56 F).Ok Tp:=okZ (f:=56) Try.func56 fun ⟨x0,x1,_⟩ y hy=>cR hF Try.func56 c56 (t56 H x0 x1 _ ⟨rfl,rfl⟩ hy)
def zpU:AC:=(.cond (.t 15) .skip (.exit 0))
def zmp:AC:=(.cond (.t 31) (.seq (rr [jv 4 (.mov kf)]) .ret) .skip)
def zpA:AC:=(.seq (rr [jm 22 6,jk 23 22,jv 24 (.bin .eql (.t 23) (jn 0)),jm 25 24,jg 26 25 false (.fld (.t 3) 1 1),jg 27 25 false (.load .p (.t 26)),jg 28 25 false (.mov (.t 6)),.mk (some 29) (some (25,false)) false (.call (jf 57) [.t 27,.t 28]),jg 30 25 false (.un .not (.t 29)),jv 31 (.pick (.t 25) kt (.t 30))]) zmp)
def zmJ:AC:=(rr [jm 16 5,jv 17 (.bin .add (.t 16) (jn 1)),jm 5 17])
def ztu:AC:=(.seq (.block 1 (.seq (.reg [.clr [20]] [jv 18 (.load (.ag [.p,.p]) (.t 3)),jm 19 5,jx 20 (.lit i0 1 [(0,0,.t 19)]),jx 21 (.call (jf 56) [.t 18,.t 20]),jm 6 21] []) zpA)) zmJ)
def Qi:AC:=(.seq (.seq (rr [jm 12 5,jv 13 (.fld (.t 2) 0 0),jl 14 13,jv 15 (.bin .lss (.t 12) (.t 14))]) zpU) ztu)
def zoc:AC:=(.cond (.t 36) .skip (.exit 2))
def zoH:AC:=(.cond (.t 55) (.seq (rr [jv 4 (.mov kf)]) .ret) .skip)
def znQ:AC:=(rr [jm 37 7,jv 38 (.bin .add (.t 37) (jn 1)),jm 7 38])
def zpz:AC:=(.seq (.block 3 (.seq (.reg [.clr [52]] [jv 39 (.load (.ag [.p,.p]) (.t 3)),jv 40 (.fld (.t 2) 1 1),jv 41 (.load .p (.t 40)),jm 42 7,jv 43 (.idx (.t 41) (.t 42) 2),jv 44 (.idxA (.t 43) (jn 0) 2 1),jl 45 44,jv 46 (.fld (.t 2) 1 1),jv 47 (.load .p (.t 46)),jm 48 7,jv 49 (.idx (.t 47) (.t 48) 2),jv 50 (.idxA (.t 49) (jn 1) 2 1),jl 51 50,jx 52 (.lit i0 2 [(0,0,.t 45),(1,1,.t 51)]),jx 53 (.call (jf 56) [.t 39,.t 52]),jk 54 53,jv 55 (.bin .eql (.t 54) (jn 0))] []) zoH)) znQ)
def ziY:AC:=(.seq (.seq (rr [jm 32 7,jv 33 (.fld (.t 2) 1 1),jv 34 (.load .p (.t 33)),jk 35 34,jv 36 (.bin .lss (.t 32) (.t 35))]) zoc) zpz)
def zu4:AC:=(.block 2 (.loop ziY))
def zkk:AC:=(.seq (rr [jv 4 (.mov kt)]) .ret)
def zeV:AC:=(.seq (.seq (rr [jv 7 (.mov (jn 0))]) zu4) zkk)
def zmZ:AC:=(.cond (.t 11) (.seq (rr [jv 4 (.mov kf)]) .ret) .skip)
def zoA:AC:=(.block 0 (.loop Qi))
def znK:AC:=(.seq (.seq (rr [jv 5 (.mov (jn 0))]) zoA) zeV)
def zng:AC:=(.seq (.seq (rr [jv 8 (.load (.ag [.s,.p]) (.t 2)),jv 9 (.load (.ag [.p,.p]) (.t 3)),jx 10 (.call (jf 55) [.t 8,.t 9]),jv 11 (.un .not (.t 10))]) zmZ) znK)
def A25:AC:=(.seq (.reg [.clr [2,3]] [jx 2 (.box (.t 0)),jx 3 (.box (.t 1)),jv 4 (.mov kf)] []) zng)
def zw3:List An:=[⟨0,[.clr [2,3]],[],[],[]⟩,⟨6,[.clr [20]],[],[],[]⟩,⟨12,[.clr [52]],[],[],[]⟩]
theorem c25:cq Tp Try.f25 zw3=some A25:=by kernel_rfl
structure H25 (D:Den) (σ:Sig) (F:Nat):Prop where
 c55:C55 (D 55) F
 g55:σ 55=some (0,false)
 c56:C56 (D 56) F
 g56:σ 56=some (0,false)
 c57:C57 (D 57) F
 g57:σ 57=some (0,false)
abbrev R25 (r:Bool):(Nat→V)→Prop:=RR Tp [.tmp 4] 0 false (enc (r:Bool))
section
variable {r:Bool}
def Wa (F:Nat) (x1:GR) (x2:((List LI)×TP)) (x8:Int) (c1:Int→Option Bool) (x15:Bool):Option Bool:=
 bif x15 then
  some false
 else
  c1 (w64 (x8 + 1))
theorem zcB (H:H25 D σ F) (x1:GR) (x2:((List LI)×TP)) (x8:Int) (c1:Int→Option Bool) (Hc1:∀ (x8:Int) (s:Nat→V),zB [(2,bG 2 x1),(3,.ref (.bx 3) 0 [] (.agg [enc (x2.1:List LI),eP x2.2])),(4,jb false),(5,ji x8)] s→c1 x8=some r→Run D σ (R25 r) (.run Qi [.lp Qi,.bk 0,.sq zeV]) s) (x15:Bool) (s:Nat→V) (hs:zB [(2,bG 2 x1),(3,.ref (.bx 3) 0 [] (.agg [enc (x2.1:List LI),eP x2.2])),(4,jb false),(5,ji x8),(31,jb x15)] s) (h:Wa F x1 x2 x8 c1 x15=some r):Run D σ (R25 r) (.nrm [.sq zmp,.bk 1,.sq zmJ,.lp Qi,.bk 0,.sq zeV]) s:=by
 unfold Wa at h
 obtain ⟨h2,h3,h4,h5,h31⟩:=hs
 refine .nsq (zu h31 h (fun h=>?_) (fun h=>?_))
 · refine .seq (rg (g0 (jb false) fun h4=>gq (.nsq (.ret ?_))))
   obtain rfl:=oi h
   exact rrA (zA h4) rfl
 refine .skip (.nbk (.nsq (rg (gm h5 fun h16=>g1 16 (ji (w64 (x8 + 1))) h16 fun h17=>gm h17 fun h5=>gq (.nlp ?_)))))
 exact Hc1 (w64 (x8 + 1)) _ ⟨h2,h3,h4,h5⟩ h
def Z4 (F:Nat) (x1:GR) (x2:((List LI)×TP)) :Nat→Int→Option Bool
 | 0,_=>none
 | k + 1,x20=>
   bif decide (x20 < (x1.2.length:Int)) then
    (idx x1.2 x20).bind fun v24=>
    (idx x1.2 x20).bind fun v25=>
    (X1 F x2 [v24.1,v25.2]).bind fun r26=>
    bif ((r26.length:Int) == 0) then
     some false
    else
     (Z4 F x1 x2 k) (w64 (x20 + 1))
   else
    some true
theorem zjv (H:H25 D σ F) (x1:GR) (x2:((List LI)×TP)) :∀ (k:Nat) (x20:Int) (s:Nat→V),zB [(2,bG 2 x1),(3,.ref (.bx 3) 0 [] (.agg [enc (x2.1:List LI),eP x2.2])),(4,jb false),(7,ji x20)] s→Z4 F x1 x2 k x20=some r→Run D σ (R25 r) (.run ziY [.lp ziY,.bk 2,.sq zkk]) s:=by
 intro k
 induction k with
 | zero=>intro x20 s _ h;exact nm h
 | succ k ih=>
   intro x20 s hs h
   rw [Z4] at h
   obtain ⟨h2,h3,h4,h7⟩:=hs
   refine .seq (.seq (rg (gm h7 fun h32=>g1 2 (.ref (.bx 2) 0 [1] (eP x1.2)) h2 fun h33=>g1 33 (eP x1.2) h33 fun h34=>gl x1.2 h34 fun h35=>g2 32 35 (jb (decide (x20 < (x1.2.length:Int)))) h32 h35 fun h36=>gq (.nsq (zu h36 h (fun h=>?_) (fun h=>?_))))))
   · refine .skip (.nsq (.seq (.block (.seq (zC (yc ?_))))))
     refine ez [(2,_),(3,_),(4,_),(7,_),(52,_)] ⟨za h2 rfl (zi rfl mIE),za h3 rfl (zi rfl (zr (zc me (zc me zk)))),za h4 rfl mb,za h7 rfl mi,zg rfl⟩ ?_
     rintro s ⟨h2,h3,h4,h7,h52⟩
     refine g1 3 (.agg [enc (x2.1:List LI),eP x2.2]) h3 fun h39=>g1 2 (.ref (.bx 2) 0 [1] (eP x1.2)) h2 fun h40=>g1 40 (eP x1.2) h40 fun h41=>gm h7 fun h42=>?_
     obtain ⟨v24,Ev24,h⟩:=zd h
     refine gv (.ref .sh 0 [] (.agg [ji v24.1,ji v24.2])) (yG (t:=.sh) (lo:=0) (xs:=x1.2) h41 h42 Ev24 rfl rfl) fun h43=>g1 43 (.ref .sh 0 [0] (ji v24.1)) h43 fun h44=>g1 44 (ji v24.1) h44 fun h45=>g1 2 (.ref (.bx 2) 0 [1] (eP x1.2)) h2 fun h46=>g1 46 (eP x1.2) h46 fun h47=>gm h7 fun h48=>?_
     obtain ⟨v25,Ev25,h⟩:=zd h
     refine gv (.ref .sh 0 [] (.agg [ji v25.1,ji v25.2])) (yG (t:=.sh) (lo:=0) (xs:=x1.2) h47 h48 Ev25 rfl rfl) fun h49=>g1 49 (.ref .sh 0 [1] (ji v25.2)) h49 fun h50=>g1 50 (ji v25.2) h50 fun h51=>xv [(45,ji v24.1),(51,ji v25.2)] [enc (v24.1:Int),enc (v25.2:Int)] ⟨h45,h51⟩ rfl rfl h52 ?_
     obtain ⟨r26,Er26,h⟩:=zd h
     refine gcF [enc (x2:((List LI)×TP)),enc ([v24.1,v25.2]:LI)] (zl h39 rfl (erase_enc (x2:((List LI)×TP))) (zl (v:=oI 52 [] (.of [v24.1,v25.2])) rfl rfl (ug (o:=.of [v24.1,v25.2])) zJ)) (H.c56 _ _ _ Er26) H.g56 (gl r26 rfl fun h54=>g1 54 (jb ((r26.length:Int) == 0)) h54 fun h55=>gz [(2,_),(3,_),(4,_),(7,_),(55,_)] ⟨h2,h3,h4,h7,h55⟩ ?_)
     rintro s ⟨h2,h3,h4,h7,h55⟩
     refine .nsq (zu h55 h (fun h=>?_) (fun h=>?_))
     · refine .seq (rg (g0 (jb false) fun h4=>gq (.nsq (.ret ?_))))
       obtain rfl:=oi h
       exact rrA (zA h4) rfl
     refine .skip (.nbk (.nsq (rg (gm h7 fun h37=>g1 37 (ji (w64 (x20 + 1))) h37 fun h38=>gm h38 fun h7=>gq (.nlp ?_)))))
     exact ih (w64 (x20 + 1)) _ ⟨h2,h3,h4,h7⟩ h
   refine .exit (.esq (.elp (.ebk (.nsq (.seq (rg (g0 (jb true) fun h4=>gq (.nsq (.ret ?_)))))))))
   obtain rfl:=oi h
   exact rrA (zA h4) rfl
def vW (F:Nat) (x1:GR) (x2:((List LI)×TP)) :Nat→Int→Option Bool
 | 0,_=>none
 | k + 1,x8=>
   bif decide (x8 < x1.1) then
    (X1 F x2 [x8]).bind fun r13=>
    bif ((r13.length:Int) == 0) then
     Wa F x1 x2 x8 (vW F x1 x2 k) true
    else
     (Zv F x2.2 r13).bind fun r16=>
     Wa F x1 x2 x8 (vW F x1 x2 k) (!r16)
   else
    Z4 F x1 x2 F 0
theorem zjs (H:H25 D σ F) (x1:GR) (x2:((List LI)×TP)) :∀ (k:Nat) (x8:Int) (s:Nat→V),zB [(2,bG 2 x1),(3,.ref (.bx 3) 0 [] (.agg [enc (x2.1:List LI),eP x2.2])),(4,jb false),(5,ji x8)] s→vW F x1 x2 k x8=some r→Run D σ (R25 r) (.run Qi [.lp Qi,.bk 0,.sq zeV]) s:=by
 intro k
 induction k with
 | zero=>intro x8 s _ h;exact nm h
 | succ k ih=>
   intro x8 s hs h
   rw [vW] at h
   obtain ⟨h2,h3,h4,h5⟩:=hs
   refine .seq (.seq (rg (gm h5 fun h12=>g1 2 (.ref (.bx 2) 0 [0] (ji x1.1)) h2 fun h13=>g1 13 (ji x1.1) h13 fun h14=>g2 12 14 (jb (decide (x8 < x1.1))) h12 h14 fun h15=>gq (.nsq (zu h15 h (fun h=>?_) (fun h=>?_))))))
   · refine .skip (.nsq (.seq (.block (.seq (zC (yc ?_))))))
     refine ez [(2,_),(3,_),(4,_),(5,_),(20,_)] ⟨za h2 rfl (zi rfl mIE),za h3 rfl (zi rfl (zr (zc me (zc me zk)))),za h4 rfl mb,za h5 rfl mi,zg rfl⟩ ?_
     rintro s ⟨h2,h3,h4,h5,h20⟩
     refine g1 3 (.agg [enc (x2.1:List LI),eP x2.2]) h3 fun h18=>gm h5 fun h19=>xv [(19,ji x8)] [enc (x8:Int)] h19 rfl rfl h20 ?_
     obtain ⟨r13,Er13,h⟩:=zd h
     refine gcF [enc (x2:((List LI)×TP)),enc ([x8]:LI)] (zl h18 rfl (erase_enc (x2:((List LI)×TP))) (zl (v:=oI 20 [] (.of [x8])) rfl rfl (ug (o:=.of [x8])) zJ)) (H.c56 _ _ _ Er13) H.g56 (gm (rf (eL r13)) fun h6=>gq (.nsq (.seq (rg (gm h6 fun h22=>gl r13 h22 fun h23=>g1 23 (jb ((r13.length:Int) == 0)) h23 fun h24=>gm h24 fun h25=>yd h (fun hg4 h=>?_) (fun hg4 h=>?_))))))
     · iterate 5 refine yq (ct h25 hg4) ?_
       refine g2 25 30 (jb true) (ct h25 hg4) (rf (.tup [])) fun h31=>gq ?_
       exact zcB H x1 x2 x8 (vW F x1 x2 k) ih true _ ⟨h2,h3,h4,h5,h31⟩ h
     refine zt (ct h25 hg4) (g1 3 (.ref (.bx 3) 0 [1] (eP x2.2)) h3 fun h26=>zt (ct h25 hg4) (g1 26 (eP x2.2) h26 fun h27=>zt (ct h25 hg4) (gm h6 fun h28=>?_)))
     obtain ⟨r16,Er16,h⟩:=zd h
     refine zt (ct h25 hg4) (gcF [eP x2.2,eL r13] (zl h27 rfl (erase_enc (x2.2:TP)) (zl h28 rfl (erase_enc (r13:LI)) zJ)) (H.c57 _ _ _ Er16) H.g57 (zt (ct h25 hg4) (g1 29 (jb (!r16)) (rf (jb r16)) fun h30=>g2 25 30 (jb (!r16)) (ct h25 hg4) h30 fun h31=>gq ?_)))
     exact zcB H x1 x2 x8 (vW F x1 x2 k) ih (!r16) _ ⟨h2,h3,h4,h5,h31⟩ h
   refine .exit (.esq (.elp (.ebk (.nsq (.seq (.seq (rg (g0 (ji 0) fun h7=>gq (.nsq (.block (.loop ?_)))))))))))
   exact zjv H x1 x2 F 0 _ ⟨h2,h3,h4,h7⟩ h
def Wc (F:Nat) (x1:GR) (x2:((List LI)×TP)):Option Bool:=
 (XV F x1 x2).bind fun r3=>
 bif (!r3) then
  some false
 else
  vW F x1 x2 F 0
theorem t25 (H:H25 D σ F) (x1:GR) (x2:((List LI)×TP)) (s:Nat→V) (hs:zB [(0,gV x1),(1,.agg [enc (x2.1:List LI),eP x2.2])] s) (h:Wc F x1 x2=some r):Run D σ (R25 r) (.run A25 []) s:=by
 unfold Wc at h
 obtain ⟨h0,h1⟩:=hs
 refine .seq (zC (yc ?_))
 refine ez [(0,_),(1,_),(2,_),(3,_)] ⟨za h0 rfl mIE,za h1 rfl (zr (zc me (zc me zk))),zg rfl,zg rfl⟩ ?_
 rintro s ⟨h0,h1,h2,h3⟩
 refine xU (gV x1) (zx h0 rfl) h2 rfl (xU (.agg [enc (x2.1:List LI),eP x2.2]) (zx h1 rfl) h3 rfl (g0 (jb false) fun h4=>gq (.nsq (.seq (.seq (rg (g1 2 (gV x1) (rf (bG 2 x1)) fun h8=>g1 3 (.agg [enc (x2.1:List LI),eP x2.2]) (rf (.ref (.bx 3) 0 [] (.agg [enc (x2.1:List LI),eP x2.2]))) fun h9=>?_)))))))
 obtain ⟨r3,Er3,h⟩:=zd h
 refine gcF [enc (x1:GR),enc (x2:((List LI)×TP))] (zl h8 rfl (erase_enc (x1:GR)) (zl h9 rfl (erase_enc (x2:((List LI)×TP))) zJ)) (H.c55 _ _ _ Er3) H.g55 (g1 10 (jb (!r3)) (rf (jb r3)) fun h11=>gq (.nsq (zu h11 h (fun h=>?_) (fun h=>?_))))
 · refine .seq (rg (g0 (jb false) fun h4=>gq (.nsq (.ret ?_))))
   obtain rfl:=oi h
   exact rrA (zA h4) rfl
 refine .skip (.nsq (.seq (.seq (rg (g0 (ji 0) fun h5=>gq (.nsq (.block (.loop ?_))))))))
 exact zjs H x1 x2 F 0 _ ⟨rfl,rfl,h4,h5⟩ h
end
def e25 (F:Nat):Ent:=ent 25 (fun (x:(GR×((List LI)×TP)×Unit))=>Wc F x.1 x.2.1) (fun (r:Bool)=>(enc (r:Bool))) 0 false []
abbrev C25 (D:List V→Option V) (F:Nat):Prop:=∀ (x0:GR) (x1:((List LI)×TP)) r,Wc F x0 x1=some r→D [enc x0,enc x1]=some (enc (r:Bool))
theorem p25 {F:Nat}:C25 (e25 F).den F:=fun x0 x1 _ h=>zZ (x0,x1,()) h
theorem o25 (hF:zH Tp D σ) (H:H25 D σ F):(e25 F).Ok Tp:=okZ (f:=25) Try.func25 fun ⟨x0,x1,_⟩ y hy=>cR hF Try.func25 c25 (t25 H x0 x1 _ ⟨rfl,rfl⟩ hy)
def zxo:AC:=(.cond (.t 8) (.seq (rr [jv 4 (.mov kf),jv 5 (.mov kf)]) .ret) .skip)
def zxk:AC:=(.seq (rr [jv 9 (.load (.ag [.s,.p]) (.t 2)),jv 10 (.load (.ag [.p,.p]) (.t 3)),jx 11 (.call (jf 25) [.t 9,.t 10]),jm 4 11,jv 5 (.mov kt)]) .ret)
def zwu:AC:=(.seq (.seq (rr [jv 6 (.load (.ag [.s,.p]) (.t 2)),jx 7 (.call (jf 24) [.t 6]),jv 8 (.un .not (.t 7))]) zxo) zxk)
def A7:AC:=(.seq (.reg [.clr [2,3]] [jx 2 (.box (.t 0)),jx 3 (.box (.t 1)),jv 4 (.mov kf),jv 5 (.mov kf)] []) zwu)
def an7:List An:=[⟨0,[.clr [2,3]],[],[],[]⟩]
theorem c7:cq Tp Try.f7 an7=some A7:=by kernel_rfl
structure H7 (D:Den) (σ:Sig) (F:Nat):Prop where
 c24:C24 (D 24) F
 g24:σ 24=some (0,false)
 c25:C25 (D 25) F
 g25:σ 25=some (0,false)
abbrev R7 (r:(Bool×Bool)):(Nat→V)→Prop:=RR Tp [.tmp 4,.tmp 5] 0 false (.tup [enc (r.1:Bool),enc (r.2:Bool)])
section
variable {r:(Bool×Bool)}
def wA (F:Nat) (x1:GR) (x2:((List LI)×TP)):Option (Bool×Bool):=
 (Xw F x1).bind fun r3=>
 bif (!r3) then
  some (false,false)
 else
  (Wc F x1 x2).bind fun r4=>
  some (r4,true)
theorem t7 (H:H7 D σ F) (x1:GR) (x2:((List LI)×TP)) (s:Nat→V) (hs:zB [(0,gV x1),(1,.agg [enc (x2.1:List LI),eP x2.2])] s) (h:wA F x1 x2=some r):Run D σ (R7 r) (.run A7 []) s:=by
 unfold wA at h
 obtain ⟨h0,h1⟩:=hs
 refine .seq (zC (yc ?_))
 refine ez [(0,_),(1,_),(2,_),(3,_)] ⟨za h0 rfl mIE,za h1 rfl (zr (zc me (zc me zk))),zg rfl,zg rfl⟩ ?_
 rintro s ⟨h0,h1,h2,h3⟩
 refine xU (gV x1) (zx h0 rfl) h2 rfl (xU (.agg [enc (x2.1:List LI),eP x2.2]) (zx h1 rfl) h3 rfl (g0 (jb false) fun h4=>g0 (jb false) fun h5=>gq (.nsq (.seq (.seq (rg (g1 2 (gV x1) (rf (bG 2 x1)) fun h6=>?_)))))))
 obtain ⟨r3,Er3,h⟩:=zd h
 refine gcF [enc (x1:GR)] (zl h6 rfl (erase_enc (x1:GR)) zJ) (H.c24 _ _ Er3) H.g24 (g1 7 (jb (!r3)) (rf (jb r3)) fun h8=>gq (.nsq (zu h8 h (fun h=>?_) (fun h=>?_))))
 · refine .seq (rg (g0 (jb false) fun h4=>g0 (jb false) fun h5=>gq (.nsq (.ret ?_))))
   obtain rfl:=oi h
   exact rrB (zA h4) (zA h5) rfl
 refine .skip (.nsq (.seq (rg (g1 2 (gV x1) (rf (bG 2 x1)) fun h9=>g1 3 (.agg [enc (x2.1:List LI),eP x2.2]) (rf (.ref (.bx 3) 0 [] (.agg [enc (x2.1:List LI),eP x2.2]))) fun h10=>?_))))
 obtain ⟨r4,Er4,h⟩:=zd h
 refine gcF [enc (x1:GR),enc (x2:((List LI)×TP))] (zl h9 rfl (erase_enc (x1:GR)) (zl h10 rfl (erase_enc (x2:((List LI)×TP))) zJ)) (H.c25 _ _ _ Er4) H.g25 (gm (rf (jb r4)) fun h4=>g0 (jb true) fun h5=>gq (.nsq (.ret ?_)))
 obtain rfl:=oi h
 exact rrB (zA h4) (zA h5) rfl
end
def e7 (F:Nat):Ent:=ent 7 (fun (x:(GR×((List LI)×TP)×Unit))=>wA F x.1 x.2.1) (fun (r:(Bool×Bool))=>(.tup [enc (r.1:Bool),enc (r.2:Bool)])) 0 false []
abbrev C7 (D:List V→Option V) (F:Nat):Prop:=∀ (x0:GR) (x1:((List LI)×TP)) r,wA F x0 x1=some r→D [enc x0,enc x1]=some (.tup [enc (r.1:Bool),enc (r.2:Bool)])
theorem p7 {F:Nat}:C7 (e7 F).den F:=fun x0 x1 _ h=>zZ (x0,x1,()) h
theorem o7 (hF:zH Tp D σ) (H:H7 D σ F):(e7 F).Ok Tp:=okZ (f:=7) Try.func7 fun ⟨x0,x1,_⟩ y hy=>cR hF Try.func7 c7 (t7 H x0 x1 _ ⟨rfl,rfl⟩ hy)
def zxF:AC:=(rr [jm 25 6,jm 26 8,jk 27 26,jv 28 (.mx [.t 25,.t 27]),jm 6 28])
def zxb:AC:=(rr [jv 29 (.bin .add (.t 21) (jn 1)),jm 21 29])
def zxc:AC:=(.seq (.block 1 (.seq (rr [jv 23 (.idx (.t 19) (.t 21) 1),jv 24 (.load .p (.t 23)),jm 8 24]) zxF)) zxb)
def zv1:AC:=(.seq (.cond (.t 22) .skip (.exit 0)) zxc)
def znV:AC:=(.seq (rr [jv 22 (.bin .lss (.t 21) (.t 20))]) zv1)
def zpD:AC:=(.seq (rr [jm 30 6,jv 31 (.bin .sub (.t 30) (jn 1)),jm 4 31,jv 5 (.mov kt)]) .ret)
def zqC:AC:=(.cond (.t 17) (.seq (rr [jv 4 (.mov (jn 0)),jv 5 (.mov kf)]) .ret) .skip)
def zqI:AC:=(.block 0 (.loop znV))
def zxJ:AC:=(.seq (.seq (rr [jv 18 (.fld (.t 3) 0 0),jv 19 (.load .p (.t 18)),jk 20 19,jv 21 (.mov (jn 0))]) zqI) zpD)
def zsn:AC:=(.seq (rr [jv 6 (.mov (jn 0))]) zxJ)
def ztf:AC:=(.seq (.seq (rr [jv 9 (.load (.ag [.s,.p]) (.t 2)),jx 10 (.call (jf 22) [.t 9]),jv 11 (.un .not (.t 10)),jm 12 11,jg 13 12 false (.load (.ag [.s,.p]) (.t 2)),jg 14 12 false (.load (.ag [.p,.p]) (.t 3)),.mk (some 15) (some (12,false)) false (.call (jf 23) [.t 13,.t 14]),jg 16 12 false (.un .not (.t 15)),jv 17 (.pick (.t 12) kt (.t 16))]) zqC) zsn)
def A8:AC:=(.seq (.reg [.clr [2,3]] [jx 2 (.box (.t 0)),jx 3 (.box (.t 1)),jv 4 (.mov (jn 0)),jv 5 (.mov kf)] []) ztf)
def an8:List An:=[⟨0,[.clr [2,3]],[],[],[]⟩]
theorem c8:cq Tp Try.f8 an8=some A8:=by kernel_rfl
structure H8 (D:Den) (σ:Sig) (F:Nat):Prop where
 c22:C22 (D 22) F
 g22:σ 22=some (0,false)
 c23:C23 (D 23) F
 g23:σ 23=some (0,false)
abbrev R8 (r:(Int×Bool)):(Nat→V)→Prop:=RR Tp [.tmp 4,.tmp 5] 0 false (.tup [enc (r.1:Int),enc (r.2:Bool)])
section
variable {r:(Int×Bool)}
def xM (F:Nat) (x2:((List LI)×TP)) :Nat→Int→Int→Option (Int×Bool)
 | 0,_,_=>none
 | k + 1,x7,x8=>
   bif decide (x8 < (x2.1.length:Int)) then
    (idx x2.1 x8).bind fun v10=>
    (xM F x2 k) (if (v10.length:Int) > x7 then (v10.length:Int) else x7) (w64 (x8 + 1))
   else
    some (w64 (x7 - 1),true)
theorem zkF (H:H8 D σ F) (x2:((List LI)×TP)) :∀ (k:Nat) (x7:Int) (x8:Int) (s:Nat→V),zB [(4,ji 0),(5,jb false),(6,ji x7),(19,enc (x2.1:List LI)),(20,ji (x2.1.length:Int)),(21,ji x8)] s→xM F x2 k x7 x8=some r→Run D σ (R8 r) (.run znV [.lp znV,.bk 0,.sq zpD]) s:=by
 intro k
 induction k with
 | zero=>intro x7 x8 s _ h;exact nm h
 | succ k ih=>
   intro x7 x8 s hs h
   rw [xM] at h
   obtain ⟨h4,h5,h6,h19,h20,h21⟩:=hs
   refine .seq (rg (g2 21 20 (jb (decide (x8 < (x2.1.length:Int)))) h21 h20 fun h22=>gq (.nsq (.seq (zu h22 h (fun h=>?_) (fun h=>?_))))))
   · refine .skip (.nsq (.seq (.block (.seq (rg ?_)))))
     obtain ⟨v10,Ev10,h⟩:=zd h
     refine gv (.ref .sh 0 [] (eL v10)) (yG (t:=.sh) (lo:=0) (xs:=x2.1) h19 h21 Ev10 rfl rfl) fun h23=>g1 23 (eL v10) h23 fun h24=>gm h24 fun h8=>gq (.nsq (rg (gm h6 fun h25=>gm h8 fun h26=>gl v10 h26 fun h27=>g2 25 27 (ji (if (v10.length:Int) > x7 then (v10.length:Int) else x7)) h25 h27 fun h28=>gm h28 fun h6=>gq (.nbk (.nsq (rg (g1 21 (ji (w64 (x8 + 1))) h21 fun h29=>gm h29 fun h21=>gq (.nlp ?_))))))))
     exact ih (if (v10.length:Int) > x7 then (v10.length:Int) else x7) (w64 (x8 + 1)) _ ⟨h4,h5,h6,h19,h20,h21⟩ h
   refine .exit (.esq (.elp (.ebk (.nsq (.seq (rg (gm h6 fun h30=>g1 30 (ji (w64 (x7 - 1))) h30 fun h31=>gm h31 fun h4=>g0 (jb true) fun h5=>gq (.nsq (.ret ?_)))))))))
   obtain rfl:=oi h
   exact rrB (zA h4) (zA h5) rfl
def wU (F:Nat) (x2:((List LI)×TP))  (x5:Bool):Option (Int×Bool):=
 bif x5 then
  some (0,false)
 else
  xM F x2 F 0 0
theorem zeH (H:H8 D σ F) (x2:((List LI)×TP))  (x5:Bool) (s:Nat→V) (hs:zB [(3,.ref (.bx 3) 0 [] (.agg [enc (x2.1:List LI),eP x2.2])),(4,ji 0),(5,jb false),(17,jb x5)] s) (h:wU F x2  x5=some r):Run D σ (R8 r) (.nrm [.sq zqC,.sq zsn]) s:=by
 unfold wU at h
 obtain ⟨h3,h4,h5,h17⟩:=hs
 refine .nsq (zu h17 h (fun h=>?_) (fun h=>?_))
 · refine .seq (rg (g0 (ji 0) fun h4=>g0 (jb false) fun h5=>gq (.nsq (.ret ?_))))
   obtain rfl:=oi h
   exact rrB (zA h4) (zA h5) rfl
 refine .skip (.nsq (.seq (rg (g0 (ji 0) fun h6=>gq (.nsq (.seq (.seq (rg (g1 3 (.ref (.bx 3) 0 [0] (enc (x2.1:List LI))) h3 fun h18=>g1 18 (enc (x2.1:List LI)) h18 fun h19=>gl x2.1 h19 fun h20=>g0 (ji 0) fun h21=>gq (.nsq (.block (.loop ?_))))))))))))
 exact zkF H x2 F 0 0 _ ⟨h4,h5,h6,h19,h20,h21⟩ h
def xt (F:Nat) (x1:GR) (x2:((List LI)×TP)):Option (Int×Bool):=
 (vl F x1).bind fun r11=>
 bif (!r11) then
  wU F x2 true
 else
  (wE F x1 x2).bind fun r12=>
  wU F x2 (!r12)
theorem t8 (H:H8 D σ F) (x1:GR) (x2:((List LI)×TP)) (s:Nat→V) (hs:zB [(0,gV x1),(1,.agg [enc (x2.1:List LI),eP x2.2])] s) (h:xt F x1 x2=some r):Run D σ (R8 r) (.run A8 []) s:=by
 unfold xt at h
 obtain ⟨h0,h1⟩:=hs
 refine .seq (zC (yc ?_))
 refine ez [(0,_),(1,_),(2,_),(3,_)] ⟨za h0 rfl mIE,za h1 rfl (zr (zc me (zc me zk))),zg rfl,zg rfl⟩ ?_
 rintro s ⟨h0,h1,h2,h3⟩
 refine xU (gV x1) (zx h0 rfl) h2 rfl (xU (.agg [enc (x2.1:List LI),eP x2.2]) (zx h1 rfl) h3 rfl (g0 (ji 0) fun h4=>g0 (jb false) fun h5=>gq (.nsq (.seq (.seq (rg (g1 2 (gV x1) (rf (bG 2 x1)) fun h9=>?_)))))))
 obtain ⟨r11,Er11,h⟩:=zd h
 refine gcF [enc (x1:GR)] (zl h9 rfl (erase_enc (x1:GR)) zJ) (H.c22 _ _ Er11) H.g22 (g1 10 (jb (!r11)) (rf (jb r11)) fun h11=>gm h11 fun h12=>yd h (fun hg4 h=>?_) (fun hg4 h=>?_))
 · iterate 4 refine yq (ct h12 hg4) ?_
   refine g2 12 16 (jb true) (ct h12 hg4) (rf (.tup [])) fun h17=>gq ?_
   exact zeH H x2 true _ ⟨rfl,h4,h5,h17⟩ h
 refine zt (ct h12 hg4) (g1 2 (gV x1) (rf (bG 2 x1)) fun h13=>zt (ct h12 hg4) (g1 3 (.agg [enc (x2.1:List LI),eP x2.2]) (rf (.ref (.bx 3) 0 [] (.agg [enc (x2.1:List LI),eP x2.2]))) fun h14=>?_))
 obtain ⟨r12,Er12,h⟩:=zd h
 refine zt (ct h12 hg4) (gcF [enc (x1:GR),enc (x2:((List LI)×TP))] (zl h13 rfl (erase_enc (x1:GR)) (zl h14 rfl (erase_enc (x2:((List LI)×TP))) zJ)) (H.c23 _ _ _ Er12) H.g23 (zt (ct h12 hg4) (g1 15 (jb (!r12)) (rf (jb r12)) fun h16=>g2 12 16 (jb (!r12)) (ct h12 hg4) h16 fun h17=>gq ?_)))
 exact zeH H x2 (!r12) _ ⟨rfl,h4,h5,h17⟩ h
end
def e8 (F:Nat):Ent:=ent 8 (fun (x:(GR×((List LI)×TP)×Unit))=>xt F x.1 x.2.1) (fun (r:(Int×Bool))=>(.tup [enc (r.1:Int),enc (r.2:Bool)])) 0 false []
abbrev C8 (D:List V→Option V) (F:Nat):Prop:=∀ (x0:GR) (x1:((List LI)×TP)) r,xt F x0 x1=some r→D [enc x0,enc x1]=some (.tup [enc (r.1:Int),enc (r.2:Bool)])
theorem p8 {F:Nat}:C8 (e8 F).den F:=fun x0 x1 _ h=>zZ (x0,x1,()) h
theorem o8 (hF:zH Tp D σ) (H:H8 D σ F):(e8 F).Ok Tp:=okZ (f:=8) Try.func8 fun ⟨x0,x1,_⟩ y hy=>cR hF Try.func8 c8 (t8 H x0 x1 _ ⟨rfl,rfl⟩ hy)
def zxp:AC:=(.cond (.t 21) .skip (.exit 0))
def zv7:AC:=(rr [jm 22 7,jv 23 (.bin .add (.t 22) (jn 1)),jm 7 23])
def zwy:AC:=(.seq (.block 1 (rr [jm 24 6,jv 25 (.fld (.t 3) 0 0),jv 26 (.load .p (.t 25)),jm 27 7,jv 28 (.idx (.t 26) (.t 27) 1),jv 29 (.load .p (.t 28)),jk 30 29,jx 31 (.call (jf 26) [.t 24,.t 30]),jm 6 31])) zv7)
def zn7:AC:=(.seq (.seq (rr [jm 17 7,jv 18 (.fld (.t 3) 0 0),jv 19 (.load .p (.t 18)),jk 20 19,jv 21 (.bin .lss (.t 17) (.t 20))]) zxp) zwy)
def zqj:AC:=(.seq (rr [jm 32 6,jv 33 (.bin .sub (.t 32) (jn 1)),jm 4 33,jv 5 (.mov kt)]) .ret)
def zqZ:AC:=(.cond (.t 16) (.seq (rr [jv 4 (.mov (jn 0)),jv 5 (.mov kf)]) .ret) .skip)
def zvO:AC:=(.block 0 (.loop zn7))
def zwE:AC:=(.seq (.seq (rr [jv 7 (.mov (jn 0))]) zvO) zqj)
def zti:AC:=(.seq (rr [jv 6 (.mov (jn 0))]) zwE)
def ztY:AC:=(.seq (.seq (rr [jv 8 (.load (.ag [.s,.p]) (.t 2)),jx 9 (.call (jf 24) [.t 8]),jv 10 (.un .not (.t 9)),jm 11 10,jg 12 11 false (.load (.ag [.s,.p]) (.t 2)),jg 13 11 false (.load (.ag [.p,.p]) (.t 3)),.mk (some 14) (some (11,false)) false (.call (jf 25) [.t 12,.t 13]),jg 15 11 false (.un .not (.t 14)),jv 16 (.pick (.t 11) kt (.t 15))]) zqZ) zti)
def A9:AC:=(.seq (.reg [.clr [2,3]] [jx 2 (.box (.t 0)),jx 3 (.box (.t 1)),jv 4 (.mov (jn 0)),jv 5 (.mov kf)] []) ztY)
def an9:List An:=[⟨0,[.clr [2,3]],[],[],[]⟩]
theorem c9:cq Tp Try.f9 an9=some A9:=by kernel_rfl
structure H9 (D:Den) (σ:Sig) (F:Nat):Prop where
 c24:C24 (D 24) F
 g24:σ 24=some (0,false)
 c25:C25 (D 25) F
 g25:σ 25=some (0,false)
 c26:C26 (D 26) F
 g26:σ 26=some (0,false)
abbrev R9 (r:(Int×Bool)):(Nat→V)→Prop:=RR Tp [.tmp 4,.tmp 5] 0 false (.tup [enc (r.1:Int),enc (r.2:Bool)])
section
variable {r:(Int×Bool)}
def xJ (F:Nat) (x2:((List LI)×TP)) :Nat→Int→Int→Option (Int×Bool)
 | 0,_,_=>none
 | k + 1,x8,x9=>
   bif decide (x9 < (x2.1.length:Int)) then
    (idx x2.1 x9).bind fun v12=>
    (YG F x8 (v12.length:Int)).bind fun r13=>
    (xJ F x2 k) r13 (w64 (x9 + 1))
   else
    some (w64 (x8 - 1),true)
theorem zkM (H:H9 D σ F) (x2:((List LI)×TP)) :∀ (k:Nat) (x8:Int) (x9:Int) (s:Nat→V),zB [(3,.ref (.bx 3) 0 [] (.agg [enc (x2.1:List LI),eP x2.2])),(4,ji 0),(5,jb false),(6,ji x8),(7,ji x9)] s→xJ F x2 k x8 x9=some r→Run D σ (R9 r) (.run zn7 [.lp zn7,.bk 0,.sq zqj]) s:=by
 intro k
 induction k with
 | zero=>intro x8 x9 s _ h;exact nm h
 | succ k ih=>
   intro x8 x9 s hs h
   rw [xJ] at h
   obtain ⟨h3,h4,h5,h6,h7⟩:=hs
   refine .seq (.seq (rg (gm h7 fun h17=>g1 3 (.ref (.bx 3) 0 [0] (enc (x2.1:List LI))) h3 fun h18=>g1 18 (enc (x2.1:List LI)) h18 fun h19=>gl x2.1 h19 fun h20=>g2 17 20 (jb (decide (x9 < (x2.1.length:Int)))) h17 h20 fun h21=>gq (.nsq (zu h21 h (fun h=>?_) (fun h=>?_))))))
   · refine .skip (.nsq (.seq (.block (rg (gm h6 fun h24=>g1 3 (.ref (.bx 3) 0 [0] (enc (x2.1:List LI))) h3 fun h25=>g1 25 (enc (x2.1:List LI)) h25 fun h26=>gm h7 fun h27=>?_)))))
     obtain ⟨v12,Ev12,h⟩:=zd h
     refine gv (.ref .sh 0 [] (eL v12)) (yG (t:=.sh) (lo:=0) (xs:=x2.1) h26 h27 Ev12 rfl rfl) fun h28=>g1 28 (eL v12) h28 fun h29=>gl v12 h29 fun h30=>?_
     obtain ⟨r13,Er13,h⟩:=zd h
     refine gcF [enc (x8:Int),enc ((v12.length:Int):Int)] (zl h24 rfl rfl (zl h30 rfl rfl zJ)) (H.c26 _ _ _ Er13) H.g26 (gm (rf (ji r13)) fun h6=>gq (.nbk (.nsq (rg (gm h7 fun h22=>g1 22 (ji (w64 (x9 + 1))) h22 fun h23=>gm h23 fun h7=>gq (.nlp ?_))))))
     exact ih r13 (w64 (x9 + 1)) _ ⟨h3,h4,h5,h6,h7⟩ h
   refine .exit (.esq (.elp (.ebk (.nsq (.seq (rg (gm h6 fun h32=>g1 32 (ji (w64 (x8 - 1))) h32 fun h33=>gm h33 fun h4=>g0 (jb true) fun h5=>gq (.nsq (.ret ?_)))))))))
   obtain rfl:=oi h
   exact rrB (zA h4) (zA h5) rfl
def wQ (F:Nat) (x2:((List LI)×TP))  (x5:Bool):Option (Int×Bool):=
 bif x5 then
  some (0,false)
 else
  xJ F x2 F 0 0
theorem zfm (H:H9 D σ F) (x2:((List LI)×TP))  (x5:Bool) (s:Nat→V) (hs:zB [(3,.ref (.bx 3) 0 [] (.agg [enc (x2.1:List LI),eP x2.2])),(4,ji 0),(5,jb false),(16,jb x5)] s) (h:wQ F x2  x5=some r):Run D σ (R9 r) (.nrm [.sq zqZ,.sq zti]) s:=by
 unfold wQ at h
 obtain ⟨h3,h4,h5,h16⟩:=hs
 refine .nsq (zu h16 h (fun h=>?_) (fun h=>?_))
 · refine .seq (rg (g0 (ji 0) fun h4=>g0 (jb false) fun h5=>gq (.nsq (.ret ?_))))
   obtain rfl:=oi h
   exact rrB (zA h4) (zA h5) rfl
 refine .skip (.nsq (.seq (rg (g0 (ji 0) fun h6=>gq (.nsq (.seq (.seq (rg (g0 (ji 0) fun h7=>gq (.nsq (.block (.loop ?_))))))))))))
 exact zkM H x2 F 0 0 _ ⟨h3,h4,h5,h6,h7⟩ h
def xV (F:Nat) (x1:GR) (x2:((List LI)×TP)):Option (Int×Bool):=
 (Xw F x1).bind fun r14=>
 bif (!r14) then
  wQ F x2 true
 else
  (Wc F x1 x2).bind fun r15=>
  wQ F x2 (!r15)
theorem t9 (H:H9 D σ F) (x1:GR) (x2:((List LI)×TP)) (s:Nat→V) (hs:zB [(0,gV x1),(1,.agg [enc (x2.1:List LI),eP x2.2])] s) (h:xV F x1 x2=some r):Run D σ (R9 r) (.run A9 []) s:=by
 unfold xV at h
 obtain ⟨h0,h1⟩:=hs
 refine .seq (zC (yc ?_))
 refine ez [(0,_),(1,_),(2,_),(3,_)] ⟨za h0 rfl mIE,za h1 rfl (zr (zc me (zc me zk))),zg rfl,zg rfl⟩ ?_
 rintro s ⟨h0,h1,h2,h3⟩
 refine xU (gV x1) (zx h0 rfl) h2 rfl (xU (.agg [enc (x2.1:List LI),eP x2.2]) (zx h1 rfl) h3 rfl (g0 (ji 0) fun h4=>g0 (jb false) fun h5=>gq (.nsq (.seq (.seq (rg (g1 2 (gV x1) (rf (bG 2 x1)) fun h8=>?_)))))))
 obtain ⟨r14,Er14,h⟩:=zd h
 refine gcF [enc (x1:GR)] (zl h8 rfl (erase_enc (x1:GR)) zJ) (H.c24 _ _ Er14) H.g24 (g1 9 (jb (!r14)) (rf (jb r14)) fun h10=>gm h10 fun h11=>yd h (fun hg4 h=>?_) (fun hg4 h=>?_))
 · iterate 4 refine yq (ct h11 hg4) ?_
   refine g2 11 15 (jb true) (ct h11 hg4) (rf (.tup [])) fun h16=>gq ?_
   exact zfm H x2 true _ ⟨rfl,h4,h5,h16⟩ h
 refine zt (ct h11 hg4) (g1 2 (gV x1) (rf (bG 2 x1)) fun h12=>zt (ct h11 hg4) (g1 3 (.agg [enc (x2.1:List LI),eP x2.2]) (rf (.ref (.bx 3) 0 [] (.agg [enc (x2.1:List LI),eP x2.2]))) fun h13=>?_))
 obtain ⟨r15,Er15,h⟩:=zd h
 refine zt (ct h11 hg4) (gcF [enc (x1:GR),enc (x2:((List LI)×TP))] (zl h12 rfl (erase_enc (x1:GR)) (zl h13 rfl (erase_enc (x2:((List LI)×TP))) zJ)) (H.c25 _ _ _ Er15) H.g25 (zt (ct h11 hg4) (g1 14 (jb (!r15)) (rf (jb r15)) fun h15=>g2 11 15 (jb (!r15)) (ct h11 hg4) h15 fun h16=>gq ?_)))
 exact zfm H x2 (!r15) _ ⟨rfl,h4,h5,h16⟩ h
end
def e9 (F:Nat):Ent:=ent 9 (fun (x:(GR×((List LI)×TP)×Unit))=>xV F x.1 x.2.1) (fun (r:(Int×Bool))=>(.tup [enc (r.1:Int),enc (r.2:Bool)])) 0 false []
abbrev C9 (D:List V→Option V) (F:Nat):Prop:=∀ (x0:GR) (x1:((List LI)×TP)) r,xV F x0 x1=some r→D [enc x0,enc x1]=some (.tup [enc (r.1:Int),enc (r.2:Bool)])
theorem p9 {F:Nat}:C9 (e9 F).den F:=fun x0 x1 _ h=>zZ (x0,x1,()) h
theorem o9 (hF:zH Tp D σ) (H:H9 D σ F):(e9 F).Ok Tp:=okZ (f:=9) Try.func9 fun ⟨x0,x1,_⟩ y hy=>cR hF Try.func9 c9 (t9 H x0 x1 _ ⟨rfl,rfl⟩ hy)
def zmr:AC:=(.seq (.reg [.clr [11,15,18,19]] [jx 11 (.lit (.int .u8 (.ofNat 0)) 0 []),jm 12 0,jm 13 1,jv 14 (.slice (.t 12) (some (.t 13)) none 1),jx 15 (.app .s (.t 11) (.t 14)),jm 16 1,jv 17 (.conv .u8 (.t 16)),jx 18 (.lit (.int .u8 (.ofNat 0)) 1 [(0,0,.t 17)]),jx 19 (.app .s (.t 15) (.t 18)),jm 4 19] [.home 19 4]) .ret)
def zvx:AC:=(.cond (.t 8) (rr [jm 9 0,jk 10 9,jm 1 10]) .skip)
def ztU:AC:=(.seq (.seq (rr [jm 5 1,jm 6 0,jk 7 6,jv 8 (.bin .gtr (.t 5) (.t 7))]) zvx) zmr)
def A11:AC:=(.seq (rr [jv 4 (.mov (.k (.sl .nl .s 0 [])))]) ztU)
def zwA:List An:=[⟨3,[.clr [11,15,18,19]],[],[],[.home 19 4]⟩]
theorem c11:cq Tp Try.f11 zwA=some A11:=by kernel_rfl
structure H11 (D:Den) (σ:Sig) (F:Nat):Prop where
 mk ::
abbrev R11 (r:LB):(Nat→V)→Prop:=RR Tp [.tmp 4] 0 false (eB r)
section
variable {r:LB}
def WL (F:Nat) (x1:LB)  (x3:Int):Option LB:=
 (sub x1 x3 (x1.length:Int)).bind fun sub4=>
 (vh [] sub4).bind fun ap5=>
 (vh ap5 [(Kd.mk (IntKind.u8.wrap x3):Kd .u8)]).bind fun ap6=>
 some ap6
theorem zc9 (H:H11 D σ F) (x1:LB)  (x3:Int) (s:Nat→V) (hs:zB [(0,eB x1),(1,ji x3),(4,.sl .nl (shp (Kd .u8)) 0 [])] s) (h:WL F x1  x3=some r):Run D σ (R11 r) (.nrm [.sq zmr]) s:=by
 unfold WL at h
 obtain ⟨h0,h1,h4⟩:=hs
 refine .nsq (.seq (zC (yc ?_)))
 refine ez [(0,_),(1,_),(4,_),(11,_),(15,_),(18,_),(19,_)] ⟨za h0 rfl me,za h1 rfl mi,za h4 rfl rfl,zg rfl,zg rfl,zg rfl,zg rfl⟩ ?_
 rintro s ⟨h0,h1,h4,h11,h15,h18,h19⟩
 refine xv [] [] trivial rfl rfl h11 (gm h0 fun h12=>gm h1 fun h13=>?_)
 obtain ⟨sub4,Esub4,h⟩:=zd h
 refine gv (eB sub4) (X2 (xs:=x1) h12 (Ze h13) (u9) Esub4 rfl) fun h14=>?_
 obtain ⟨ap5,Eap5,h⟩:=zd h
 refine ZG (q:=11) (p:=[]) (o:=.of ([]:LB)) (ys:=(sub4:LB)) (t2:=.sh) (lo2:=0) rfl h14 rfl h15 (vK (o:=.of ([]:LB)) Eap5 trivial) (fun s2 ha2=>gm (show s2 1=(ji x3) from zF ha2 h1 mi) fun h16=>g1 16 (.int .u8 (IntKind.u8.wrap x3)) h16 fun h17=>xv [(17,.int .u8 (IntKind.u8.wrap x3))] [enc ((Kd.mk (IntKind.u8.wrap x3):Kd .u8):(Kd .u8))] h17 rfl rfl (show s2 18 = .gone from zF ha2 h18 rfl) ?_)
 obtain ⟨ap6,Eap6,h⟩:=zd h
 refine ZG (q:=15) (p:=[]) (o:=.of (ap5:LB)) (ys:=([(Kd.mk (IntKind.u8.wrap x3):Kd .u8)]:LB)) (t2:=.at 18 []) (lo2:=0) rfl rfl rfl (show s2 19 = .gone from zF ha2 h19 rfl) (vK (o:=.of (ap5:LB)) Eap6 trivial) (fun s3 ha3=>gm (rf (zh (.at 19 []) (.of (ap6:LB)))) fun h4=>xf (yR (r:=19) (x:=4) (v:=_) h4 rfl (fun s4 hz4=>?_)))
 refine ez [(4,zh (.at 4 []) (.of (ap6:LB)))] (hz4 4 _ _ h4 (zm (r:=19) (p:=[]) rfl rfl)) ?_
 rintro s h4
 refine .nsq (.ret ?_)
 obtain rfl:=oi h
 exact rrA (zA h4) (Yx (xk (o:=.of ap6)) (vR rfl))
def J0 (F:Nat) (x1:LB) (x2:Int):Option LB:=
 bif decide (x2 > (x1.length:Int)) then
  WL F x1 (x1.length:Int)
 else
  WL F x1 x2
theorem t11 (H:H11 D σ F) (x1:LB) (x2:Int) (s:Nat→V) (hs:zB [(0,eB x1),(1,ji x2)] s) (h:J0 F x1 x2=some r):Run D σ (R11 r) (.run A11 []) s:=by
 unfold J0 at h
 obtain ⟨h0,h1⟩:=hs
 refine .seq (rg (g0 (.sl .nl (shp (Kd .u8)) 0 []) fun h4=>gq (.nsq (.seq (.seq (rg (gm h1 fun h5=>gm h0 fun h6=>gl x1 h6 fun h7=>g2 5 7 (jb (decide (x2 > (x1.length:Int)))) h5 h7 fun h8=>gq (.nsq (zu h8 h (fun h=>?_) (fun h=>?_))))))))))
 · refine rg (gm h0 fun h9=>gl x1 h9 fun h10=>gm h10 fun h1=>gq ?_)
   exact zc9 H x1 (x1.length:Int) _ ⟨h0,h1,h4⟩ h
 refine .skip ?_
 exact zc9 H x1 x2 _ ⟨h0,h1,h4⟩ h
end
def e11 (F:Nat):Ent:=ent 11 (fun (x:(LB×Int×Unit))=>J0 F x.1 x.2.1) (fun (r:LB)=>(eB r)) 0 false []
abbrev C11 (D:List V→Option V) (F:Nat):Prop:=∀ (x0:LB) (x1:Int) r,J0 F x0 x1=some r→D [enc x0,enc x1]=some (eB r)
theorem p11 {F:Nat}:C11 (e11 F).den F:=fun x0 x1 _ h=>zZ (x0,x1,()) h
theorem o11 (hF:zH Tp D σ) (H:H11 D σ F):(e11 F).Ok Tp:=okZ (f:=11) Try.func11 fun ⟨x0,x1,_⟩ y hy=>cR hF Try.func11 c11 (t11 H x0 x1 _ ⟨rfl,rfl⟩ hy)
def zrB:AC:=(.seq (rr [jx 11 (.vN (.load (.ag [.s,.p]) (.t 5)) [4]),jm 12 4,jx 13 (.vN (.load (.ag [.s,.p]) (.t 5)) [4]),jx 14 (.callT (jf 19) [.t 12,.t 13] [4] []),jz (.store (.ag [.s,.p]) (.t 2) (.t 11)),jm 3 14]) .ret)
def zq8:AC:=(.seq (.reg [.clr [5]] [jm 9 4,jx 10 (.callT (jf 18) [.t 9] [4] []),jx 5 (.alloc (.agg [i0,.sl .nl (.ag [.s,.s]) 0 []])),jz (.store (.ag [.s,.p]) (.t 5) (.t 10))] []) zrB)
def zqT:AC:=(.seq (.reg [.clr [8]] [jm 6 0,jv 7 (.bld (.agg [.sl .nl .s 0 [],i0,.int .u64 (.ofNat 0)]) [(0,0,.t 6)]),jx 8 (.box (.t 7)),jm 4 8] []) zq8)
def A27:AC:=(.seq (.reg [.clr [2]] [jx 2 (.alloc (.agg [i0,.sl .nl (.ag [.s,.s]) 0 []])),jv 3 (.mov (.k (.sl .nl .s 0 [])))] []) zqT)
def zwZ:List An:=[⟨0,[.clr [2]],[],[],[]⟩,⟨1,[.clr [8]],[],[],[]⟩,⟨2,[.clr [5]],[],[2000004],[]⟩,⟨3,[],[],[4000004,1000004,3000004],[]⟩]
theorem c27:cq Tp Try.f27 zwZ=some A27:=by kernel_rfl
structure H27 (D:Den) (σ:Sig) (F:Nat):Prop where
 c18:C18 (D 18) F
 g18:σ 18=some (Zc,false)
 c19:C19 (D 19) F
 g19:σ 19=some (Zc,false)
abbrev R27 (r:(GR×LI)):(Nat→V)→Prop:=RR Tp [.cell 2 26,.tmp 3] 0 true (.tup [enc (r.1:GR),eL r.2])
section
variable {r:(GR×LI)}
def vM (F:Nat) (x1:LB):Option (GR×LI):=
 (vt F (cu x1 0 0)).bind fun r2=>
 (vB F (Cu.mk r2.2) r2.1).bind fun r3=>
 some (r2.1,r3.1)
theorem t27 (H:H27 D σ F) (x1:LB) (s:Nat→V) (hs:zB [(0,eB x1)] s) (h:vM F x1=some r):Run D σ (R27 r) (.run A27 []) s:=by
 unfold vM at h
 have h0:=hs
 refine .seq (zC (yc ?_))
 refine ez [(0,_),(2,_)] ⟨za h0 rfl me,zg rfl⟩ ?_
 rintro s ⟨h0,h2⟩
 refine y6 h2 (g0 nI fun h3=>gq (.nsq (.seq (zC (yc ?_)))))
 refine ez [(0,_),(2,_),(3,_),(8,_)] ⟨za h0 rfl me,za rfl rfl (zi rfl (mIx rfl)),za h3 rfl rfl,zg rfl⟩ ?_
 rintro s ⟨h0,h2,h3,h8⟩
 refine gm h0 fun h6=>g1 6 (.agg [eB x1,ji 0,.int .u64 0]) h6 fun h7=>xU (.agg [eB x1,ji 0,.int .u64 0]) (zx h7 rfl) h8 rfl (gm (rf (.ref (.bx 8) 0 [] (.agg [eB x1,ji 0,.int .u64 0]))) fun h4=>gq (.nsq (.seq (zC (yc ?_)))))
 refine ez [(2,_),(3,_),(4,_),(5,_)] ⟨za h2 rfl (zi rfl (mIx rfl)),za h3 rfl rfl,za h4 rfl (zi rfl ue),zg rfl⟩ ?_
 rintro s ⟨h2,h3,h4,h5⟩
 refine gm h4 fun h9=>?_
 obtain ⟨r2,Er2,h⟩:=zd h
 refine vJ (r:=8) (b:=4) (x:=((S3.mk x1 0 (Kd.mk 0:Kd .u64)):CU)) (x':=r2.2) (vs:=[]) (res:=enc (r2.1:GR)) h4 (by exact (zL (v:=cuV 8 ((S3.mk x1 0 (Kd.mk 0:Kd .u64)):CU)) h9 rfl yQ)) yz (fun f=>zk) (H.c18 _ _ Er2) H.g18 te rfl (fun s4 hb4 ha4=>y6 (show s4 5 = .gone from ha4 5 _ _ h5 rfl rfl) (zQ (gV r2.1) (zx rfl rfl) (zx rfl rfl) (xr (by first | rfl | simp [V.toks,V.tokss,toks_enc,zN])) ?_))
 refine gz [(2,bZ 2),(3,nI),(4,.ref (.bx 8) 0 [] (cV r2.2)),(5,bG 5 r2.1)] ⟨zb (show s4 2=(bZ 2) from ha4 2 _ _ h2 rfl (zi rfl (mIx rfl))) (zj rfl rfl (zK (zf rfl (zf rfl rfl)))),zb (show s4 3=nI from ha4 3 _ _ h3 rfl rfl) rfl,zb (show s4 4=(.ref (.bx 8) 0 [] (cV r2.2)) from hb4 4 h4) (zj rfl rfl Uw),zb rfl rfl⟩ ?_
 rintro s ⟨h2,h3,h4,h5⟩
 refine .nsq (.seq (rg (Ue (r:=8) (b:=4) (x:=r2.2) (gV r2.1) h4 (u7 [(5,bG 5 r2.1)] h5 rfl rfl) [(5,bG 5 r2.1)] h5 rfl (by simp [V.live,V.lives,y7,V.toks,V.tokss,zM,toks_enc,zP,xY]) (by simp [V.toks,V.tokss,zM,toks_enc,zP,xY]) (gm h4 fun h12=>Ue (r:=8) (b:=4) (x:=r2.2) (gV r2.1) h4 (u7 [(5,bG 5 r2.1)] h5 rfl rfl) [(5,bG 5 r2.1)] h5 rfl (by simp [V.live,V.lives,y7,V.toks,V.tokss,zM,toks_enc,zP,xY]) (by simp [V.toks,V.tokss,zM,toks_enc,zP,xY]) ?_))))
 obtain ⟨r3,Er3,h⟩:=zd h
 refine vJ (r:=8) (b:=4) (x:=r2.2) (x':=r3.2) (vs:=[enc (r2.1:GR)]) (res:=eL r3.1) h4 (by exact (zL (v:=cuV 8 r2.2) h12 rfl (zL (v:=enc (r2.1:GR)) rfl rfl yQ))) (yh te yz) fm1 (H.c19 _ _ _ Er3) H.g19 te rfl (fun s5 hb5 ha5=>zQ (gV r2.1) (zx (show s5 2=(bZ 2) from ha5 2 _ _ h2 rfl (zi rfl (mIx rfl))) rfl) (zx (show s5 11=(gV r2.1) from ha5 11 (gV r2.1) _ rfl rfl mIE) rfl) (xr (by first | rfl | simp [V.toks,V.tokss,toks_enc,zN])) (gm (zb rfl uE) fun h3=>gz [(2,bG 2 r2.1),(3,_)] ⟨zb (show s5 2=(bZ 2) from ha5 2 _ _ h2 rfl (zi rfl (mIx rfl))) rfl,h3⟩ ?_))
 rintro s ⟨h2,h3⟩
 refine .nsq (.ret ?_)
 obtain rfl:=oi h
 exact rrB (yL h2 (by kernel_rfl)) (zA h3) (ww (uH (zW (w5 (x:=(r2.1:GR))) (zW (w5 (x:=(r3.1:LI))) xg))))
end
def e27 (F:Nat):Ent:=ent 27 (fun (x:(LB×Unit))=>vM F x.1) (fun (r:(GR×LI))=>(.tup [enc (r.1:GR),eL r.2])) 0 true []
abbrev C27 (D:List V→Option V) (F:Nat):Prop:=∀ (x0:LB) r,vM F x0=some r→D [enc x0]=some (.tup [enc (r.1:GR),eL r.2])
theorem p27 {F:Nat}:C27 (e27 F).den F:=fun x0 _ h=>zZ (x0,()) h
theorem o27 (hF:zH Tp D σ) (H:H27 D σ F):(e27 F).Ok Tp:=okZ (f:=27) Try.func27 fun ⟨x0,_⟩ y hy=>cR hF Try.func27 c27 (t27 H x0 _ rfl hy)
def ztK:AC:=(.seq (rr [jm 4 0,jx 5 (.call (jf 27) [.t 4]),jv 6 (.ext (.t 5) 0),jv 7 (.ext (.t 5) 1),jz (.store (.ag [.s,.p]) (.t 2) (.t 6)),jm 3 7]) .ret)
def A10:AC:=(.seq (.reg [.clr [2]] [jx 2 (.alloc (.agg [i0,.sl .nl (.ag [.s,.s]) 0 []])),jv 3 (.mov (.k (.sl .nl .s 0 [])))] []) ztK)
def zw8:List An:=[⟨0,[.clr [2]],[],[],[]⟩]
theorem c10:cq Tp Try.f10 zw8=some A10:=by kernel_rfl
structure H10 (D:Den) (σ:Sig) (F:Nat):Prop where
 c27:C27 (D 27) F
 g27:σ 27=some (0,true)
abbrev R10 (r:(GR×LI)):(Nat→V)→Prop:=RR Tp [.cell 2 26,.tmp 3] 0 true (.tup [enc (r.1:GR),eL r.2])
section
variable {r:(GR×LI)}
def wJ (F:Nat) (x1:LB):Option (GR×LI):=
 (vM F x1).bind fun r2=>
 some (r2.1,r2.2)
theorem t10 (H:H10 D σ F) (x1:LB) (s:Nat→V) (hs:zB [(0,eB x1)] s) (h:wJ F x1=some r):Run D σ (R10 r) (.run A10 []) s:=by
 unfold wJ at h
 have h0:=hs
 refine .seq (zC (yc ?_))
 refine ez [(0,_),(2,_)] ⟨za h0 rfl me,zg rfl⟩ ?_
 rintro s ⟨h0,h2⟩
 refine y6 h2 (g0 nI fun h3=>gq (.nsq (.seq (rg (gm h0 fun h4=>?_)))))
 obtain ⟨r2,Er2,h⟩:=zd h
 refine XG (m:=0) (al:=true) (r:=.tup [enc (r2.1:GR),eL r2.2]) [enc (x1:LB)] (zl h4 rfl (erase_enc (x1:LB)) zJ) (H.c27 _ _ Er2) H.g27 (Xt (wC (v:=eB x1) h4 rfl rfl Xi)) rfl rfl rfl (g1 5 (gV r2.1) (rf (.tup [gV r2.1,eL r2.2])) fun h6=>g1 5 (eL r2.2) (rf (.tup [gV r2.1,eL r2.2])) fun h7=>zQ (gV r2.1) (zx rfl rfl) (zx h6 rfl) (xr (by first | rfl | simp [V.toks,V.tokss,toks_enc,zN])) (gm (zb h7 uE) fun h3=>gz [(2,bG 2 r2.1),(3,_)] ⟨zb rfl rfl,h3⟩ ?_))
 rintro s ⟨h2,h3⟩
 refine .nsq (.ret ?_)
 obtain rfl:=oi h
 exact rrB (yL h2 (by kernel_rfl)) (zA h3) (ww (uH (zW (w5 (x:=(r2.1:GR))) (zW (w5 (x:=(r2.2:LI))) xg))))
end
def e10 (F:Nat):Ent:=ent 10 (fun (x:(LB×Unit))=>wJ F x.1) (fun (r:(GR×LI))=>(.tup [enc (r.1:GR),eL r.2])) 0 true []
abbrev C10 (D:List V→Option V) (F:Nat):Prop:=∀ (x0:LB) r,wJ F x0=some r→D [enc x0]=some (.tup [enc (r.1:GR),eL r.2])
theorem p10 {F:Nat}:C10 (e10 F).den F:=fun x0 _ h=>zZ (x0,()) h
theorem o10 (hF:zH Tp D σ) (H:H10 D σ F):(e10 F).Ok Tp:=okZ (f:=10) Try.func10 fun ⟨x0,_⟩ y hy=>cR hF Try.func10 c10 (t10 H x0 _ rfl hy)
def zr8:AC:=(rr [jm 12 3,jm 13 5,jv 14 (.bin .shl (jn 1) (.t 13)),jv 15 (.bin .or (.t 12) (.t 14)),jm 3 15])
def ztq:AC:=(rr [jv 16 (.bin .add (.t 8) (jn 1)),jm 8 16])
def zqV:AC:=(.seq (.block 1 (.seq (rr [jv 10 (.idx (.t 6) (.t 8) 1),jl 11 10,jm 5 11]) zr8)) ztq)
def zpO:AC:=(.seq (.cond (.t 9) .skip (.exit 0)) zqV)
def zhN:AC:=(.seq (rr [jv 9 (.bin .lss (.t 8) (.t 7))]) zpO)
def zme:AC:=(.seq (rr [jm 17 3,jm 2 17]) .ret)
def zu6:AC:=(.block 0 (.loop zhN))
def zrF:AC:=(.seq (.seq (rr [jm 6 0,jk 7 6,jv 8 (.mov (jn 0))]) zu6) zme)
def zpE:AC:=(.seq (rr [jv 3 (.mov (jn 0))]) zrF)
def A59:AC:=(.seq (rr [jv 2 (.mov (jn 0))]) zpE)
def zvJ:List An:=[]
theorem c59:cq Tp Try.f59 zvJ=some A59:=by kernel_rfl
structure H59 (D:Den) (σ:Sig) (F:Nat):Prop where
 mk ::
abbrev R59 (r:Int):(Nat→V)→Prop:=RR Tp [.tmp 2] 0 false (enc (r:Int))
section
variable {r:Int}
def Zt (F:Nat) (x1:LI) :Nat→Int→Int→Option Int
 | 0,_,_=>none
 | k + 1,x4,x5=>
   bif decide (x5 < (x1.length:Int)) then
    (idx x1 x5).bind fun v8=>
    (Uv .i64 1 v8).bind fun q9=>
    (Zt F x1 k) (ior .i64 x4 q9) (w64 (x5 + 1))
   else
    some x4
theorem zib (H:H59 D σ F) (x1:LI) :∀ (k:Nat) (x4:Int) (x5:Int) (s:Nat→V),zB [(2,ji 0),(3,ji x4),(6,eL x1),(7,ji (x1.length:Int)),(8,ji x5)] s→Zt F x1 k x4 x5=some r→Run D σ (R59 r) (.run zhN [.lp zhN,.bk 0,.sq zme]) s:=by
 intro k
 induction k with
 | zero=>intro x4 x5 s _ h;exact nm h
 | succ k ih=>
   intro x4 x5 s hs h
   rw [Zt] at h
   obtain ⟨h2,h3,h6,h7,h8⟩:=hs
   refine .seq (rg (g2 8 7 (jb (decide (x5 < (x1.length:Int)))) h8 h7 fun h9=>gq (.nsq (.seq (zu h9 h (fun h=>?_) (fun h=>?_))))))
   · refine .skip (.nsq (.seq (.block (.seq (rg ?_)))))
     obtain ⟨v8,Ev8,h⟩:=zd h
     refine gv (.ref .sh 0 [] (ji v8)) (yG (t:=.sh) (lo:=0) (xs:=x1) h6 h8 Ev8 rfl rfl) fun h10=>g1 10 (ji v8) h10 fun h11=>gm h11 fun h5=>gq (.nsq (rg (gm h3 fun h12=>gm h5 fun h13=>?_)))
     obtain ⟨q9,Eq9,h⟩:=zd h
     refine gv (ji q9) (Y1 rfl h13 Eq9) fun h14=>g2 12 14 (ji (ior .i64 x4 q9)) h12 h14 fun h15=>gm h15 fun h3=>gq (.nbk (.nsq (rg (g1 8 (ji (w64 (x5 + 1))) h8 fun h16=>gm h16 fun h8=>gq (.nlp ?_)))))
     exact ih (ior .i64 x4 q9) (w64 (x5 + 1)) _ ⟨h2,h3,h6,h7,h8⟩ h
   refine .exit (.esq (.elp (.ebk (.nsq (.seq (rg (gm h3 fun h17=>gm h17 fun h2=>gq (.nsq (.ret ?_)))))))))
   obtain rfl:=oi h
   exact rrA (zA h2) rfl
def W5 (F:Nat) (x1:LI):Option Int:=
 Zt F x1 F 0 0
theorem t59 (H:H59 D σ F) (x1:LI) (s:Nat→V) (hs:zB [(0,eL x1)] s) (h:W5 F x1=some r):Run D σ (R59 r) (.run A59 []) s:=by
 unfold W5 at h
 have h0:=hs
 refine .seq (rg (g0 (ji 0) fun h2=>gq (.nsq (.seq (rg (g0 (ji 0) fun h3=>gq (.nsq (.seq (.seq (rg (gm h0 fun h6=>gl x1 h6 fun h7=>g0 (ji 0) fun h8=>gq (.nsq (.block (.loop ?_))))))))))))))
 exact zib H x1 F 0 0 _ ⟨h2,h3,h6,h7,h8⟩ h
end
def e59 (F:Nat):Ent:=ent 59 (fun (x:(LI×Unit))=>W5 F x.1) (fun (r:Int)=>(enc (r:Int))) 0 false []
abbrev C59 (D:List V→Option V) (F:Nat):Prop:=∀ (x0:LI) r,W5 F x0=some r→D [enc x0]=some (enc (r:Int))
theorem p59 {F:Nat}:C59 (e59 F).den F:=fun x0 _ h=>zZ (x0,()) h
theorem o59 (hF:zH Tp D σ) (H:H59 D σ F):(e59 F).Ok Tp:=okZ (f:=59) Try.func59 fun ⟨x0,_⟩ y hy=>cR hF Try.func59 c59 (t59 H x0 _ rfl hy)
def zts:AC:=(.seq (rr [jm 5 1,jk 6 5,jv 7 (.fld (.t 2) 0 0),jl 8 7,jv 9 (.bin .eql (.t 6) (.t 8)),jm 10 9,jg 11 10 true (.mov (.t 1)),jg 12 10 true (.fld (.t 2) 0 0),jg 13 10 true (.load .s (.t 12)),jg 14 10 true (.bin .sub (.t 13) (jn 1)),.mk (some 15) (some (10,true)) false (.call (jf 58) [.t 11,jn 0,.t 14]),jv 16 (.pick (.t 10) (.t 15) kf),jm 17 16,jg 18 17 true (.mov (.t 1)),.mk (some 19) (some (17,true)) false (.call (jf 59) [.t 18]),jg 20 17 true (.fld (.t 2) 0 0),jg 21 17 true (.load .s (.t 20)),jg 22 17 true (.bin .shl (jn 1) (.t 21)),jg 23 17 true (.bin .sub (.t 22) (jn 1)),jg 24 17 true (.bin .eql (.t 19) (.t 23)),jv 25 (.pick (.t 17) (.t 24) kf),jm 4 25]) .ret)
def A28:AC:=(.seq (.reg [.clr [2]] [jx 2 (.box (.t 0)),jv 4 (.mov kf)] []) zts)
def zxi:List An:=[⟨0,[.clr [2]],[],[],[]⟩]
theorem c28:cq Tp Try.f28 zxi=some A28:=by kernel_rfl
structure H28 (D:Den) (σ:Sig) (F:Nat):Prop where
 c58:C58 (D 58) F
 g58:σ 58=some (0,false)
 c59:C59 (D 59) F
 g59:σ 59=some (0,false)
abbrev R28 (r:Bool):(Nat→V)→Prop:=RR Tp [.tmp 4] 0 false (enc (r:Bool))
section
variable {r:Bool}
def Yh (F:Nat) (x1:GR) (x2:LI):Option Bool:=
 bif ((x2.length:Int) == x1.1) then
  (uN F x2 0 (w64 (x1.1 - 1))).bind fun r3=>
  bif r3 then
   (W5 F x2).bind fun r4=>
   (Uv .i64 1 x1.1).bind fun q5=>
   some (r4 == (w64 (q5 - 1)))
  else
   some false
 else
  some false
theorem t28 (H:H28 D σ F) (x1:GR) (x2:LI) (s:Nat→V) (hs:zB [(0,gV x1),(1,eL x2)] s) (h:Yh F x1 x2=some r):Run D σ (R28 r) (.run A28 []) s:=by
 unfold Yh at h
 obtain ⟨h0,h1⟩:=hs
 refine .seq (zC (yc ?_))
 refine ez [(0,_),(1,_),(2,_)] ⟨za h0 rfl mIE,za h1 rfl me,zg rfl⟩ ?_
 rintro s ⟨h0,h1,h2⟩
 refine xU (gV x1) (zx h0 rfl) h2 rfl (g0 (jb false) fun h4=>gq (.nsq (.seq (rg (gm h1 fun h5=>gl x2 h5 fun h6=>g1 2 (.ref (.bx 2) 0 [0] (ji x1.1)) (rf (bG 2 x1)) fun h7=>g1 7 (ji x1.1) h7 fun h8=>g2 6 8 (jb ((x2.length:Int) == x1.1)) h6 h8 fun h9=>gm h9 fun h10=>yd h (fun hg6 h=>?_) (fun hg6 h=>?_))))))
 · refine zt (ct h10 hg6) (gm h1 fun h11=>zt (ct h10 hg6) (g1 2 (.ref (.bx 2) 0 [0] (ji x1.1)) (rf (bG 2 x1)) fun h12=>zt (ct h10 hg6) (g1 12 (ji x1.1) h12 fun h13=>zt (ct h10 hg6) (g1 13 (ji (w64 (x1.1 - 1))) h13 fun h14=>?_))))
   obtain ⟨r3,Er3,h⟩:=zd h
   refine zt (ct h10 hg6) (gcF [eL x2,enc (0:Int),enc (w64 (x1.1 - 1):Int)] (zl h11 rfl (erase_enc (x2:LI)) (zl (v:=ji 0) rfl rfl rfl (zl h14 rfl rfl zJ))) (H.c58 _ _ _ _ Er3) H.g58 (g2 10 15 (jb r3) (ct h10 hg6) (rf (jb r3)) fun h16=>gm h16 fun h17=>yd h (fun hg13 h=>?_) (fun hg13 h=>?_)))
   · refine zt (ct h17 hg13) (gm h1 fun h18=>?_)
     obtain ⟨r4,Er4,h⟩:=zd h
     refine zt (ct h17 hg13) (gcF [eL x2] (zl h18 rfl (erase_enc (x2:LI)) zJ) (H.c59 _ _ Er4) H.g59 (zt (ct h17 hg13) (g1 2 (.ref (.bx 2) 0 [0] (ji x1.1)) (rf (bG 2 x1)) fun h20=>zt (ct h17 hg13) (g1 20 (ji x1.1) h20 fun h21=>?_))))
     obtain ⟨q5,Eq5,h⟩:=zd h
     refine zt (ct h17 hg13) (gv (ji q5) (Y1 rfl h21 Eq5) fun h22=>zt (ct h17 hg13) (g1 22 (ji (w64 (q5 - 1))) h22 fun h23=>zt (ct h17 hg13) (g2 19 23 (jb (r4 == (w64 (q5 - 1)))) (rf (ji r4)) h23 fun h24=>g2 17 24 (jb (r4 == (w64 (q5 - 1)))) (ct h17 hg13) h24 fun h25=>gm h25 fun h4=>gq (.nsq (.ret ?_)))))
     obtain rfl:=oi h
     exact rrA (zA h4) rfl
   iterate 7 refine yq (ct h17 hg13) ?_
   refine g2 17 24 (jb false) (ct h17 hg13) (rf (.tup [])) fun h25=>gm h25 fun h4=>gq (.nsq (.ret ?_))
   obtain rfl:=oi h
   exact rrA (zA h4) rfl
 iterate 5 refine yq (ct h10 hg6) ?_
 refine g2 10 15 (jb false) (ct h10 hg6) (rf (.tup [])) fun h16=>gm h16 fun h17=>yq h17 ?_
 iterate 6 refine yq h17 ?_
 refine g2 17 24 (jb false) h17 (rf (.tup [])) fun h25=>gm h25 fun h4=>gq (.nsq (.ret ?_))
 obtain rfl:=oi h
 exact rrA (zA h4) rfl
end
def e28 (F:Nat):Ent:=ent 28 (fun (x:(GR×LI×Unit))=>Yh F x.1 x.2.1) (fun (r:Bool)=>(enc (r:Bool))) 0 false []
abbrev C28 (D:List V→Option V) (F:Nat):Prop:=∀ (x0:GR) (x1:LI) r,Yh F x0 x1=some r→D [enc x0,enc x1]=some (enc (r:Bool))
theorem p28 {F:Nat}:C28 (e28 F).den F:=fun x0 x1 _ h=>zZ (x0,x1,()) h
theorem o28 (hF:zH Tp D σ) (H:H28 D σ F):(e28 F).Ok Tp:=okZ (f:=28) Try.func28 fun ⟨x0,x1,_⟩ y hy=>cR hF Try.func28 c28 (t28 H x0 x1 _ ⟨rfl,rfl⟩ hy)
def zuF:AC:=(.seq (rr [jv 3 (.fld (.t 1) 0 0),jv 4 (.load .p (.t 3)),jk 5 4,jv 6 (.bin .shl (jn 1) (.t 5)),jv 7 (.bin .sub (.t 6) (jn 1)),jm 2 7]) .ret)
def A61:AC:=(.seq (.reg [.clr [1]] [jx 1 (.box (.t 0)),jv 2 (.mov (jn 0))] []) zuF)
def zwo:List An:=[⟨0,[.clr [1]],[],[],[]⟩]
theorem c61:cq Tp Try.f61 zwo=some A61:=by kernel_rfl
structure H61 (D:Den) (σ:Sig) (F:Nat):Prop where
 mk ::
abbrev R61 (r:Int):(Nat→V)→Prop:=RR Tp [.tmp 2] 0 false (enc (r:Int))
section
variable {r:Int}
def vn (F:Nat) (x1:(S1 LI)):Option Int:=
 (Uv .i64 1 (x1.a.length:Int)).bind fun q2=>
 some (w64 (q2 - 1))
theorem t61 (H:H61 D σ F) (x1:(S1 LI)) (s:Nat→V) (hs:zB [(0,.agg [eL x1.a])] s) (h:vn F x1=some r):Run D σ (R61 r) (.run A61 []) s:=by
 unfold vn at h
 have h0:=hs
 refine .seq (zC (yc ?_))
 refine ez [(0,_),(1,_)] ⟨za h0 rfl (zr (zc me zk)),zg rfl⟩ ?_
 rintro s ⟨h0,h1⟩
 refine xU (.agg [eL x1.a]) (zx h0 rfl) h1 rfl (g0 (ji 0) fun h2=>gq (.nsq (.seq (rg (g1 1 (.ref (.bx 1) 0 [0] (eL x1.a)) (rf (.ref (.bx 1) 0 [] (.agg [eL x1.a]))) fun h3=>g1 3 (eL x1.a) h3 fun h4=>gl x1.a h4 fun h5=>?_)))))
 obtain ⟨q2,Eq2,h⟩:=zd h
 refine gv (ji q2) (Y1 rfl h5 Eq2) fun h6=>g1 6 (ji (w64 (q2 - 1))) h6 fun h7=>gm h7 fun h2=>gq (.nsq (.ret ?_))
 obtain rfl:=oi h
 exact rrA (zA h2) rfl
end
def e61 (F:Nat):Ent:=ent 61 (fun (x:((S1 LI)×Unit))=>vn F x.1) (fun (r:Int)=>(enc (r:Int))) 0 false []
abbrev C61 (D:List V→Option V) (F:Nat):Prop:=∀ (x0:(S1 LI)) r,vn F x0=some r→D [enc x0]=some (enc (r:Int))
theorem p61 {F:Nat}:C61 (e61 F).den F:=fun x0 _ h=>zZ (x0,()) h
theorem o61 (hF:zH Tp D σ) (H:H61 D σ F):(e61 F).Ok Tp:=okZ (f:=61) Try.func61 fun ⟨x0,_⟩ y hy=>cR hF Try.func61 c61 (t61 H x0 _ rfl hy)
def zr1:AC:=(.cond (.t 8) .skip (.exit 0))
def zqO:AC:=(.cond (.t 15) (.reg [.clr [18,19]] [jm 16 3,jm 17 4,jx 18 (.lit i0 1 [(0,0,.t 17)]),jx 19 (.app .s (.t 16) (.t 18)),jm 3 19] [.home 19 3]) .skip)
def zlU:AC:=(rr [jm 9 4,jv 10 (.bin .add (.t 9) (jn 1)),jm 4 10])
def zrU:AC:=(.seq (.block 1 (.seq (rr [jm 11 0,jm 12 4,jv 13 (.bin .shr (.t 11) (.t 12)),jv 14 (.bin .and (.t 13) (jn 1)),jv 15 (.bin .eql (.t 14) (jn 1))]) zqO)) zlU)
def QN:AC:=(.seq (.seq (rr [jm 5 0,jm 6 4,jv 7 (.bin .shr (.t 5) (.t 6)),jv 8 (.bin .neq (.t 7) (jn 0))]) zr1) zrU)
def zf4:AC:=(.seq (.reg [] [jm 20 3,jm 2 20] [.home 3 2]) .ret)
def zvz:AC:=(.block 0 (.loop QN))
def zr0:AC:=(.seq (.seq (rr [jv 4 (.mov (jn 0))]) zvz) zf4)
def zsY:AC:=(.seq (rr [jv 3 (.mov (.k (.sl .nl .s 0 [])))]) zr0)
def A31:AC:=(.seq (rr [jv 2 (.mov (.k (.sl .nl .s 0 [])))]) zsY)
def zxd:List An:=[⟨6,[.clr [18,19]],[],[],[.home 19 3]⟩,⟨7,[],[],[],[.home 3 2]⟩]
theorem c31:cq Tp Try.f31 zxd=some A31:=by kernel_rfl
structure H31 (D:Den) (σ:Sig) (F:Nat):Prop where
 mk ::
abbrev R31 (r:LI):(Nat→V)→Prop:=RR Tp [.tmp 2] 0 false (eL r)
section
variable {r:LI}
def XM (F:Nat) (x1:Int) (x8:Int) (c1:(NL Int)→Int→Option LI) (x17:(NL Int)):Option LI:=
 c1 x17 (w64 (x8 + 1))
theorem zcm (H:H31 D σ F) (x1:Int) (x8:Int) (c1:(NL Int)→Int→Option LI) (Hc1:∀ (x7:(NL Int)) (x8:Int) (s:Nat→V),zB [(0,ji x1),(2,nI),(3,oI 3 [] x7),(4,ji x8)] s→c1 x7 x8=some r→Run D σ (R31 r) (.run QN [.lp QN,.bk 0,.sq zf4]) s) (x17:(NL Int)) (s:Nat→V) (hs:zB [(0,ji x1),(2,nI),(3,oI 3 [] x17),(4,ji x8)] s) (h:XM F x1 x8 c1 x17=some r):Run D σ (R31 r) (.nrm [.bk 1,.sq zlU,.lp QN,.bk 0,.sq zf4]) s:=by
 unfold XM at h
 obtain ⟨h0,h2,h3,h4⟩:=hs
 refine .nbk (.nsq (rg (gm h4 fun h9=>g1 9 (ji (w64 (x8 + 1))) h9 fun h10=>gm h10 fun h4=>gq (.nlp ?_))))
 exact Hc1 x17 (w64 (x8 + 1)) _ ⟨h0,h2,h3,h4⟩ h
def vO (F:Nat) (x1:Int) :Nat→(NL Int)→Int→Option LI
 | 0,_,_=>none
 | k + 1,x7,x8=>
   (Um .i64 x1 x8).bind fun q14=>
   bif (q14 != 0) then
    (Um .i64 x1 x8).bind fun q15=>
    bif ((yI .i64 q15 1) == 1) then
     (vh x7.list [x8]).bind fun ap18=>
     XM F x1 x8 (vO F x1 k) (.of ap18)
    else
     XM F x1 x8 (vO F x1 k) x7
   else
    some x7.list
theorem ziT (H:H31 D σ F) (x1:Int) :∀ (k:Nat) (x7:(NL Int)) (x8:Int) (s:Nat→V),zB [(0,ji x1),(2,nI),(3,oI 3 [] x7),(4,ji x8)] s→vO F x1 k x7 x8=some r→Run D σ (R31 r) (.run QN [.lp QN,.bk 0,.sq zf4]) s:=by
 intro k
 induction k with
 | zero=>intro x7 x8 s _ h;exact nm h
 | succ k ih=>
   intro x7 x8 s hs h
   rw [vO] at h
   obtain ⟨h0,h2,h3,h4⟩:=hs
   refine .seq (.seq (rg (gm h0 fun h5=>gm h4 fun h6=>?_)))
   obtain ⟨q14,Eq14,h⟩:=zd h
   refine gv (ji q14) (Wi h5 h6 Eq14) fun h7=>g1 7 (jb (q14 != 0)) h7 fun h8=>gq (.nsq (zu h8 h (fun h=>?_) (fun h=>?_)))
   · refine .skip (.nsq (.seq (.block (.seq (rg (gm h0 fun h11=>gm h4 fun h12=>?_))))))
     obtain ⟨q15,Eq15,h⟩:=zd h
     refine gv (ji q15) (Wi h11 h12 Eq15) fun h13=>g1 13 (ji (yI .i64 q15 1)) h13 fun h14=>g1 14 (jb ((yI .i64 q15 1) == 1)) h14 fun h15=>gq (.nsq (zu h15 h (fun h=>?_) (fun h=>?_)))
     · refine zC (yc ?_)
       refine ez [(0,_),(2,_),(3,_),(4,_),(18,_),(19,_)] ⟨za h0 rfl mi,za h2 rfl rfl,za h3 rfl (zm (r:=3) (p:=[]) rfl rfl),za h4 rfl mi,zg rfl,zg rfl⟩ ?_
       rintro s ⟨h0,h2,h3,h4,h18,h19⟩
       refine gv (oI 3 [] x7) (Uo h3 YR) fun h16=>gm h4 fun h17=>xv [(17,ji x8)] [enc (x8:Int)] h17 rfl rfl h18 ?_
       obtain ⟨ap18,Eap18,h⟩:=zd h
       refine ZG (q:=3) (p:=[]) (o:=(x7:NL Int)) (ys:=([x8]:LI)) (t2:=.at 18 []) (lo2:=0) h16 rfl rfl h19 (vK (o:=(x7:NL Int)) Eap18 (by split <;> simp)) (fun s17 ha17=>gm (rf (oI 19 [] (.of ap18))) fun h3=>xf (yR (r:=19) (x:=3) (v:=_) h3 rfl (fun s18 hz18=>?_)))
       refine ez [(0,ji x1),(2,nI),(3,oI 3 [] (.of ap18)),(4,ji x8)] ⟨hz18 0 _ _ (show s17 0=(ji x1) from zF ha17 h0 mi) mi,hz18 2 _ nI (show s17 2=nI from zF ha17 h2 rfl) rfl,hz18 3 _ _ h3 (zm (r:=19) (p:=[]) rfl rfl),hz18 4 _ _ (show s17 4=(ji x8) from zF ha17 h4 mi) mi⟩ ?_
       rintro s ⟨h0,h2,h3,h4⟩
       exact zcm H x1 x8 (vO F x1 k) ih (.of ap18) _ ⟨h0,h2,h3,h4⟩ h
     refine .skip ?_
     exact zcm H x1 x8 (vO F x1 k) ih x7 _ ⟨h0,h2,h3,h4⟩ h
   refine .exit (.esq (.elp (.ebk (.nsq (.seq (rg (gv (oI 3 [] x7) (Uo h3 YR) fun h20=>gv (oI 3 [] x7) (Uo h20 YR) fun h2=>xf (yR (r:=3) (x:=2) (v:=_) h2 YR (fun s19 hz19=>?_)))))))))
   refine ez [(2,oI 2 [] x7)] (hz19 2 _ _ h2 (zm (r:=3) (p:=[]) rfl rfl)) ?_
   rintro s h2
   refine .nsq (.ret ?_)
   obtain rfl:=oi h
   exact rrA (zA h2) (Yx (xk (o:=x7)) (vR rfl))
def Xp (F:Nat) (x1:Int):Option LI:=
 vO F x1 F .nil 0
theorem t31 (H:H31 D σ F) (x1:Int) (s:Nat→V) (hs:zB [(0,ji x1)] s) (h:Xp F x1=some r):Run D σ (R31 r) (.run A31 []) s:=by
 unfold Xp at h
 have h0:=hs
 refine .seq (rg (g0 nI fun h2=>gq (.nsq (.seq (rg (g0 nI fun h3=>gq (.nsq (.seq (.seq (rg (g0 (ji 0) fun h4=>gq (.nsq (.block (.loop ?_))))))))))))))
 exact ziT H x1 F .nil 0 _ ⟨h0,h2,h3,h4⟩ h
end
def e31 (F:Nat):Ent:=ent 31 (fun (x:(Int×Unit))=>Xp F x.1) (fun (r:LI)=>(eL r)) 0 false []
abbrev C31 (D:List V→Option V) (F:Nat):Prop:=∀ (x0:Int) r,Xp F x0=some r→D [enc x0]=some (eL r)
theorem p31 {F:Nat}:C31 (e31 F).den F:=fun x0 _ h=>zZ (x0,()) h
theorem o31 (hF:zH Tp D σ) (H:H31 D σ F):(e31 F).Ok Tp:=okZ (f:=31) Try.func31 fun ⟨x0,_⟩ y hy=>cR hF Try.func31 c31 (t31 H x0 _ rfl hy)
shelf_lay Lays2.n15 Nm2 15 at Try as Lay88o
structure zwT (D:Den) (σ:Sig) (F:Nat):Prop where
 mk ::
def Zb (F:Nat) (s1:LI):Option (NL Int):=
 cloneO s1
def znn (F:Nat):Ent:=ent 1000000088 (fun (x:(LI×Unit))=>Zb F x.1) (fun (r:(NL Int))=>(zh .sh (r:NL Int))) 1 false []
theorem zxC {F:Nat} {x0:LI} {r:(NL Int)} (h:Zb F x0=some r):(znn F).den [enc x0]=some (zh .sh (r:NL Int)):=zhd (f:=fun (x:(LI×Unit))=>Zb F x.1) (t:=fun (r:(NL Int))=>(zh .sh (r:NL Int))) (x0,()) h
theorem zxE {D:Den} {σ:Sig} {F:Nat} (hF:zH Tp D σ) (H:zwT D σ F):(znn F).Ok Tp:=by
 refine zes (f:=88) (show unk 1000000088=88 from rfl) (fun args r h=>?_) ⟨Try.f88,Try.func88,rfl,rfl⟩
 obtain ⟨⟨x0,_⟩,y,rfl,hy,rfl⟩:=MM h
 exact con_plain (f:=88) (clone_conO Lay88o hy) rfl
end Go.Zq
