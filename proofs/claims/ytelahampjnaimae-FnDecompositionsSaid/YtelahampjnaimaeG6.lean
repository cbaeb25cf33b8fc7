/- Functions of the program, typed (part 6). No further condition. -/
import Derived.Test.YtelahampjnaimaeG5
set_option linter.unusedVariables false
set_option linter.unusedSimpArgs false
namespace Go.Zq
open Go.Proofs Go.Shelf Enc
variable {D:Den} {σ:Sig} {F:Nat}
def zwc:AC:=(.cond (.t 133) (.seq (rr [jv 2 (.mov kt)]) .ret) .skip)
def zwM:AC:=(.seq (rr [jm 152 21,jm 153 152,jg 154 153 true (.mov (.t 23)),jg 155 153 true (.mov (.t 25)),jg 156 153 true (.bin .eql (.t 154) (.t 155)),jv 157 (.pick (.t 153) (.t 156) kf),jm 2 157]) .ret)
def zwx:AC:=(.seq (rr [jv 147 (.load (.ag [.s,.p]) (.t 13)),jm 148 14,jx 149 (.call (jf 17) [.t 147,.t 148]),jm 146 149,jv 150 (.extS (.t 146) 0),jv 151 (.extS (.t 146) 1),jm 25 150,jm 26 151]) zwM)
def zwQ:AC:=(.seq (rr [jv 141 (.load (.ag [.s,.p]) (.t 13)),jv 142 (.load (.ag [.p,.p]) (.t 15)),jx 143 (.call (jf 8) [.t 141,.t 142]),jm 140 143,jv 144 (.extS (.t 140) 0),jv 145 (.extS (.t 140) 1),jm 23 144,jm 24 145]) zwx)
def zv3:AC:=(.seq (rr [jv 135 (.load (.ag [.s,.p]) (.t 13)),jv 136 (.load (.ag [.p,.p]) (.t 15)),jx 137 (.call (jf 6) [.t 135,.t 136]),jm 134 137,jv 138 (.extS (.t 134) 0),jv 139 (.extS (.t 134) 1),jm 21 138,jm 22 139]) zwQ)
def zqa:AC:=(.seq (.seq (rr [jm 132 16,jv 133 (.un .not (.t 132))]) zwc) zv3)
def ztv:AC:=(.cond (.t 122) (.seq (rr [jv 2 (.mov kf)]) .ret) .skip)
def zqG:AC:=(.cond (.t 131) (.seq (rr [jv 2 (.mov kf)]) .ret) .skip)
def zqs:AC:=(.seq (rr [jm 129 9,jm 130 19,jv 131 (.bin .lss (.t 129) (.t 130))]) zqG)
def zwj:AC:=(.cond (.t 123) (.seq (rr [jv 125 (.load (.ag [.s,.p]) (.t 3)),jx 126 (.call (jf 16) [.t 125]),jm 124 126,jv 127 (.extS (.t 124) 0),jv 128 (.extS (.t 124) 1),jm 19 127,jm 20 128]) zqs) .skip)
def zvC:AC:=(.seq (.seq (rr [jm 123 10]) zwj) zqa)
def zqE:AC:=(.cond (.t 28) (.seq (rr [jv 2 (.mov kt)]) .ret) .skip)
def zq2:AC:=(.seq (.seq (rr [jm 76 5,jm 77 7,jv 78 (.beq true (.t 76) (.t 77)),jm 79 78,jg 80 79 false (.mov (.t 6)),jg 81 79 false (.mov (.t 8)),jg 82 79 false (.beq true (.t 80) (.t 81)),jv 83 (.pick (.t 79) kt (.t 82)),jm 84 83,jg 85 84 false (.mov (.t 9)),jg 86 84 false (.mov (.t 11)),jg 87 84 false (.bin .neq (.t 85) (.t 86)),jv 88 (.pick (.t 84) kt (.t 87)),jm 89 88,jg 90 89 false (.mov (.t 10)),jg 91 89 false (.mov (.t 12)),jg 92 89 false (.beq true (.t 90) (.t 91)),jv 93 (.pick (.t 89) kt (.t 92)),jm 94 93,jg 95 94 false (.mov (.t 10)),jg 96 94 false (.mov (.t 6)),jg 97 94 false (.mov (.t 96)),jg 98 97 true (.mov (.t 5)),jg 99 94 false (.pick (.t 97) (.t 98) kf),jg 100 94 false (.beq true (.t 95) (.t 99)),jv 101 (.pick (.t 94) kt (.t 100)),jm 102 101,jg 103 102 false (.mov (.t 16)),jg 104 102 false (.mov (.t 18)),jg 105 102 false (.beq true (.t 103) (.t 104)),jv 106 (.pick (.t 102) kt (.t 105)),jm 107 106,jg 108 107 false (.fld (.t 15) 0 0),jg 109 107 false (.load .p (.t 108)),jg 110 107 false (.fld (.t 17) 0 0),jg 111 107 false (.load .p (.t 110)),.mk (some 112) (some (107,false)) false (.call (jf 14) [.t 109,.t 111]),jg 113 107 false (.un .not (.t 112)),jv 114 (.pick (.t 107) kt (.t 113)),jm 115 114,jg 116 115 false (.fld (.t 15) 1 1),jg 117 115 false (.load .p (.t 116)),jg 118 115 false (.fld (.t 17) 1 1),jg 119 115 false (.load .p (.t 118)),.mk (some 120) (some (115,false)) false (.call (jf 15) [.t 117,.t 119]),jg 121 115 false (.un .not (.t 120)),jv 122 (.pick (.t 115) kt (.t 121))]) ztv) zvC)
def zpH:AC:=(.seq (.reg [.clr [17]] [jv 71 (.load (.ag [.s,.p]) (.t 13)),jm 72 14,jx 73 (.call (jf 13) [.t 71,.t 72]),jm 70 73,jv 74 (.ext (.t 70) 0),jv 75 (.extS (.t 70) 1),jx 17 (.alloc (.agg [.sl .nl .p 0 [],.sl .nl (.ag [.s,.s]) 0 []])),jz (.store (.ag [.p,.p]) (.t 17) (.t 74)),jm 18 75] []) zq2)
def zuM:AC:=(.seq (.reg [.clr [15]] [jv 65 (.load (.ag [.s,.p]) (.t 13)),jm 66 14,jx 67 (.call (jf 12) [.t 65,.t 66]),jm 64 67,jv 68 (.ext (.t 64) 0),jv 69 (.extS (.t 64) 1),jx 15 (.alloc (.agg [.sl .nl .p 0 [],.sl .nl (.ag [.s,.s]) 0 []])),jz (.store (.ag [.p,.p]) (.t 15) (.t 68)),jm 16 69] []) zpH)
def zp1:AC:=(.seq (.reg [.clr [13]] [jm 59 0,jx 60 (.call (jf 11) [.t 59,jn 1]),jx 61 (.call (jf 10) [.t 60]),jm 58 61,jv 62 (.ext (.t 58) 0),jv 63 (.ext (.t 58) 1),jx 13 (.alloc (.agg [i0,.sl .nl (.ag [.s,.s]) 0 []])),jz (.store (.ag [.s,.p]) (.t 13) (.t 62)),jm 14 63] []) zuM)
def zte:AC:=(.seq (rr [jv 53 (.load (.ag [.s,.p]) (.t 3)),jv 54 (.load (.ag [.p,.p]) (.t 4)),jx 55 (.call (jf 9) [.t 53,.t 54]),jm 52 55,jv 56 (.extS (.t 52) 0),jv 57 (.extS (.t 52) 1),jm 11 56,jm 12 57]) zp1)
def zs0:AC:=(.seq (rr [jv 47 (.load (.ag [.s,.p]) (.t 3)),jv 48 (.load (.ag [.p,.p]) (.t 4)),jx 49 (.call (jf 8) [.t 47,.t 48]),jm 46 49,jv 50 (.extS (.t 46) 0),jv 51 (.extS (.t 46) 1),jm 9 50,jm 10 51]) zte)
def zuP:AC:=(.seq (rr [jv 41 (.load (.ag [.s,.p]) (.t 3)),jv 42 (.load (.ag [.p,.p]) (.t 4)),jx 43 (.call (jf 7) [.t 41,.t 42]),jm 40 43,jv 44 (.extS (.t 40) 0),jv 45 (.extS (.t 40) 1),jm 7 44,jm 8 45]) zs0)
def ztJ:AC:=(.seq (rr [jv 35 (.load (.ag [.s,.p]) (.t 3)),jv 36 (.load (.ag [.p,.p]) (.t 4)),jx 37 (.call (jf 6) [.t 35,.t 36]),jm 34 37,jv 38 (.extS (.t 34) 0),jv 39 (.extS (.t 34) 1),jm 5 38,jm 6 39]) zuP)
def zrZ:AC:=(.seq (.reg [.clr [3,4]] [jm 30 0,jx 31 (.call (jf 5) [.t 30]),jm 29 31,jv 32 (.ext (.t 29) 0),jv 33 (.ext (.t 29) 1),jx 3 (.alloc (.agg [i0,.sl .nl (.ag [.s,.s]) 0 []])),jx 4 (.alloc (.agg [.sl .nl .p 0 [],.sl .nl (.ag [.s,.s]) 0 []])),jz (.store (.ag [.s,.p]) (.t 3) (.t 32)),jz (.store (.ag [.p,.p]) (.t 4) (.t 33))] []) ztJ)
def zqY:AC:=(.seq (.seq (rr [jm 27 0,jx 28 (.call (jf 4) [.t 27])]) zqE) zrZ)
def A3:AC:=(.seq (rr [jv 2 (.mov kf)]) zqY)
def an3:List An:=[⟨3,[.clr [3,4]],[],[],[]⟩,⟨8,[.clr [13]],[],[],[]⟩,⟨9,[.clr [15]],[],[],[]⟩,⟨10,[.clr [17]],[],[],[]⟩]
theorem c3:cq Tp Try.f3 an3=some A3:=by kernel_rfl
structure H3 (D:Den) (σ:Sig) (F:Nat):Prop where
 c4:C4 (D 4) F
 g4:σ 4=some (0,false)
 c5:C5 (D 5) F
 g5:σ 5=some (0,true)
 c6:C6 (D 6) F
 g6:σ 6=some (0,false)
 c7:C7 (D 7) F
 g7:σ 7=some (0,false)
 c8:C8 (D 8) F
 g8:σ 8=some (0,false)
 c9:C9 (D 9) F
 g9:σ 9=some (0,false)
 c11:C11 (D 11) F
 g11:σ 11=some (0,false)
 c10:C10 (D 10) F
 g10:σ 10=some (0,true)
 c12:C12 (D 12) F
 g12:σ 12=some (0,true)
 c13:C13 (D 13) F
 g13:σ 13=some (0,true)
 c14:C14 (D 14) F
 g14:σ 14=some (0,false)
 c15:C15 (D 15) F
 g15:σ 15=some (0,false)
 c16:C16 (D 16) F
 g16:σ 16=some (0,false)
 c17:C17 (D 17) F
 g17:σ 17=some (0,false)
abbrev R3 (r:Bool):(Nat→V)→Prop:=RR Tp [.tmp 2] 0 false (enc (r:Bool))
section
variable {r:Bool}
def wH (F:Nat) (r9:(GR×LI)) (r10:(((List LI)×TP)×Bool))  :Option Bool:=
 bif (!r10.2) then
  some true
 else
  (xR F r9.1 r10.1).bind fun r18=>
  (xt F r9.1 r10.1).bind fun r19=>
  (wl F r9.1 r9.2).bind fun r20=>
  bif r18.1 then
   some (r19.1 == r20.1)
  else
   some false
theorem zfX (H:H3 D σ F) (r9:(GR×LI)) (r10:(((List LI)×TP)×Bool))   (s:Nat→V) (hs:zB [(2,jb false),(13,bG 13 r9.1),(14,eL r9.2),(15,.ref (.bx 15) 0 [] (.agg [enc (r10.1.1:List LI),eP r10.1.2])),(16,jb r10.2)] s) (h:wH F r9 r10  =some r):Run D σ (R3 r) (.nrm [.sq zqa]) s:=by
 unfold wH at h
 obtain ⟨h2,h13,h14,h15,h16⟩:=hs
 refine .nsq (.seq (.seq (rg (gm h16 fun h132=>g1 132 (jb (!r10.2)) h132 fun h133=>gq (.nsq (zu h133 h (fun h=>?_) (fun h=>?_)))))))
 · refine .seq (rg (g0 (jb true) fun h2=>gq (.nsq (.ret ?_))))
   obtain rfl:=oi h
   exact rrA (zA h2) rfl
 refine .skip (.nsq (.seq (rg (g1 13 (gV r9.1) h13 fun h135=>g1 15 (.agg [enc (r10.1.1:List LI),eP r10.1.2]) h15 fun h136=>?_))))
 obtain ⟨r18,Er18,h⟩:=zd h
 refine gcF [enc (r9.1:GR),enc (r10.1:((List LI)×TP))] (zl h135 rfl (erase_enc (r9.1:GR)) (zl h136 rfl (erase_enc (r10.1:((List LI)×TP))) zJ)) (H.c6 _ _ _ Er18) H.g6 (gm (rf (.tup [jb r18.1,jb r18.2])) fun h134=>g1 134 (jb r18.1) h134 fun h138=>g1 134 (jb r18.2) h134 fun h139=>gm h138 fun h21=>gm h139 fun h22=>gq (.nsq (.seq (rg (g1 13 (gV r9.1) h13 fun h141=>g1 15 (.agg [enc (r10.1.1:List LI),eP r10.1.2]) h15 fun h142=>?_)))))
 obtain ⟨r19,Er19,h⟩:=zd h
 refine gcF [enc (r9.1:GR),enc (r10.1:((List LI)×TP))] (zl h141 rfl (erase_enc (r9.1:GR)) (zl h142 rfl (erase_enc (r10.1:((List LI)×TP))) zJ)) (H.c8 _ _ _ Er19) H.g8 (gm (rf (.tup [ji r19.1,jb r19.2])) fun h140=>g1 140 (ji r19.1) h140 fun h144=>g1 140 (jb r19.2) h140 fun h145=>gm h144 fun h23=>gm h145 fun h24=>gq (.nsq (.seq (rg (g1 13 (gV r9.1) h13 fun h147=>gm h14 fun h148=>?_)))))
 obtain ⟨r20,Er20,h⟩:=zd h
 refine gcF [enc (r9.1:GR),eL r9.2] (zl h147 rfl (erase_enc (r9.1:GR)) (zl h148 rfl (erase_enc (r9.2:LI)) zJ)) (H.c17 _ _ _ Er20) H.g17 (gm (rf (.tup [ji r20.1,jb r20.2])) fun h146=>g1 146 (ji r20.1) h146 fun h150=>g1 146 (jb r20.2) h146 fun h151=>gm h150 fun h25=>gm h151 fun h26=>gq (.nsq (.seq (rg (gm h21 fun h152=>gm h152 fun h153=>yd h (fun hg2 h=>?_) (fun hg2 h=>?_))))))
 · refine zt (ct h153 hg2) (gm h23 fun h154=>zt (ct h153 hg2) (gm h25 fun h155=>zt (ct h153 hg2) (g2 154 155 (jb (r19.1 == r20.1)) h154 h155 fun h156=>g2 153 156 (jb (r19.1 == r20.1)) (ct h153 hg2) h156 fun h157=>gm h157 fun h2=>gz [(2,_)] h2 ?_)))
   rintro s h2
   refine .nsq (.ret ?_)
   obtain rfl:=oi h
   exact rrA (zA h2) rfl
 iterate 3 refine yq (ct h153 hg2) ?_
 refine g2 153 156 (jb false) (ct h153 hg2) (rf (.tup [])) fun h157=>gm h157 fun h2=>gz [(2,_)] h2 ?_
 rintro s h2
 refine .nsq (.ret ?_)
 obtain rfl:=oi h
 exact rrA (zA h2) rfl
def yp (F:Nat) (r3:(GR×((List LI)×TP))) (r6:(Int×Bool)) (r9:(GR×LI)) (r10:(((List LI)×TP)×Bool))  (x16:Bool):Option Bool:=
 bif x16 then
  some false
 else
  bif r6.2 then
   (vX F r3.1).bind fun r21=>
   bif decide (r6.1 < r21.1) then
    some false
   else
    wH F r9 r10
  else
   wH F r9 r10
theorem YM (H:H3 D σ F) (r3:(GR×((List LI)×TP))) (r6:(Int×Bool)) (r9:(GR×LI)) (r10:(((List LI)×TP)×Bool))  (x16:Bool) (s:Nat→V) (hs:zB [(2,jb false),(3,bG 3 r3.1),(9,ji r6.1),(10,jb r6.2),(13,bG 13 r9.1),(14,eL r9.2),(15,.ref (.bx 15) 0 [] (.agg [enc (r10.1.1:List LI),eP r10.1.2])),(16,jb r10.2),(122,jb x16)] s) (h:yp F r3 r6 r9 r10  x16=some r):Run D σ (R3 r) (.nrm [.sq ztv,.sq zvC]) s:=by
 unfold yp at h
 obtain ⟨h2,h3,h9,h10,h13,h14,h15,h16,h122⟩:=hs
 refine .nsq (zu h122 h (fun h=>?_) (fun h=>?_))
 · refine .seq (rg (g0 (jb false) fun h2=>gq (.nsq (.ret ?_))))
   obtain rfl:=oi h
   exact rrA (zA h2) rfl
 refine .skip (.nsq (.seq (.seq (rg (gm h10 fun h123=>gq (.nsq (zu h123 h (fun h=>?_) (fun h=>?_))))))))
 · refine .seq (rg (g1 3 (gV r3.1) h3 fun h125=>?_))
   obtain ⟨r21,Er21,h⟩:=zd h
   refine gcF [enc (r3.1:GR)] (zl h125 rfl (erase_enc (r3.1:GR)) zJ) (H.c16 _ _ Er21) H.g16 (gm (rf (.tup [ji r21.1,jb r21.2])) fun h124=>g1 124 (ji r21.1) h124 fun h127=>g1 124 (jb r21.2) h124 fun h128=>gm h127 fun h19=>gm h128 fun h20=>gq (.nsq (.seq (rg (gm h9 fun h129=>gm h19 fun h130=>g2 129 130 (jb (decide (r6.1 < r21.1))) h129 h130 fun h131=>gq (.nsq (zu h131 h (fun h=>?_) (fun h=>?_))))))))
   · refine .seq (rg (g0 (jb false) fun h2=>gq (.nsq (.ret ?_))))
     obtain rfl:=oi h
     exact rrA (zA h2) rfl
   refine .skip ?_
   exact zfX H r9 r10 _ ⟨h2,h13,h14,h15,h16⟩ h
 refine .skip ?_
 exact zfX H r9 r10 _ ⟨h2,h13,h14,h15,h16⟩ h
def wj (F:Nat) (x1:LB):Option Bool:=
 (LG F x1).bind fun r2=>
 bif r2 then
  some true
 else
  (wd F x1).bind fun r3=>
  (xR F r3.1 r3.2).bind fun r4=>
  (wA F r3.1 r3.2).bind fun r5=>
  (xt F r3.1 r3.2).bind fun r6=>
  (xV F r3.1 r3.2).bind fun r7=>
  (J0 F x1 1).bind fun r8=>
  (wJ F r8).bind fun r9=>
  (wg F r9.1 r9.2).bind fun r10=>
  (wD F r9.1 r9.2).bind fun r11=>
  bif (r4.1 != r5.1) then
   yp F r3 r6 r9 r10 true
  else
   bif (r4.2 != r5.2) then
    yp F r3 r6 r9 r10 true
   else
    bif (r6.1 != r7.1) then
     yp F r3 r6 r9 r10 true
    else
     bif (r6.2 != r7.2) then
      yp F r3 r6 r9 r10 true
     else
      bif r4.2 then
       bif (r6.2 != r4.1) then
        yp F r3 r6 r9 r10 true
       else
        bif (r10.2 != r11.2) then
         yp F r3 r6 r9 r10 true
        else
         (Xq F r10.1.1 r11.1.1).bind fun r22=>
         bif (!r22) then
          yp F r3 r6 r9 r10 true
         else
          (XB F r10.1.2 r11.1.2).bind fun r23=>
          yp F r3 r6 r9 r10 (!r23)
      else
       bif (r6.2 != false) then
        yp F r3 r6 r9 r10 true
       else
        bif (r10.2 != r11.2) then
         yp F r3 r6 r9 r10 true
        else
         (Xq F r10.1.1 r11.1.1).bind fun r24=>
         bif (!r24) then
          yp F r3 r6 r9 r10 true
         else
          (XB F r10.1.2 r11.1.2).bind fun r25=>
          yp F r3 r6 r9 r10 (!r25)
theorem t3 (H:H3 D σ F) (x1:LB) (s:Nat→V) (hs:zB [(0,eB x1)] s) (h:wj F x1=some r):Run D σ (R3 r) (.run A3 []) s:=by
 unfold wj at h
 have h0:=hs
 refine .seq (rg (g0 (jb false) fun h2=>gq (.nsq (.seq (.seq (rg (gm h0 fun h27=>?_)))))))
 obtain ⟨r2,Er2,h⟩:=zd h
 refine gcF [enc (x1:LB)] (zl h27 rfl (erase_enc (x1:LB)) zJ) (H.c4 _ _ Er2) H.g4 (gq (.nsq (zu rfl h (fun h=>?_) (fun h=>?_))))
 · refine .seq (rg (g0 (jb true) fun h2=>gq (.nsq (.ret ?_))))
   obtain rfl:=oi h
   exact rrA (zA h2) rfl
 refine .skip (.nsq (.seq (zC (yc ?_))))
 refine ez [(0,_),(2,_),(3,_),(4,_)] ⟨za h0 rfl me,za h2 rfl mb,zg rfl,zg rfl⟩ ?_
 rintro s ⟨h0,h2,h3,h4⟩
 refine gm h0 fun h30=>?_
 obtain ⟨r3,Er3,h⟩:=zd h
 refine XG (m:=0) (al:=true) (r:=.tup [enc (r3.1:GR),enc (r3.2:((List LI)×TP))]) [enc (x1:LB)] (zl h30 rfl (erase_enc (x1:LB)) zJ) (H.c5 _ _ Er3) H.g5 (Xt (wC (v:=eB x1) h30 rfl rfl Xi)) rfl rfl rfl (gm (rf (.tup [gV r3.1,.agg [enc (r3.2.1:List LI),eP r3.2.2]])) fun h29=>g1 29 (gV r3.1) h29 fun h32=>g1 29 (.agg [enc (r3.2.1:List LI),eP r3.2.2]) h29 fun h33=>y6 h3 (y6 h4 (zQ (gV r3.1) (zx rfl rfl) (zx h32 rfl) (xr (by first | rfl | simp [V.toks,V.tokss,toks_enc,zN])) ?_)))
 refine zQ (.agg [enc (r3.2.1:List LI),eP r3.2.2]) (zx (zb rfl (zj rfl rfl (zK (zf rfl (zf rfl rfl))))) rfl) (zx (zb h33 (zK (zf uE (zf uE rfl)))) rfl) (xr (by first | rfl | simp [V.toks,V.tokss,toks_enc,zN])) (gz [(0,eB x1),(2,jb false),(3,bG 3 r3.1),(4,.ref (.bx 4) 0 [] (.agg [enc (r3.2.1:List LI),eP r3.2.2]))] ⟨zb (zb h0 uE) uE,zb (zb h2 rfl) rfl,zb (zb rfl rfl) (zj rfl rfl uIE),zb (zb rfl (zj rfl rfl (zK (zf rfl (zf rfl rfl))))) rfl⟩ ?_)
 rintro s ⟨h0,h2,h3,h4⟩
 refine .nsq (.seq (rg (g1 3 (gV r3.1) h3 fun h35=>g1 4 (.agg [enc (r3.2.1:List LI),eP r3.2.2]) h4 fun h36=>?_)))
 obtain ⟨r4,Er4,h⟩:=zd h
 refine gcF [enc (r3.1:GR),enc (r3.2:((List LI)×TP))] (zl h35 rfl (erase_enc (r3.1:GR)) (zl h36 rfl (erase_enc (r3.2:((List LI)×TP))) zJ)) (H.c6 _ _ _ Er4) H.g6 (gm (rf (.tup [jb r4.1,jb r4.2])) fun h34=>g1 34 (jb r4.1) h34 fun h38=>g1 34 (jb r4.2) h34 fun h39=>gm h38 fun h5=>gm h39 fun h6=>gq (.nsq (.seq (rg (g1 3 (gV r3.1) h3 fun h41=>g1 4 (.agg [enc (r3.2.1:List LI),eP r3.2.2]) h4 fun h42=>?_)))))
 obtain ⟨r5,Er5,h⟩:=zd h
 refine gcF [enc (r3.1:GR),enc (r3.2:((List LI)×TP))] (zl h41 rfl (erase_enc (r3.1:GR)) (zl h42 rfl (erase_enc (r3.2:((List LI)×TP))) zJ)) (H.c7 _ _ _ Er5) H.g7 (gm (rf (.tup [jb r5.1,jb r5.2])) fun h40=>g1 40 (jb r5.1) h40 fun h44=>g1 40 (jb r5.2) h40 fun h45=>gm h44 fun h7=>gm h45 fun h8=>gq (.nsq (.seq (rg (g1 3 (gV r3.1) h3 fun h47=>g1 4 (.agg [enc (r3.2.1:List LI),eP r3.2.2]) h4 fun h48=>?_)))))
 obtain ⟨r6,Er6,h⟩:=zd h
 refine gcF [enc (r3.1:GR),enc (r3.2:((List LI)×TP))] (zl h47 rfl (erase_enc (r3.1:GR)) (zl h48 rfl (erase_enc (r3.2:((List LI)×TP))) zJ)) (H.c8 _ _ _ Er6) H.g8 (gm (rf (.tup [ji r6.1,jb r6.2])) fun h46=>g1 46 (ji r6.1) h46 fun h50=>g1 46 (jb r6.2) h46 fun h51=>gm h50 fun h9=>gm h51 fun h10=>gq (.nsq (.seq (rg (g1 3 (gV r3.1) h3 fun h53=>g1 4 (.agg [enc (r3.2.1:List LI),eP r3.2.2]) h4 fun h54=>?_)))))
 obtain ⟨r7,Er7,h⟩:=zd h
 refine gcF [enc (r3.1:GR),enc (r3.2:((List LI)×TP))] (zl h53 rfl (erase_enc (r3.1:GR)) (zl h54 rfl (erase_enc (r3.2:((List LI)×TP))) zJ)) (H.c9 _ _ _ Er7) H.g9 (gm (rf (.tup [ji r7.1,jb r7.2])) fun h52=>g1 52 (ji r7.1) h52 fun h56=>g1 52 (jb r7.2) h52 fun h57=>gm h56 fun h11=>gm h57 fun h12=>gz [(0,_),(2,_),(3,_),(5,_),(6,_),(7,_),(8,_),(9,_),(10,_),(11,_),(12,_)] ⟨h0,h2,h3,h5,h6,h7,h8,h9,h10,h11,h12⟩ ?_)
 rintro s ⟨h0,h2,h3,h5,h6,h7,h8,h9,h10,h11,h12⟩
 refine .nsq (.seq (zC (yc ?_)))
 refine ez [(0,_),(2,_),(3,_),(5,_),(6,_),(7,_),(8,_),(9,_),(10,_),(11,_),(12,_),(13,_)] ⟨za h0 rfl me,za h2 rfl mb,za h3 rfl (zi rfl mIE),za h5 rfl mb,za h6 rfl mb,za h7 rfl mb,za h8 rfl mb,za h9 rfl mi,za h10 rfl mb,za h11 rfl mi,za h12 rfl mb,zg rfl⟩ ?_
 rintro s ⟨h0,h2,h3,h5,h6,h7,h8,h9,h10,h11,h12,h13⟩
 refine gm h0 fun h59=>?_
 obtain ⟨r8,Er8,h⟩:=zd h
 refine gcF [enc (x1:LB),enc (1:Int)] (zl h59 rfl (erase_enc (x1:LB)) (zl (v:=ji 1) rfl rfl rfl zJ)) (H.c11 _ _ _ Er8) H.g11 ?_
 obtain ⟨r9,Er9,h⟩:=zd h
 refine XG (m:=0) (al:=true) (r:=.tup [enc (r9.1:GR),eL r9.2]) [enc (r8:LB)] (zl (v:=eB r8) rfl rfl (erase_enc (r8:LB)) zJ) (H.c10 _ _ Er9) H.g10 (Xt (wC (v:=eB r8) rfl rfl rfl Xi)) rfl rfl rfl (gm (rf (.tup [gV r9.1,eL r9.2])) fun h58=>g1 58 (gV r9.1) h58 fun h62=>g1 58 (eL r9.2) h58 fun h63=>y6 h13 (zQ (gV r9.1) (zx rfl rfl) (zx h62 rfl) (xr (by first | rfl | simp [V.toks,V.tokss,toks_enc,zN])) (gm (zb h63 uE) fun h14=>?_)))
 refine gz [(2,jb false),(3,bG 3 r3.1),(5,jb r4.1),(6,jb r4.2),(7,jb r5.1),(8,jb r5.2),(9,ji r6.1),(10,jb r6.2),(11,ji r7.1),(12,jb r7.2),(13,bG 13 r9.1),(14,_)] ⟨zb h2 rfl,zb h3 (zj rfl rfl uIE),zb h5 rfl,zb h6 rfl,zb h7 rfl,zb h8 rfl,zb h9 rfl,zb h10 rfl,zb h11 rfl,zb h12 rfl,zb rfl rfl,h14⟩ ?_
 rintro s ⟨h2,h3,h5,h6,h7,h8,h9,h10,h11,h12,h13,h14⟩
 refine .nsq (.seq (zC (yc ?_)))
 refine ez [(2,_),(3,_),(5,_),(6,_),(7,_),(8,_),(9,_),(10,_),(11,_),(12,_),(13,_),(14,_),(15,_)] ⟨za h2 rfl mb,za h3 rfl (zi rfl mIE),za h5 rfl mb,za h6 rfl mb,za h7 rfl mb,za h8 rfl mb,za h9 rfl mi,za h10 rfl mb,za h11 rfl mi,za h12 rfl mb,za h13 rfl (zi rfl mIE),za h14 rfl me,zg rfl⟩ ?_
 rintro s ⟨h2,h3,h5,h6,h7,h8,h9,h10,h11,h12,h13,h14,h15⟩
 refine g1 13 (gV r9.1) h13 fun h65=>gm h14 fun h66=>?_
 obtain ⟨r10,Er10,h⟩:=zd h
 refine XG (m:=0) (al:=true) (r:=.tup [enc (r10.1:((List LI)×TP)),enc (r10.2:Bool)]) [enc (r9.1:GR),eL r9.2] (zl h65 rfl (erase_enc (r9.1:GR)) (zl h66 rfl (erase_enc (r9.2:LI)) zJ)) (H.c12 _ _ _ Er10) H.g12 (Xt (wC (v:=gV r9.1) h65 rfl rfl (wC (v:=eL r9.2) h66 rfl rfl Xi))) rfl rfl rfl (gm (rf (.tup [.agg [enc (r10.1.1:List LI),eP r10.1.2],jb r10.2])) fun h64=>g1 64 (.agg [enc (r10.1.1:List LI),eP r10.1.2]) h64 fun h68=>g1 64 (jb r10.2) h64 fun h69=>y6 h15 ?_)
 refine zQ (.agg [enc (r10.1.1:List LI),eP r10.1.2]) (zx rfl rfl) (zx h68 rfl) (xr (by first | rfl | simp [V.toks,V.tokss,toks_enc,zN])) (gm (zb h69 rfl) fun h16=>?_)
 refine gz [(2,jb false),(3,bG 3 r3.1),(5,jb r4.1),(6,jb r4.2),(7,jb r5.1),(8,jb r5.2),(9,ji r6.1),(10,jb r6.2),(11,ji r7.1),(12,jb r7.2),(13,bG 13 r9.1),(14,eL r9.2),(15,.ref (.bx 15) 0 [] (.agg [enc (r10.1.1:List LI),eP r10.1.2])),(16,_)] ⟨zb h2 rfl,zb h3 (zj rfl rfl uIE),zb h5 rfl,zb h6 rfl,zb h7 rfl,zb h8 rfl,zb h9 rfl,zb h10 rfl,zb h11 rfl,zb h12 rfl,zb h13 (zj rfl rfl uIE),zb h14 uE,zb rfl rfl,h16⟩ ?_
 rintro s ⟨h2,h3,h5,h6,h7,h8,h9,h10,h11,h12,h13,h14,h15,h16⟩
 refine .nsq (.seq (zC (yc ?_)))
 refine ez [(2,_),(3,_),(5,_),(6,_),(7,_),(8,_),(9,_),(10,_),(11,_),(12,_),(13,_),(14,_),(15,_),(16,_),(17,_)] ⟨za h2 rfl mb,za h3 rfl (zi rfl mIE),za h5 rfl mb,za h6 rfl mb,za h7 rfl mb,za h8 rfl mb,za h9 rfl mi,za h10 rfl mb,za h11 rfl mi,za h12 rfl mb,za h13 rfl (zi rfl mIE),za h14 rfl me,za h15 rfl (zi rfl (zr (zc me (zc me zk)))),za h16 rfl mb,zg rfl⟩ ?_
 rintro s ⟨h2,h3,h5,h6,h7,h8,h9,h10,h11,h12,h13,h14,h15,h16,h17⟩
 refine g1 13 (gV r9.1) h13 fun h71=>gm h14 fun h72=>?_
 obtain ⟨r11,Er11,h⟩:=zd h
 refine XG (m:=0) (al:=true) (r:=.tup [enc (r11.1:((List LI)×TP)),enc (r11.2:Bool)]) [enc (r9.1:GR),eL r9.2] (zl h71 rfl (erase_enc (r9.1:GR)) (zl h72 rfl (erase_enc (r9.2:LI)) zJ)) (H.c13 _ _ _ Er11) H.g13 (Xt (wC (v:=gV r9.1) h71 rfl rfl (wC (v:=eL r9.2) h72 rfl rfl Xi))) rfl rfl rfl (gm (rf (.tup [.agg [enc (r11.1.1:List LI),eP r11.1.2],jb r11.2])) fun h70=>g1 70 (.agg [enc (r11.1.1:List LI),eP r11.1.2]) h70 fun h74=>g1 70 (jb r11.2) h70 fun h75=>y6 h17 ?_)
 refine zQ (.agg [enc (r11.1.1:List LI),eP r11.1.2]) (zx rfl rfl) (zx h74 rfl) (xr (by first | rfl | simp [V.toks,V.tokss,toks_enc,zN])) (gm (zb h75 rfl) fun h18=>?_)
 refine gz [(2,jb false),(3,bG 3 r3.1),(5,jb r4.1),(6,jb r4.2),(7,jb r5.1),(8,jb r5.2),(9,ji r6.1),(10,jb r6.2),(11,ji r7.1),(12,jb r7.2),(13,bG 13 r9.1),(14,eL r9.2),(15,.ref (.bx 15) 0 [] (.agg [enc (r10.1.1:List LI),eP r10.1.2])),(16,jb r10.2),(17,.ref (.bx 17) 0 [] (.agg [enc (r11.1.1:List LI),eP r11.1.2])),(18,_)] ⟨zb h2 rfl,zb h3 (zj rfl rfl uIE),zb h5 rfl,zb h6 rfl,zb h7 rfl,zb h8 rfl,zb h9 rfl,zb h10 rfl,zb h11 rfl,zb h12 rfl,zb h13 (zj rfl rfl uIE),zb h14 uE,zb h15 (zj rfl rfl (zK (zf uE (zf uE rfl)))),zb h16 rfl,zb rfl rfl,h18⟩ ?_
 rintro s ⟨h2,h3,h5,h6,h7,h8,h9,h10,h11,h12,h13,h14,h15,h16,h17,h18⟩
 refine .nsq (.seq (.seq (rg (gm h5 fun h76=>gm h7 fun h77=>g2 76 77 (jb (r4.1 != r5.1)) h76 h77 fun h78=>gm h78 fun h79=>yd h (fun hg4 h=>?_) (fun hg4 h=>?_)))))
 · iterate 3 refine yq (ct h79 hg4) ?_
   refine g2 79 82 (jb true) (ct h79 hg4) (rf (.tup [])) fun h83=>gm h83 fun h84=>yq h84 ?_
   iterate 2 refine yq h84 ?_
   refine g2 84 87 (jb true) h84 (rf (.tup [])) fun h88=>gm h88 fun h89=>yq h89 ?_
   iterate 2 refine yq h89 ?_
   refine g2 89 92 (jb true) h89 (rf (.tup [])) fun h93=>gm h93 fun h94=>yq h94 ?_
   iterate 2 refine yq h94 ?_
   refine Yu rfl ?_
   iterate 2 refine yq h94 ?_
   refine g2 94 100 (jb true) h94 (rf (.tup [])) fun h101=>gm h101 fun h102=>yq h102 ?_
   iterate 2 refine yq h102 ?_
   refine g2 102 105 (jb true) h102 (rf (.tup [])) fun h106=>gm h106 fun h107=>yq h107 ?_
   iterate 5 refine yq h107 ?_
   refine g2 107 113 (jb true) h107 (rf (.tup [])) fun h114=>gm h114 fun h115=>yq h115 ?_
   iterate 5 refine yq h115 ?_
   refine g2 115 121 (jb true) h115 (rf (.tup [])) fun h122=>gz [(2,_),(3,_),(9,_),(10,_),(13,_),(14,_),(15,_),(16,_),(122,_)] ⟨h2,h3,h9,h10,h13,h14,h15,h16,h122⟩ ?_
   rintro s ⟨h2,h3,h9,h10,h13,h14,h15,h16,h122⟩
   exact YM H r3 r6 r9 r10 true _ ⟨h2,h3,h9,h10,h13,h14,h15,h16,h122⟩ h
 refine zt (ct h79 hg4) (gm h6 fun h80=>zt (ct h79 hg4) (gm h8 fun h81=>zt (ct h79 hg4) (g2 80 81 (jb (r4.2 != r5.2)) h80 h81 fun h82=>g2 79 82 (jb (r4.2 != r5.2)) (ct h79 hg4) h82 fun h83=>gm h83 fun h84=>yd h (fun hg9 h=>?_) (fun hg9 h=>?_))))
 · iterate 3 refine yq (ct h84 hg9) ?_
   refine g2 84 87 (jb true) (ct h84 hg9) (rf (.tup [])) fun h88=>gm h88 fun h89=>yq h89 ?_
   iterate 2 refine yq h89 ?_
   refine g2 89 92 (jb true) h89 (rf (.tup [])) fun h93=>gm h93 fun h94=>yq h94 ?_
   iterate 2 refine yq h94 ?_
   refine Yu rfl ?_
   iterate 2 refine yq h94 ?_
   refine g2 94 100 (jb true) h94 (rf (.tup [])) fun h101=>gm h101 fun h102=>yq h102 ?_
   iterate 2 refine yq h102 ?_
   refine g2 102 105 (jb true) h102 (rf (.tup [])) fun h106=>gm h106 fun h107=>yq h107 ?_
   iterate 5 refine yq h107 ?_
   refine g2 107 113 (jb true) h107 (rf (.tup [])) fun h114=>gm h114 fun h115=>yq h115 ?_
   iterate 5 refine yq h115 ?_
   refine g2 115 121 (jb true) h115 (rf (.tup [])) fun h122=>gz [(2,_),(3,_),(9,_),(10,_),(13,_),(14,_),(15,_),(16,_),(122,_)] ⟨h2,h3,h9,h10,h13,h14,h15,h16,h122⟩ ?_
   rintro s ⟨h2,h3,h9,h10,h13,h14,h15,h16,h122⟩
   exact YM H r3 r6 r9 r10 true _ ⟨h2,h3,h9,h10,h13,h14,h15,h16,h122⟩ h
 refine zt (ct h84 hg9) (gm h9 fun h85=>zt (ct h84 hg9) (gm h11 fun h86=>zt (ct h84 hg9) (g2 85 86 (jb (r6.1 != r7.1)) h85 h86 fun h87=>g2 84 87 (jb (r6.1 != r7.1)) (ct h84 hg9) h87 fun h88=>gm h88 fun h89=>yd h (fun hg14 h=>?_) (fun hg14 h=>?_))))
 · iterate 3 refine yq (ct h89 hg14) ?_
   refine g2 89 92 (jb true) (ct h89 hg14) (rf (.tup [])) fun h93=>gm h93 fun h94=>yq h94 ?_
   iterate 2 refine yq h94 ?_
   refine Yu rfl ?_
   iterate 2 refine yq h94 ?_
   refine g2 94 100 (jb true) h94 (rf (.tup [])) fun h101=>gm h101 fun h102=>yq h102 ?_
   iterate 2 refine yq h102 ?_
   refine g2 102 105 (jb true) h102 (rf (.tup [])) fun h106=>gm h106 fun h107=>yq h107 ?_
   iterate 5 refine yq h107 ?_
   refine g2 107 113 (jb true) h107 (rf (.tup [])) fun h114=>gm h114 fun h115=>yq h115 ?_
   iterate 5 refine yq h115 ?_
   refine g2 115 121 (jb true) h115 (rf (.tup [])) fun h122=>gz [(2,_),(3,_),(9,_),(10,_),(13,_),(14,_),(15,_),(16,_),(122,_)] ⟨h2,h3,h9,h10,h13,h14,h15,h16,h122⟩ ?_
   rintro s ⟨h2,h3,h9,h10,h13,h14,h15,h16,h122⟩
   exact YM H r3 r6 r9 r10 true _ ⟨h2,h3,h9,h10,h13,h14,h15,h16,h122⟩ h
 refine zt (ct h89 hg14) (gm h10 fun h90=>zt (ct h89 hg14) (gm h12 fun h91=>zt (ct h89 hg14) (g2 90 91 (jb (r6.2 != r7.2)) h90 h91 fun h92=>g2 89 92 (jb (r6.2 != r7.2)) (ct h89 hg14) h92 fun h93=>gm h93 fun h94=>yd h (fun hg19 h=>?_) (fun hg19 h=>?_))))
 · iterate 3 refine yq (ct h94 hg19) ?_
   refine Yu rfl ?_
   iterate 2 refine yq (ct h94 hg19) ?_
   refine g2 94 100 (jb true) (ct h94 hg19) (rf (.tup [])) fun h101=>gm h101 fun h102=>yq h102 ?_
   iterate 2 refine yq h102 ?_
   refine g2 102 105 (jb true) h102 (rf (.tup [])) fun h106=>gm h106 fun h107=>yq h107 ?_
   iterate 5 refine yq h107 ?_
   refine g2 107 113 (jb true) h107 (rf (.tup [])) fun h114=>gm h114 fun h115=>yq h115 ?_
   iterate 5 refine yq h115 ?_
   refine g2 115 121 (jb true) h115 (rf (.tup [])) fun h122=>gz [(2,_),(3,_),(9,_),(10,_),(13,_),(14,_),(15,_),(16,_),(122,_)] ⟨h2,h3,h9,h10,h13,h14,h15,h16,h122⟩ ?_
   rintro s ⟨h2,h3,h9,h10,h13,h14,h15,h16,h122⟩
   exact YM H r3 r6 r9 r10 true _ ⟨h2,h3,h9,h10,h13,h14,h15,h16,h122⟩ h
 refine zt (ct h94 hg19) (gm h10 fun h95=>zt (ct h94 hg19) (gm h6 fun h96=>zt (ct h94 hg19) (gm h96 fun h97=>yd h (fun hg22 h=>?_) (fun hg22 h=>?_))))
 · refine zt (ct h97 hg22) (gm h5 fun h98=>zt (ct h94 hg19) (g2 97 98 (jb r4.1) (ct h97 hg22) h98 fun h99=>zt (ct h94 hg19) (g2 95 99 (jb (r6.2 != r4.1)) h95 h99 fun h100=>g2 94 100 (jb (r6.2 != r4.1)) (ct h94 hg19) h100 fun h101=>gm h101 fun h102=>yd h (fun hg27 h=>?_) (fun hg27 h=>?_))))
   · iterate 3 refine yq (ct h102 hg27) ?_
     refine g2 102 105 (jb true) (ct h102 hg27) (rf (.tup [])) fun h106=>gm h106 fun h107=>yq h107 ?_
     iterate 5 refine yq h107 ?_
     refine g2 107 113 (jb true) h107 (rf (.tup [])) fun h114=>gm h114 fun h115=>yq h115 ?_
     iterate 5 refine yq h115 ?_
     refine g2 115 121 (jb true) h115 (rf (.tup [])) fun h122=>gz [(2,_),(3,_),(9,_),(10,_),(13,_),(14,_),(15,_),(16,_),(122,_)] ⟨h2,h3,h9,h10,h13,h14,h15,h16,h122⟩ ?_
     rintro s ⟨h2,h3,h9,h10,h13,h14,h15,h16,h122⟩
     exact YM H r3 r6 r9 r10 true _ ⟨h2,h3,h9,h10,h13,h14,h15,h16,h122⟩ h
   refine zt (ct h102 hg27) (gm h16 fun h103=>zt (ct h102 hg27) (gm h18 fun h104=>zt (ct h102 hg27) (g2 103 104 (jb (r10.2 != r11.2)) h103 h104 fun h105=>g2 102 105 (jb (r10.2 != r11.2)) (ct h102 hg27) h105 fun h106=>gm h106 fun h107=>yd h (fun hg32 h=>?_) (fun hg32 h=>?_))))
   · iterate 6 refine yq (ct h107 hg32) ?_
     refine g2 107 113 (jb true) (ct h107 hg32) (rf (.tup [])) fun h114=>gm h114 fun h115=>yq h115 ?_
     iterate 5 refine yq h115 ?_
     refine g2 115 121 (jb true) h115 (rf (.tup [])) fun h122=>gz [(2,_),(3,_),(9,_),(10,_),(13,_),(14,_),(15,_),(16,_),(122,_)] ⟨h2,h3,h9,h10,h13,h14,h15,h16,h122⟩ ?_
     rintro s ⟨h2,h3,h9,h10,h13,h14,h15,h16,h122⟩
     exact YM H r3 r6 r9 r10 true _ ⟨h2,h3,h9,h10,h13,h14,h15,h16,h122⟩ h
   refine zt (ct h107 hg32) (g1 15 (.ref (.bx 15) 0 [0] (enc (r10.1.1:List LI))) h15 fun h108=>zt (ct h107 hg32) (g1 108 (enc (r10.1.1:List LI)) h108 fun h109=>zt (ct h107 hg32) (g1 17 (.ref (.bx 17) 0 [0] (enc (r11.1.1:List LI))) h17 fun h110=>zt (ct h107 hg32) (g1 110 (enc (r11.1.1:List LI)) h110 fun h111=>?_))))
   obtain ⟨r22,Er22,h⟩:=zd h
   refine zt (ct h107 hg32) (gcF [enc (r10.1.1:(List LI)),enc (r11.1.1:(List LI))] (zl h109 rfl (erase_enc (r10.1.1:(List LI))) (zl h111 rfl (erase_enc (r11.1.1:(List LI))) zJ)) (H.c14 _ _ _ Er22) H.g14 (zt (ct h107 hg32) (g1 112 (jb (!r22)) (rf (jb r22)) fun h113=>g2 107 113 (jb (!r22)) (ct h107 hg32) h113 fun h114=>gm h114 fun h115=>yd h (fun hg40 h=>?_) (fun hg40 h=>?_))))
   · iterate 6 refine yq (ct h115 hg40) ?_
     refine g2 115 121 (jb true) (ct h115 hg40) (rf (.tup [])) fun h122=>gz [(2,_),(3,_),(9,_),(10,_),(13,_),(14,_),(15,_),(16,_),(122,_)] ⟨h2,h3,h9,h10,h13,h14,h15,h16,h122⟩ ?_
     rintro s ⟨h2,h3,h9,h10,h13,h14,h15,h16,h122⟩
     exact YM H r3 r6 r9 r10 true _ ⟨h2,h3,h9,h10,h13,h14,h15,h16,h122⟩ h
   refine zt (ct h115 hg40) (g1 15 (.ref (.bx 15) 0 [1] (eP r10.1.2)) h15 fun h116=>zt (ct h115 hg40) (g1 116 (eP r10.1.2) h116 fun h117=>zt (ct h115 hg40) (g1 17 (.ref (.bx 17) 0 [1] (eP r11.1.2)) h17 fun h118=>zt (ct h115 hg40) (g1 118 (eP r11.1.2) h118 fun h119=>?_))))
   obtain ⟨r23,Er23,h⟩:=zd h
   refine zt (ct h115 hg40) (gcF [eP r10.1.2,eP r11.1.2] (zl h117 rfl (erase_enc (r10.1.2:TP)) (zl h119 rfl (erase_enc (r11.1.2:TP)) zJ)) (H.c15 _ _ _ Er23) H.g15 (zt (ct h115 hg40) (g1 120 (jb (!r23)) (rf (jb r23)) fun h121=>g2 115 121 (jb (!r23)) (ct h115 hg40) h121 fun h122=>gz [(2,_),(3,_),(9,_),(10,_),(13,_),(14,_),(15,_),(16,_),(122,_)] ⟨h2,h3,h9,h10,h13,h14,h15,h16,h122⟩ ?_)))
   rintro s ⟨h2,h3,h9,h10,h13,h14,h15,h16,h122⟩
   exact YM H r3 r6 r9 r10 (!r23) _ ⟨h2,h3,h9,h10,h13,h14,h15,h16,h122⟩ h
 refine yq (ct h97 hg22) (zt (ct h94 hg19) (g2 97 98 (jb false) (ct h97 hg22) (rf (.tup [])) fun h99=>zt (ct h94 hg19) (g2 95 99 (jb (r6.2 != false)) h95 h99 fun h100=>g2 94 100 (jb (r6.2 != false)) (ct h94 hg19) h100 fun h101=>gm h101 fun h102=>yd h (fun hg27 h=>?_) (fun hg27 h=>?_))))
 · iterate 3 refine yq (ct h102 hg27) ?_
   refine g2 102 105 (jb true) (ct h102 hg27) (rf (.tup [])) fun h106=>gm h106 fun h107=>yq h107 ?_
   iterate 5 refine yq h107 ?_
   refine g2 107 113 (jb true) h107 (rf (.tup [])) fun h114=>gm h114 fun h115=>yq h115 ?_
   iterate 5 refine yq h115 ?_
   refine g2 115 121 (jb true) h115 (rf (.tup [])) fun h122=>gz [(2,_),(3,_),(9,_),(10,_),(13,_),(14,_),(15,_),(16,_),(122,_)] ⟨h2,h3,h9,h10,h13,h14,h15,h16,h122⟩ ?_
   rintro s ⟨h2,h3,h9,h10,h13,h14,h15,h16,h122⟩
   exact YM H r3 r6 r9 r10 true _ ⟨h2,h3,h9,h10,h13,h14,h15,h16,h122⟩ h
 refine zt (ct h102 hg27) (gm h16 fun h103=>zt (ct h102 hg27) (gm h18 fun h104=>zt (ct h102 hg27) (g2 103 104 (jb (r10.2 != r11.2)) h103 h104 fun h105=>g2 102 105 (jb (r10.2 != r11.2)) (ct h102 hg27) h105 fun h106=>gm h106 fun h107=>yd h (fun hg32 h=>?_) (fun hg32 h=>?_))))
 · iterate 6 refine yq (ct h107 hg32) ?_
   refine g2 107 113 (jb true) (ct h107 hg32) (rf (.tup [])) fun h114=>gm h114 fun h115=>yq h115 ?_
   iterate 5 refine yq h115 ?_
   refine g2 115 121 (jb true) h115 (rf (.tup [])) fun h122=>gz [(2,_),(3,_),(9,_),(10,_),(13,_),(14,_),(15,_),(16,_),(122,_)] ⟨h2,h3,h9,h10,h13,h14,h15,h16,h122⟩ ?_
   rintro s ⟨h2,h3,h9,h10,h13,h14,h15,h16,h122⟩
   exact YM H r3 r6 r9 r10 true _ ⟨h2,h3,h9,h10,h13,h14,h15,h16,h122⟩ h
 refine zt (ct h107 hg32) (g1 15 (.ref (.bx 15) 0 [0] (enc (r10.1.1:List LI))) h15 fun h108=>zt (ct h107 hg32) (g1 108 (enc (r10.1.1:List LI)) h108 fun h109=>zt (ct h107 hg32) (g1 17 (.ref (.bx 17) 0 [0] (enc (r11.1.1:List LI))) h17 fun h110=>zt (ct h107 hg32) (g1 110 (enc (r11.1.1:List LI)) h110 fun h111=>?_))))
 obtain ⟨r24,Er24,h⟩:=zd h
 refine zt (ct h107 hg32) (gcF [enc (r10.1.1:(List LI)),enc (r11.1.1:(List LI))] (zl h109 rfl (erase_enc (r10.1.1:(List LI))) (zl h111 rfl (erase_enc (r11.1.1:(List LI))) zJ)) (H.c14 _ _ _ Er24) H.g14 (zt (ct h107 hg32) (g1 112 (jb (!r24)) (rf (jb r24)) fun h113=>g2 107 113 (jb (!r24)) (ct h107 hg32) h113 fun h114=>gm h114 fun h115=>yd h (fun hg40 h=>?_) (fun hg40 h=>?_))))
 · iterate 6 refine yq (ct h115 hg40) ?_
   refine g2 115 121 (jb true) (ct h115 hg40) (rf (.tup [])) fun h122=>gz [(2,_),(3,_),(9,_),(10,_),(13,_),(14,_),(15,_),(16,_),(122,_)] ⟨h2,h3,h9,h10,h13,h14,h15,h16,h122⟩ ?_
   rintro s ⟨h2,h3,h9,h10,h13,h14,h15,h16,h122⟩
   exact YM H r3 r6 r9 r10 true _ ⟨h2,h3,h9,h10,h13,h14,h15,h16,h122⟩ h
 refine zt (ct h115 hg40) (g1 15 (.ref (.bx 15) 0 [1] (eP r10.1.2)) h15 fun h116=>zt (ct h115 hg40) (g1 116 (eP r10.1.2) h116 fun h117=>zt (ct h115 hg40) (g1 17 (.ref (.bx 17) 0 [1] (eP r11.1.2)) h17 fun h118=>zt (ct h115 hg40) (g1 118 (eP r11.1.2) h118 fun h119=>?_))))
 obtain ⟨r25,Er25,h⟩:=zd h
 refine zt (ct h115 hg40) (gcF [eP r10.1.2,eP r11.1.2] (zl h117 rfl (erase_enc (r10.1.2:TP)) (zl h119 rfl (erase_enc (r11.1.2:TP)) zJ)) (H.c15 _ _ _ Er25) H.g15 (zt (ct h115 hg40) (g1 120 (jb (!r25)) (rf (jb r25)) fun h121=>g2 115 121 (jb (!r25)) (ct h115 hg40) h121 fun h122=>gz [(2,_),(3,_),(9,_),(10,_),(13,_),(14,_),(15,_),(16,_),(122,_)] ⟨h2,h3,h9,h10,h13,h14,h15,h16,h122⟩ ?_)))
 rintro s ⟨h2,h3,h9,h10,h13,h14,h15,h16,h122⟩
 exact YM H r3 r6 r9 r10 (!r25) _ ⟨h2,h3,h9,h10,h13,h14,h15,h16,h122⟩ h
end
def e3 (F:Nat):Ent:=ent 3 (fun (x:(LB×Unit))=>wj F x.1) (fun (r:Bool)=>(enc (r:Bool))) 0 false []
theorem p3 {F:Nat} {x0:LB} {r:Bool} (h:wj F x0=some r):(e3 F).den [enc x0]=some (enc (r:Bool)):=zZ (x0,()) h
theorem o3 (hF:zH Tp D σ) (H:H3 D σ F):(e3 F).Ok Tp:=okZ (f:=3) Try.func3 fun ⟨x0,_⟩ y hy=>cR hF Try.func3 c3 (t3 H x0 _ rfl hy)
end Go.Zq
