/- Functions of the program as typed functions, and that the machine runs as they say (part 5). No further condition. -/
import Derived.Test.YtelahampjnaimadK4
import Derived.Test.YtelahampjnaimadProg
import Derived.Test.YtelahampjnaimadChecked
import Derived.KernelRfl
import Derived.Test.YtelahampjnaimadG4
set_option linter.unusedVariables false
set_option linter.unusedSimpArgs false
namespace Go.Zq
open Go.Proofs
variable {D:Den} {σ:Sig} {F:Nat}
def zus:AC:=(.cond (.t 140) (.seq (rr [jv 2 (.mov kt)]) .ret) .skip)
def zti:AC:=(.seq (rr [jm 152 24,jm 153 152,jg 154 153 true (.mov (.t 26)),jv 155 (.pick (.t 153) (.t 154) kf),jm 156 155,jg 157 156 true (.mov (.t 23)),.mk (some 158) (some (156,true)) false (.call (jf 17) [.t 157]),jg 159 156 true (.mov (.t 10)),.mk (some 160) (some (156,true)) false (.call (jf 16) [.t 159]),jg 161 156 true (.bin .leq (.t 158) (.t 160)),jv 162 (.pick (.t 156) (.t 161) kf),jm 163 162,jg 164 163 true (.mov (.t 25)),jg 165 163 true (.mov (.t 10)),.mk (some 166) (some (163,true)) false (.call (jf 16) [.t 165]),jg 167 163 true (.bin .leq (.t 164) (.t 166)),jv 168 (.pick (.t 163) (.t 167) kf),jm 2 168]) .ret)
def ztX:AC:=(.seq (rr [jv 148 (.load (.ag [.s,.p]) (.t 9)),jx 149 (.call (jf 18) [.t 148]),jm 147 149,jv 150 (.extS (.t 147) 0),jv 151 (.extS (.t 147) 1),jm 25 150,jm 26 151]) zti)
def zty:AC:=(.seq (rr [jv 142 (.load (.ag [.s,.p]) (.t 9)),jm 143 15,jx 144 (.call (jf 15) [.t 142,.t 143]),jm 141 144,jv 145 (.ext (.t 141) 0),jv 146 (.extS (.t 141) 1),jm 23 145,jm 24 146]) ztX)
def znk:AC:=(.seq (.seq (rr [jm 139 16,jv 140 (.un .not (.t 139))]) zus) zty)
def zrH:AC:=(.cond (.t 138) (.seq (rr [jv 2 (.mov kf)]) .ret) .skip)
def zrf:AC:=(.cond (.t 108) (.seq (rr [jv 2 (.mov kf)]) .ret) .skip)
def zsC:AC:=(.seq (rr [jm 122 20,jv 123 (.un .not (.t 122)),jm 124 123,jg 125 124 false (.mov (.t 22)),jg 126 124 false (.un .not (.t 125)),jv 127 (.pick (.t 124) kt (.t 126)),jm 128 127,jg 129 128 false (.mov (.t 19)),jg 130 128 false (.un .not (.t 129)),jv 131 (.pick (.t 128) kt (.t 130)),jm 132 131,jg 133 132 false (.mov (.t 5)),.mk (some 134) (some (132,false)) false (.call (jf 16) [.t 133]),jg 135 132 false (.mov (.t 21)),.mk (some 136) (some (132,false)) false (.call (jf 17) [.t 135]),jg 137 132 false (.bin .neq (.t 134) (.t 136)),jv 138 (.pick (.t 132) kt (.t 137))]) zrH)
def zok:AC:=(.seq (rr [jv 117 (.load (.ag [.s,.p]) (.t 3)),jm 118 4,jx 119 (.call (jf 15) [.t 117,.t 118]),jm 116 119,jv 120 (.ext (.t 116) 0),jv 121 (.extS (.t 116) 1),jm 21 120,jm 22 121]) zsC)
def zts:AC:=(.cond (.t 109) (.seq (rr [jv 111 (.load (.ag [.s,.p]) (.t 3)),jm 112 5,jx 113 (.call (jf 10) [.t 111,.t 112]),jm 110 113,jv 114 (.extS (.t 110) 0),jv 115 (.extS (.t 110) 1),jm 19 114,jm 20 115]) zok) .skip)
def zpX:AC:=(.seq (.seq (rr [jm 109 6]) zts) znk)
def zk6:AC:=(.cond (.t 79) (.seq (rr [jv 2 (.mov kf)]) .ret) .skip)
def zqb:AC:=(.seq (rr [jm 92 16,jm 93 18,jv 94 (.beq true (.t 92) (.t 93)),jm 95 94,jg 96 95 false (.mov (.t 16)),jg 97 95 false (.mov (.t 12)),jg 98 95 false (.mov (.t 97)),jg 99 98 true (.mov (.t 11)),jg 100 95 false (.pick (.t 98) (.t 99) kf),jg 101 95 false (.beq true (.t 96) (.t 100)),jv 102 (.pick (.t 95) kt (.t 101)),jm 103 102,jg 104 103 false (.mov (.t 15)),jg 105 103 false (.mov (.t 17)),.mk (some 106) (some (103,false)) false (.call (jf 14) [.t 104,.t 105]),jg 107 103 false (.un .not (.t 106)),jv 108 (.pick (.t 103) kt (.t 107))]) zrf)
def zoz:AC:=(.seq (.seq (rr [jv 87 (.load (.ag [.s,.p]) (.t 9)),jm 88 10,jx 89 (.call (jf 13) [.t 87,.t 88]),jm 86 89,jv 90 (.ext (.t 86) 0),jv 91 (.extS (.t 86) 1),jm 17 90,jm 18 91]) zqb) zpX)
def zkA:AC:=(.seq (rr [jv 81 (.load (.ag [.s,.p]) (.t 9)),jm 82 10,jx 83 (.call (jf 12) [.t 81,.t 82]),jm 80 83,jv 84 (.ext (.t 80) 0),jv 85 (.extS (.t 80) 1),jm 15 84,jm 16 85]) zoz)
def zlr:AC:=(.cond (.t 54) (.seq (rr [jv 2 (.mov kf)]) .ret) .skip)
def zrw:AC:=(.seq (rr [jm 72 11,jm 73 13,jv 74 (.beq true (.t 72) (.t 73)),jm 75 74,jg 76 75 false (.mov (.t 12)),jg 77 75 false (.mov (.t 14)),jg 78 75 false (.beq true (.t 76) (.t 77)),jv 79 (.pick (.t 75) kt (.t 78))]) zk6)
def zoX:AC:=(.seq (.seq (rr [jv 67 (.load (.ag [.s,.p]) (.t 9)),jm 68 10,jx 69 (.call (jf 11) [.t 67,.t 68]),jm 66 69,jv 70 (.extS (.t 66) 0),jv 71 (.extS (.t 66) 1),jm 13 70,jm 14 71]) zrw) zkA)
def zr5:AC:=(.seq (rr [jv 61 (.load (.ag [.s,.p]) (.t 9)),jm 62 10,jx 63 (.call (jf 10) [.t 61,.t 62]),jm 60 63,jv 64 (.extS (.t 60) 0),jv 65 (.extS (.t 60) 1),jm 11 64,jm 12 65]) zoX)
def zlj:AC:=(.seq (.reg [.clr [9]] [jm 56 0,jx 57 (.call (jf 9) [.t 56]),jm 55 57,jv 58 (.ext (.t 55) 0),jv 59 (.ext (.t 55) 1),jx 9 (.alloc (.agg [i0,.sl .nl (.ag [.s,.s]) 0 []])),jz (.store (.ag [.s,.p]) (.t 9) (.t 58)),jm 10 59] []) zr5)
def zsc:AC:=(.cond (.t 28) (.seq (rr [jv 2 (.mov kt)]) .ret) .skip)
def zp3:AC:=(.seq (rr [jm 46 6,jm 47 8,jv 48 (.beq true (.t 46) (.t 47)),jm 49 48,jg 50 49 false (.mov (.t 5)),jg 51 49 false (.mov (.t 7)),.mk (some 52) (some (49,false)) false (.call (jf 8) [.t 50,.t 51]),jg 53 49 false (.un .not (.t 52)),jv 54 (.pick (.t 49) kt (.t 53))]) zlr)
def zrv:AC:=(.seq (.seq (rr [jv 41 (.load (.ag [.s,.p]) (.t 3)),jm 42 4,jx 43 (.call (jf 7) [.t 41,.t 42]),jm 40 43,jv 44 (.ext (.t 40) 0),jv 45 (.extS (.t 40) 1),jm 7 44,jm 8 45]) zp3) zlj)
def zpR:AC:=(.seq (rr [jv 35 (.load (.ag [.s,.p]) (.t 3)),jm 36 4,jx 37 (.call (jf 6) [.t 35,.t 36]),jm 34 37,jv 38 (.ext (.t 34) 0),jv 39 (.extS (.t 34) 1),jm 5 38,jm 6 39]) zrv)
def zrP:AC:=(.seq (.reg [.clr [3]] [jm 30 0,jx 31 (.call (jf 5) [.t 30]),jm 29 31,jv 32 (.ext (.t 29) 0),jv 33 (.ext (.t 29) 1),jx 3 (.alloc (.agg [i0,.sl .nl (.ag [.s,.s]) 0 []])),jz (.store (.ag [.s,.p]) (.t 3) (.t 32)),jm 4 33] []) zpR)
def zpQ:AC:=(.seq (.seq (rr [jm 27 0,jx 28 (.call (jf 4) [.t 27])]) zsc) zrP)
def A3:AC:=(.seq (rr [jv 2 (.mov kf)]) zpQ)
def an3:List An:=[⟨3,[.clr [3]],[],[],[]⟩,⟨8,[.clr [9]],[],[],[]⟩]
theorem c3:cq Try.prog Try.f3 an3=some A3:=by kernel_rfl
structure H3 (D:Den) (σ:Sig) (F:Nat):Prop where
 c4:C4 (D 4) F
 g4:σ 4=some (0,false)
 c5:C5 (D 5) F
 g5:σ 5=some (0,true)
 c6:C6 (D 6) F
 g6:σ 6=some (0,true)
 c7:C7 (D 7) F
 g7:σ 7=some (0,true)
 c8:C8 (D 8) F
 g8:σ 8=some (0,false)
 c9:C9 (D 9) F
 g9:σ 9=some (0,true)
 c10:C10 (D 10) F
 g10:σ 10=some (0,false)
 c11:C11 (D 11) F
 g11:σ 11=some (0,false)
 c12:C12 (D 12) F
 g12:σ 12=some (0,false)
 c13:C13 (D 13) F
 g13:σ 13=some (0,false)
 c14:C14 (D 14) F
 g14:σ 14=some (0,false)
 c15:C15 (D 15) F
 g15:σ 15=some (0,false)
 c16:C16 (D 16) F
 g16:σ 16=some (0,false)
 c17:C17 (D 17) F
 g17:σ 17=some (0,false)
 c18:C18 (D 18) F
 g18:σ 18=some (0,false)
abbrev R3 (r:Bool):(Nat→V)→Prop:=RR Try.prog [.tmp 2] 0 false (Enc.enc (r:Bool))
section
variable {r:Bool}
def ZT (F:Nat) (r8:(GR×(List LI))) (r12:(LI×Bool))  :Option Bool:=
 bif (!r12.2) then
  some true
 else
  (xZ F r8.1 r12.1).bind fun r24=>
  (wU F r8.1).bind fun r25=>
  bif r24.2 then
   bif r25.2 then
    (YE F r24.1).bind fun r26=>
    (uF F r8.2).bind fun r27=>
    bif decide (r26≤r27) then
     (uF F r8.2).bind fun r28=>
     some (decide (r25.1≤r28))
    else
     some false
   else
    some false
  else
   some false
theorem zdS (H:H3 D σ F) (r8:(GR×(List LI))) (r12:(LI×Bool))   (s:Nat→V) (hs:zr [(2,jb false),(9,bG 9 r8.1),(10,Enc.enc (r8.2:List LI)),(15,eL r12.1),(16,jb r12.2)] s) (h:ZT F r8 r12  =some r):Run D σ (R3 r) (.nrm [.sq znk]) s:=by
 unfold ZT at h
 obtain ⟨h2,h9,h10,h15,h16⟩:=hs
 refine .nsq (.seq (.seq (rg (gm h16 fun h139=>g1 139 (jb (!r12.2)) h139 fun h140=>gq (.nsq (zk h140 h (fun h=>?_) (fun h=>?_)))))))
 · refine .seq (rg (g0 (jb true) fun h2=>gq (.nsq (.ret ?_))))
   obtain rfl:=oi h
   exact rrA (zl h2) rfl
 refine .skip (.nsq (.seq (rg (g1 9 (gV r8.1) h9 fun h142=>gm h15 fun h143=>?_))))
 obtain ⟨r24,Er24,h⟩:=zb h
 refine gcF [Enc.enc (r8.1:GR),eL r12.1] (zg h142 rfl (Enc.erase_enc (r8.1:GR)) (zg h143 rfl (Enc.erase_enc (r12.1:LI)) zF)) (H.c15 _ _ _ Er24) H.g15 (gm (rf (.tup [eL r24.1,jb r24.2])) fun h141=>g1 141 (eL r24.1) h141 fun h145=>g1 141 (jb r24.2) h141 fun h146=>gm h145 fun h23=>gm h146 fun h24=>gq (.nsq (.seq (rg (g1 9 (gV r8.1) h9 fun h148=>?_)))))
 obtain ⟨r25,Er25,h⟩:=zb h
 refine gcF [Enc.enc (r8.1:GR)] (zg h148 rfl (Enc.erase_enc (r8.1:GR)) zF) (H.c18 _ _ Er25) H.g18 (gm (rf (.tup [ji r25.1,jb r25.2])) fun h147=>g1 147 (ji r25.1) h147 fun h150=>g1 147 (jb r25.2) h147 fun h151=>gm h150 fun h25=>gm h151 fun h26=>gq (.nsq (.seq (rg (gm h24 fun h152=>gm h152 fun h153=>z6 h (fun hg2 h=>?_) (fun hg2 h=>?_))))))
 · refine zo (ct h153 hg2) (gm h26 fun h154=>g2 153 154 (jb r25.2) (ct h153 hg2) h154 fun h155=>gm h155 fun h156=>z6 h (fun hg5 h=>?_) (fun hg5 h=>?_))
   · refine zo (ct h156 hg5) (gm h23 fun h157=>?_)
     obtain ⟨r26,Er26,h⟩:=zb h
     refine zo (ct h156 hg5) (gcF [eL r24.1] (zg h157 rfl (Enc.erase_enc (r24.1:LI)) zF) (H.c17 _ _ Er26) H.g17 (zo (ct h156 hg5) (gm h10 fun h159=>?_)))
     obtain ⟨r27,Er27,h⟩:=zb h
     refine zo (ct h156 hg5) (gcF [Enc.enc (r8.2:(List LI))] (zg h159 rfl (Enc.erase_enc (r8.2:(List LI))) zF) (H.c16 _ _ Er27) H.g16 (zo (ct h156 hg5) (g2 158 160 (jb (decide (r26≤r27))) (rf (ji r26)) (rf (ji r27)) fun h161=>g2 156 161 (jb (decide (r26≤r27))) (ct h156 hg5) h161 fun h162=>gm h162 fun h163=>z6 h (fun hg12 h=>?_) (fun hg12 h=>?_))))
     · refine zo (ct h163 hg12) (gm h25 fun h164=>zo (ct h163 hg12) (gm h10 fun h165=>?_))
       obtain ⟨r28,Er28,h⟩:=zb h
       refine zo (ct h163 hg12) (gcF [Enc.enc (r8.2:(List LI))] (zg h165 rfl (Enc.erase_enc (r8.2:(List LI))) zF) (H.c16 _ _ Er28) H.g16 (zo (ct h163 hg12) (g2 164 166 (jb (decide (r25.1≤r28))) h164 (rf (ji r28)) fun h167=>g2 163 167 (jb (decide (r25.1≤r28))) (ct h163 hg12) h167 fun h168=>gm h168 fun h2=>gz [(2,_)] h2 ?_)))
       rintro s h2
       refine .nsq (.ret ?_)
       obtain rfl:=oi h
       exact rrA (zl h2) rfl
     iterate 4 refine yJ (ct h163 hg12) ?_
     refine g2 163 167 (jb false) (ct h163 hg12) (rf (.tup [])) fun h168=>gm h168 fun h2=>gz [(2,_)] h2 ?_
     rintro s h2
     refine .nsq (.ret ?_)
     obtain rfl:=oi h
     exact rrA (zl h2) rfl
   iterate 5 refine yJ (ct h156 hg5) ?_
   refine g2 156 161 (jb false) (ct h156 hg5) (rf (.tup [])) fun h162=>gm h162 fun h163=>yJ h163 ?_
   iterate 3 refine yJ h163 ?_
   refine g2 163 167 (jb false) h163 (rf (.tup [])) fun h168=>gm h168 fun h2=>gz [(2,_)] h2 ?_
   rintro s h2
   refine .nsq (.ret ?_)
   obtain rfl:=oi h
   exact rrA (zl h2) rfl
 refine yJ (ct h153 hg2) (g2 153 154 (jb false) (ct h153 hg2) (rf (.tup [])) fun h155=>gm h155 fun h156=>yJ h156 ?_)
 iterate 4 refine yJ h156 ?_
 refine g2 156 161 (jb false) h156 (rf (.tup [])) fun h162=>gm h162 fun h163=>yJ h163 ?_
 iterate 3 refine yJ h163 ?_
 refine g2 163 167 (jb false) h163 (rf (.tup [])) fun h168=>gm h168 fun h2=>gz [(2,_)] h2 ?_
 rintro s h2
 refine .nsq (.ret ?_)
 obtain rfl:=oi h
 exact rrA (zl h2) rfl
def Z5 (F:Nat) (r8:(GR×(List LI))) (r12:(LI×Bool))  (x33:Bool):Option Bool:=
 bif x33 then
  some false
 else
  ZT F r8 r12
theorem Lx (H:H3 D σ F) (r8:(GR×(List LI))) (r12:(LI×Bool))  (x33:Bool) (s:Nat→V) (hs:zr [(2,jb false),(9,bG 9 r8.1),(10,Enc.enc (r8.2:List LI)),(15,eL r12.1),(16,jb r12.2),(138,jb x33)] s) (h:Z5 F r8 r12  x33=some r):Run D σ (R3 r) (.nrm [.sq zrH,.sq znk]) s:=by
 unfold Z5 at h
 obtain ⟨h2,h9,h10,h15,h16,h138⟩:=hs
 refine .nsq (zk h138 h (fun h=>?_) (fun h=>?_))
 · refine .seq (rg (g0 (jb false) fun h2=>gq (.nsq (.ret ?_))))
   obtain rfl:=oi h
   exact rrA (zl h2) rfl
 refine .skip ?_
 exact zdS H r8 r12 _ ⟨h2,h9,h10,h15,h16⟩ h
def vr (F:Nat) (r3:(GR×LI)) (r4:((List LI)×Bool)) (r8:(GR×(List LI))) (r12:(LI×Bool))  (x16:Bool):Option Bool:=
 bif x16 then
  some false
 else
  bif r4.2 then
   (yE F r3.1 r4.1).bind fun r29=>
   (xZ F r3.1 r3.2).bind fun r30=>
   bif (!r29.2) then
    Z5 F r8 r12 true
   else
    bif (!r30.2) then
     Z5 F r8 r12 true
    else
     bif (!r29.1) then
      Z5 F r8 r12 true
     else
      (uF F r4.1).bind fun r34=>
      (YE F r30.1).bind fun r35=>
      Z5 F r8 r12 (r34 != r35)
  else
   ZT F r8 r12
theorem JZ (H:H3 D σ F) (r3:(GR×LI)) (r4:((List LI)×Bool)) (r8:(GR×(List LI))) (r12:(LI×Bool))  (x16:Bool) (s:Nat→V) (hs:zr [(2,jb false),(3,bG 3 r3.1),(4,eL r3.2),(5,Enc.enc (r4.1:List LI)),(6,jb r4.2),(9,bG 9 r8.1),(10,Enc.enc (r8.2:List LI)),(15,eL r12.1),(16,jb r12.2),(108,jb x16)] s) (h:vr F r3 r4 r8 r12  x16=some r):Run D σ (R3 r) (.nrm [.sq zrf,.sq zpX]) s:=by
 unfold vr at h
 obtain ⟨h2,h3,h4,h5,h6,h9,h10,h15,h16,h108⟩:=hs
 refine .nsq (zk h108 h (fun h=>?_) (fun h=>?_))
 · refine .seq (rg (g0 (jb false) fun h2=>gq (.nsq (.ret ?_))))
   obtain rfl:=oi h
   exact rrA (zl h2) rfl
 refine .skip (.nsq (.seq (.seq (rg (gm h6 fun h109=>gq (.nsq (zk h109 h (fun h=>?_) (fun h=>?_))))))))
 · refine .seq (rg (g1 3 (gV r3.1) h3 fun h111=>gm h5 fun h112=>?_))
   obtain ⟨r29,Er29,h⟩:=zb h
   refine gcF [Enc.enc (r3.1:GR),Enc.enc (r4.1:(List LI))] (zg h111 rfl (Enc.erase_enc (r3.1:GR)) (zg h112 rfl (Enc.erase_enc (r4.1:(List LI))) zF)) (H.c10 _ _ _ Er29) H.g10 (gm (rf (.tup [jb r29.1,jb r29.2])) fun h110=>g1 110 (jb r29.1) h110 fun h114=>g1 110 (jb r29.2) h110 fun h115=>gm h114 fun h19=>gm h115 fun h20=>gq (.nsq (.seq (rg (g1 3 (gV r3.1) h3 fun h117=>gm h4 fun h118=>?_)))))
   obtain ⟨r30,Er30,h⟩:=zb h
   refine gcF [Enc.enc (r3.1:GR),eL r3.2] (zg h117 rfl (Enc.erase_enc (r3.1:GR)) (zg h118 rfl (Enc.erase_enc (r3.2:LI)) zF)) (H.c15 _ _ _ Er30) H.g15 (gm (rf (.tup [eL r30.1,jb r30.2])) fun h116=>g1 116 (eL r30.1) h116 fun h120=>g1 116 (jb r30.2) h116 fun h121=>gm h120 fun h21=>gm h121 fun h22=>gq (.nsq (.seq (rg (gm h20 fun h122=>g1 122 (jb (!r29.2)) h122 fun h123=>gm h123 fun h124=>z6 h (fun hg3 h=>?_) (fun hg3 h=>?_))))))
   · iterate 2 refine yJ (ct h124 hg3) ?_
     refine g2 124 126 (jb true) (ct h124 hg3) (rf (.tup [])) fun h127=>gm h127 fun h128=>yJ h128 (yJ h128 (g2 128 130 (jb true) h128 (rf (.tup [])) fun h131=>gm h131 fun h132=>yJ h132 ?_))
     iterate 4 refine yJ h132 ?_
     refine g2 132 137 (jb true) h132 (rf (.tup [])) fun h138=>gz [(2,_),(9,_),(10,_),(15,_),(16,_),(138,_)] ⟨h2,h9,h10,h15,h16,h138⟩ ?_
     rintro s ⟨h2,h9,h10,h15,h16,h138⟩
     exact Lx H r8 r12 true _ ⟨h2,h9,h10,h15,h16,h138⟩ h
   refine zo (ct h124 hg3) (gm h22 fun h125=>zo (ct h124 hg3) (g1 125 (jb (!r30.2)) h125 fun h126=>g2 124 126 (jb (!r30.2)) (ct h124 hg3) h126 fun h127=>gm h127 fun h128=>z6 h (fun hg7 h=>?_) (fun hg7 h=>?_)))
   · iterate 2 refine yJ (ct h128 hg7) ?_
     refine g2 128 130 (jb true) (ct h128 hg7) (rf (.tup [])) fun h131=>gm h131 fun h132=>yJ h132 ?_
     iterate 4 refine yJ h132 ?_
     refine g2 132 137 (jb true) h132 (rf (.tup [])) fun h138=>gz [(2,_),(9,_),(10,_),(15,_),(16,_),(138,_)] ⟨h2,h9,h10,h15,h16,h138⟩ ?_
     rintro s ⟨h2,h9,h10,h15,h16,h138⟩
     exact Lx H r8 r12 true _ ⟨h2,h9,h10,h15,h16,h138⟩ h
   refine zo (ct h128 hg7) (gm h19 fun h129=>zo (ct h128 hg7) (g1 129 (jb (!r29.1)) h129 fun h130=>g2 128 130 (jb (!r29.1)) (ct h128 hg7) h130 fun h131=>gm h131 fun h132=>z6 h (fun hg11 h=>?_) (fun hg11 h=>?_)))
   · iterate 5 refine yJ (ct h132 hg11) ?_
     refine g2 132 137 (jb true) (ct h132 hg11) (rf (.tup [])) fun h138=>gz [(2,_),(9,_),(10,_),(15,_),(16,_),(138,_)] ⟨h2,h9,h10,h15,h16,h138⟩ ?_
     rintro s ⟨h2,h9,h10,h15,h16,h138⟩
     exact Lx H r8 r12 true _ ⟨h2,h9,h10,h15,h16,h138⟩ h
   refine zo (ct h132 hg11) (gm h5 fun h133=>?_)
   obtain ⟨r34,Er34,h⟩:=zb h
   refine zo (ct h132 hg11) (gcF [Enc.enc (r4.1:(List LI))] (zg h133 rfl (Enc.erase_enc (r4.1:(List LI))) zF) (H.c16 _ _ Er34) H.g16 (zo (ct h132 hg11) (gm h21 fun h135=>?_)))
   obtain ⟨r35,Er35,h⟩:=zb h
   refine zo (ct h132 hg11) (gcF [eL r30.1] (zg h135 rfl (Enc.erase_enc (r30.1:LI)) zF) (H.c17 _ _ Er35) H.g17 (zo (ct h132 hg11) (g2 134 136 (jb (r34 != r35)) (rf (ji r34)) (rf (ji r35)) fun h137=>g2 132 137 (jb (r34 != r35)) (ct h132 hg11) h137 fun h138=>gz [(2,_),(9,_),(10,_),(15,_),(16,_),(138,_)] ⟨h2,h9,h10,h15,h16,h138⟩ ?_)))
   rintro s ⟨h2,h9,h10,h15,h16,h138⟩
   exact Lx H r8 r12 (r34 != r35) _ ⟨h2,h9,h10,h15,h16,h138⟩ h
 refine .skip ?_
 exact zdS H r8 r12 _ ⟨h2,h9,h10,h15,h16⟩ h
def YI (F:Nat) (r3:(GR×LI)) (r4:((List LI)×Bool)) (r8:(GR×(List LI))) (r9:(Bool×Bool))  (x11:Bool):Option Bool:=
 bif x11 then
  some false
 else
  (wD F r8.1 r8.2).bind fun r12=>
  (wB F r8.1 r8.2).bind fun r13=>
  bif (r12.2 != r13.2) then
   vr F r3 r4 r8 r12 true
  else
   bif r9.2 then
    bif (r12.2 != r9.1) then
     vr F r3 r4 r8 r12 true
    else
     (YB F r12.1 r13.1).bind fun r36=>
     vr F r3 r4 r8 r12 (!r36)
   else
    bif (r12.2 != false) then
     vr F r3 r4 r8 r12 true
    else
     (YB F r12.1 r13.1).bind fun r37=>
     vr F r3 r4 r8 r12 (!r37)
theorem zet (H:H3 D σ F) (r3:(GR×LI)) (r4:((List LI)×Bool)) (r8:(GR×(List LI))) (r9:(Bool×Bool))  (x11:Bool) (s:Nat→V) (hs:zr [(2,jb false),(3,bG 3 r3.1),(4,eL r3.2),(5,Enc.enc (r4.1:List LI)),(6,jb r4.2),(9,bG 9 r8.1),(10,Enc.enc (r8.2:List LI)),(11,jb r9.1),(12,jb r9.2),(79,jb x11)] s) (h:YI F r3 r4 r8 r9  x11=some r):Run D σ (R3 r) (.nrm [.sq zk6,.sq zkA]) s:=by
 unfold YI at h
 obtain ⟨h2,h3,h4,h5,h6,h9,h10,h11,h12,h79⟩:=hs
 refine .nsq (zk h79 h (fun h=>?_) (fun h=>?_))
 · refine .seq (rg (g0 (jb false) fun h2=>gq (.nsq (.ret ?_))))
   obtain rfl:=oi h
   exact rrA (zl h2) rfl
 refine .skip (.nsq (.seq (rg (g1 9 (gV r8.1) h9 fun h81=>gm h10 fun h82=>?_))))
 obtain ⟨r12,Er12,h⟩:=zb h
 refine gcF [Enc.enc (r8.1:GR),Enc.enc (r8.2:(List LI))] (zg h81 rfl (Enc.erase_enc (r8.1:GR)) (zg h82 rfl (Enc.erase_enc (r8.2:(List LI))) zF)) (H.c12 _ _ _ Er12) H.g12 (gm (rf (.tup [eL r12.1,jb r12.2])) fun h80=>g1 80 (eL r12.1) h80 fun h84=>g1 80 (jb r12.2) h80 fun h85=>gm h84 fun h15=>gm h85 fun h16=>gq (.nsq (.seq (.seq (rg (g1 9 (gV r8.1) h9 fun h87=>gm h10 fun h88=>?_))))))
 obtain ⟨r13,Er13,h⟩:=zb h
 refine gcF [Enc.enc (r8.1:GR),Enc.enc (r8.2:(List LI))] (zg h87 rfl (Enc.erase_enc (r8.1:GR)) (zg h88 rfl (Enc.erase_enc (r8.2:(List LI))) zF)) (H.c13 _ _ _ Er13) H.g13 (gm (rf (.tup [eL r13.1,jb r13.2])) fun h86=>g1 86 (eL r13.1) h86 fun h90=>g1 86 (jb r13.2) h86 fun h91=>gm h90 fun h17=>gm h91 fun h18=>gz [(2,_),(3,_),(4,_),(5,_),(6,_),(9,_),(10,_),(11,_),(12,_),(15,_),(16,_),(17,_),(18,_)] ⟨h2,h3,h4,h5,h6,h9,h10,h11,h12,h15,h16,h17,h18⟩ ?_)
 rintro s ⟨h2,h3,h4,h5,h6,h9,h10,h11,h12,h15,h16,h17,h18⟩
 refine .nsq (.seq (rg (gm h16 fun h92=>gm h18 fun h93=>g2 92 93 (jb (r12.2 != r13.2)) h92 h93 fun h94=>gm h94 fun h95=>z6 h (fun hg4 h=>?_) (fun hg4 h=>?_))))
 · iterate 3 refine yJ (ct h95 hg4) ?_
   refine Wf rfl ?_
   iterate 2 refine yJ (ct h95 hg4) ?_
   refine g2 95 101 (jb true) (ct h95 hg4) (rf (.tup [])) fun h102=>gm h102 fun h103=>yJ h103 ?_
   iterate 3 refine yJ h103 ?_
   refine g2 103 107 (jb true) h103 (rf (.tup [])) fun h108=>gq ?_
   exact JZ H r3 r4 r8 r12 true _ ⟨h2,h3,h4,h5,h6,h9,h10,h15,h16,h108⟩ h
 refine zo (ct h95 hg4) (gm h16 fun h96=>zo (ct h95 hg4) (gm h12 fun h97=>zo (ct h95 hg4) (gm h97 fun h98=>z6 h (fun hg7 h=>?_) (fun hg7 h=>?_))))
 · refine zo (ct h98 hg7) (gm h11 fun h99=>zo (ct h95 hg4) (g2 98 99 (jb r9.1) (ct h98 hg7) h99 fun h100=>zo (ct h95 hg4) (g2 96 100 (jb (r12.2 != r9.1)) h96 h100 fun h101=>g2 95 101 (jb (r12.2 != r9.1)) (ct h95 hg4) h101 fun h102=>gm h102 fun h103=>z6 h (fun hg12 h=>?_) (fun hg12 h=>?_))))
   · iterate 4 refine yJ (ct h103 hg12) ?_
     refine g2 103 107 (jb true) (ct h103 hg12) (rf (.tup [])) fun h108=>gq ?_
     exact JZ H r3 r4 r8 r12 true _ ⟨h2,h3,h4,h5,h6,h9,h10,h15,h16,h108⟩ h
   refine zo (ct h103 hg12) (gm h15 fun h104=>zo (ct h103 hg12) (gm h17 fun h105=>?_))
   obtain ⟨r36,Er36,h⟩:=zb h
   refine zo (ct h103 hg12) (gcF [eL r12.1,eL r13.1] (zg h104 rfl (Enc.erase_enc (r12.1:LI)) (zg h105 rfl (Enc.erase_enc (r13.1:LI)) zF)) (H.c14 _ _ _ Er36) H.g14 (zo (ct h103 hg12) (g1 106 (jb (!r36)) (rf (jb r36)) fun h107=>g2 103 107 (jb (!r36)) (ct h103 hg12) h107 fun h108=>gq ?_)))
   exact JZ H r3 r4 r8 r12 (!r36) _ ⟨h2,h3,h4,h5,h6,h9,h10,h15,h16,h108⟩ h
 refine yJ (ct h98 hg7) (zo (ct h95 hg4) (g2 98 99 (jb false) (ct h98 hg7) (rf (.tup [])) fun h100=>zo (ct h95 hg4) (g2 96 100 (jb (r12.2 != false)) h96 h100 fun h101=>g2 95 101 (jb (r12.2 != false)) (ct h95 hg4) h101 fun h102=>gm h102 fun h103=>z6 h (fun hg12 h=>?_) (fun hg12 h=>?_))))
 · iterate 4 refine yJ (ct h103 hg12) ?_
   refine g2 103 107 (jb true) (ct h103 hg12) (rf (.tup [])) fun h108=>gq ?_
   exact JZ H r3 r4 r8 r12 true _ ⟨h2,h3,h4,h5,h6,h9,h10,h15,h16,h108⟩ h
 refine zo (ct h103 hg12) (gm h15 fun h104=>zo (ct h103 hg12) (gm h17 fun h105=>?_))
 obtain ⟨r37,Er37,h⟩:=zb h
 refine zo (ct h103 hg12) (gcF [eL r12.1,eL r13.1] (zg h104 rfl (Enc.erase_enc (r12.1:LI)) (zg h105 rfl (Enc.erase_enc (r13.1:LI)) zF)) (H.c14 _ _ _ Er37) H.g14 (zo (ct h103 hg12) (g1 106 (jb (!r37)) (rf (jb r37)) fun h107=>g2 103 107 (jb (!r37)) (ct h103 hg12) h107 fun h108=>gq ?_)))
 exact JZ H r3 r4 r8 r12 (!r37) _ ⟨h2,h3,h4,h5,h6,h9,h10,h15,h16,h108⟩ h
def YH (F:Nat) (x1:LB) (r3:(GR×LI)) (r4:((List LI)×Bool))  (x7:Bool):Option Bool:=
 bif x7 then
  some false
 else
  (yP F x1).bind fun r8=>
  (yE F r8.1 r8.2).bind fun r9=>
  (yZ F r8.1 r8.2).bind fun r10=>
  bif (r9.1 != r10.1) then
   YI F r3 r4 r8 r9 true
  else
   YI F r3 r4 r8 r9 (r9.2 != r10.2)
theorem zeK (H:H3 D σ F) (x1:LB) (r3:(GR×LI)) (r4:((List LI)×Bool))  (x7:Bool) (s:Nat→V) (hs:zr [(0,eB x1),(2,jb false),(3,bG 3 r3.1),(4,eL r3.2),(5,Enc.enc (r4.1:List LI)),(6,jb r4.2),(54,jb x7)] s) (h:YH F x1 r3 r4  x7=some r):Run D σ (R3 r) (.nrm [.sq zlr,.sq zlj]) s:=by
 unfold YH at h
 obtain ⟨h0,h2,h3,h4,h5,h6,h54⟩:=hs
 refine .nsq (zk h54 h (fun h=>?_) (fun h=>?_))
 · refine .seq (rg (g0 (jb false) fun h2=>gq (.nsq (.ret ?_))))
   obtain rfl:=oi h
   exact rrA (zl h2) rfl
 refine .skip (.nsq (.seq (zC (ye ?_))))
 refine ez [(0,_),(2,_),(3,_),(4,_),(5,_),(6,_),(9,_)] ⟨za h0 rfl me,za h2 rfl mb,za h3 rfl (zi rfl mIE),za h4 rfl me,za h5 rfl me,za h6 rfl mb,ze rfl⟩ ?_
 rintro s ⟨h0,h2,h3,h4,h5,h6,h9⟩
 refine gm h0 fun h56=>?_
 obtain ⟨r8,Er8,h⟩:=zb h
 refine Wj (m:=0) (al:=true) (r:=.tup [Enc.enc (r8.1:GR),Enc.enc (r8.2:(List LI))]) [Enc.enc (x1:LB)] (zg h56 rfl (Enc.erase_enc (x1:LB)) zF) (H.c9 _ _ Er8) H.g9 (We (vn (v:=eB x1) h56 rfl rfl Wd)) rfl rfl rfl (gm (rf (.tup [gV r8.1,Enc.enc (r8.2:List LI)])) fun h55=>g1 55 (gV r8.1) h55 fun h58=>g1 55 (Enc.enc (r8.2:List LI)) h55 fun h59=>xN h9 (yo (gV r8.1) (zI rfl rfl) (zI h58 rfl) (wo (by first | rfl | simp [V.toks,V.tokss,Enc.toks_enc,ym])) (gm (zd h59 uE) fun h10=>?_)))
 refine gz [(2,jb false),(3,bG 3 r3.1),(4,eL r3.2),(5,Enc.enc (r4.1:List LI)),(6,jb r4.2),(9,bG 9 r8.1),(10,_)] ⟨zd h2 rfl,zd h3 (zO rfl rfl uIE),zd h4 uE,zd h5 uE,zd h6 rfl,zd rfl rfl,h10⟩ ?_
 rintro s ⟨h2,h3,h4,h5,h6,h9,h10⟩
 refine .nsq (.seq (rg (g1 9 (gV r8.1) h9 fun h61=>gm h10 fun h62=>?_)))
 obtain ⟨r9,Er9,h⟩:=zb h
 refine gcF [Enc.enc (r8.1:GR),Enc.enc (r8.2:(List LI))] (zg h61 rfl (Enc.erase_enc (r8.1:GR)) (zg h62 rfl (Enc.erase_enc (r8.2:(List LI))) zF)) (H.c10 _ _ _ Er9) H.g10 (gm (rf (.tup [jb r9.1,jb r9.2])) fun h60=>g1 60 (jb r9.1) h60 fun h64=>g1 60 (jb r9.2) h60 fun h65=>gm h64 fun h11=>gm h65 fun h12=>gq (.nsq (.seq (.seq (rg (g1 9 (gV r8.1) h9 fun h67=>gm h10 fun h68=>?_))))))
 obtain ⟨r10,Er10,h⟩:=zb h
 refine gcF [Enc.enc (r8.1:GR),Enc.enc (r8.2:(List LI))] (zg h67 rfl (Enc.erase_enc (r8.1:GR)) (zg h68 rfl (Enc.erase_enc (r8.2:(List LI))) zF)) (H.c11 _ _ _ Er10) H.g11 (gm (rf (.tup [jb r10.1,jb r10.2])) fun h66=>g1 66 (jb r10.1) h66 fun h70=>g1 66 (jb r10.2) h66 fun h71=>gm h70 fun h13=>gm h71 fun h14=>gq (.nsq (.seq (rg (gm h11 fun h72=>gm h13 fun h73=>g2 72 73 (jb (r9.1 != r10.1)) h72 h73 fun h74=>gm h74 fun h75=>z6 h (fun hg4 h=>?_) (fun hg4 h=>?_))))))
 · iterate 3 refine yJ (ct h75 hg4) ?_
   refine g2 75 78 (jb true) (ct h75 hg4) (rf (.tup [])) fun h79=>gq ?_
   exact zet H r3 r4 r8 r9 true _ ⟨h2,h3,h4,h5,h6,h9,h10,h11,h12,h79⟩ h
 refine zo (ct h75 hg4) (gm h12 fun h76=>zo (ct h75 hg4) (gm h14 fun h77=>zo (ct h75 hg4) (g2 76 77 (jb (r9.2 != r10.2)) h76 h77 fun h78=>g2 75 78 (jb (r9.2 != r10.2)) (ct h75 hg4) h78 fun h79=>gq ?_)))
 exact zet H r3 r4 r8 r9 (r9.2 != r10.2) _ ⟨h2,h3,h4,h5,h6,h9,h10,h11,h12,h79⟩ h
def YK (F:Nat) (x1:LB):Option Bool:=
 (Ko F x1).bind fun r2=>
 bif r2 then
  some true
 else
  (ww F x1).bind fun r3=>
  (wz F r3.1 r3.2).bind fun r4=>
  (wC F r3.1 r3.2).bind fun r5=>
  bif (r4.2 != r5.2) then
   YH F x1 r3 r4 true
  else
   (YO F r4.1 r5.1).bind fun r38=>
   YH F x1 r3 r4 (!r38)
theorem t3 (H:H3 D σ F) (x1:LB) (s:Nat→V) (hs:zr [(0,eB x1)] s) (h:YK F x1=some r):Run D σ (R3 r) (.run A3 []) s:=by
 unfold YK at h
 have h0:=hs
 refine .seq (rg (g0 (jb false) fun h2=>gq (.nsq (.seq (.seq (rg (gm h0 fun h27=>?_)))))))
 obtain ⟨r2,Er2,h⟩:=zb h
 refine gcF [Enc.enc (x1:LB)] (zg h27 rfl (Enc.erase_enc (x1:LB)) zF) (H.c4 _ _ Er2) H.g4 (gq (.nsq (zk rfl h (fun h=>?_) (fun h=>?_))))
 · refine .seq (rg (g0 (jb true) fun h2=>gq (.nsq (.ret ?_))))
   obtain rfl:=oi h
   exact rrA (zl h2) rfl
 refine .skip (.nsq (.seq (zC (ye ?_))))
 refine ez [(0,_),(2,_),(3,_)] ⟨za h0 rfl me,za h2 rfl mb,ze rfl⟩ ?_
 rintro s ⟨h0,h2,h3⟩
 refine gm h0 fun h30=>?_
 obtain ⟨r3,Er3,h⟩:=zb h
 refine Wj (m:=0) (al:=true) (r:=.tup [Enc.enc (r3.1:GR),eL r3.2]) [Enc.enc (x1:LB)] (zg h30 rfl (Enc.erase_enc (x1:LB)) zF) (H.c5 _ _ Er3) H.g5 (We (vn (v:=eB x1) h30 rfl rfl Wd)) rfl rfl rfl (gm (rf (.tup [gV r3.1,eL r3.2])) fun h29=>g1 29 (gV r3.1) h29 fun h32=>g1 29 (eL r3.2) h29 fun h33=>xN h3 (yo (gV r3.1) (zI rfl rfl) (zI h32 rfl) (wo (by first | rfl | simp [V.toks,V.tokss,Enc.toks_enc,ym])) (gm (zd h33 uE) fun h4=>gz [(0,eB x1),(2,jb false),(3,bG 3 r3.1),(4,_)] ⟨zd h0 uE,zd h2 rfl,zd rfl rfl,h4⟩ ?_)))
 rintro s ⟨h0,h2,h3,h4⟩
 refine .nsq (.seq (rg (g1 3 (gV r3.1) h3 fun h35=>gm h4 fun h36=>?_)))
 obtain ⟨r4,Er4,h⟩:=zb h
 refine Wj (m:=0) (al:=true) (r:=.tup [Enc.enc (r4.1:(List LI)),Enc.enc (r4.2:Bool)]) [Enc.enc (r3.1:GR),eL r3.2] (zg h35 rfl (Enc.erase_enc (r3.1:GR)) (zg h36 rfl (Enc.erase_enc (r3.2:LI)) zF)) (H.c6 _ _ _ Er4) H.g6 (We (vn (v:=gV r3.1) h35 rfl rfl (vn (v:=eL r3.2) h36 rfl rfl Wd))) rfl rfl rfl (gm (rf (.tup [Enc.enc (r4.1:List LI),jb r4.2])) fun h34=>g1 34 (Enc.enc (r4.1:List LI)) h34 fun h38=>g1 34 (jb r4.2) h34 fun h39=>gm h38 fun h5=>gm h39 fun h6=>gq (.nsq (.seq (.seq (rg (g1 3 (gV r3.1) h3 fun h41=>gm h4 fun h42=>?_))))))
 obtain ⟨r5,Er5,h⟩:=zb h
 refine Wj (m:=0) (al:=true) (r:=.tup [Enc.enc (r5.1:(List LI)),Enc.enc (r5.2:Bool)]) [Enc.enc (r3.1:GR),eL r3.2] (zg h41 rfl (Enc.erase_enc (r3.1:GR)) (zg h42 rfl (Enc.erase_enc (r3.2:LI)) zF)) (H.c7 _ _ _ Er5) H.g7 (We (vn (v:=gV r3.1) h41 rfl rfl (vn (v:=eL r3.2) h42 rfl rfl Wd))) rfl rfl rfl (gm (rf (.tup [Enc.enc (r5.1:List LI),jb r5.2])) fun h40=>g1 40 (Enc.enc (r5.1:List LI)) h40 fun h44=>g1 40 (jb r5.2) h40 fun h45=>gm h44 fun h7=>gm h45 fun h8=>gq (.nsq (.seq (rg (gm h6 fun h46=>gm h8 fun h47=>g2 46 47 (jb (r4.2 != r5.2)) h46 h47 fun h48=>?_)))))
 refine gm h48 fun h49=>z6 h (fun hg4 h=>?_) (fun hg4 h=>?_)
 · iterate 4 refine yJ (ct h49 hg4) ?_
   refine g2 49 53 (jb true) (ct h49 hg4) (rf (.tup [])) fun h54=>gq ?_
   exact zeK H x1 r3 r4 true _ ⟨h0,h2,h3,h4,h5,h6,h54⟩ h
 refine zo (ct h49 hg4) (gm h5 fun h50=>zo (ct h49 hg4) (gm h7 fun h51=>?_))
 obtain ⟨r38,Er38,h⟩:=zb h
 refine zo (ct h49 hg4) (gcF [Enc.enc (r4.1:(List LI)),Enc.enc (r5.1:(List LI))] (zg h50 rfl (Enc.erase_enc (r4.1:(List LI))) (zg h51 rfl (Enc.erase_enc (r5.1:(List LI))) zF)) (H.c8 _ _ _ Er38) H.g8 (zo (ct h49 hg4) (g1 52 (jb (!r38)) (rf (jb r38)) fun h53=>g2 49 53 (jb (!r38)) (ct h49 hg4) h53 fun h54=>gq ?_)))
 exact zeK H x1 r3 r4 (!r38) _ ⟨h0,h2,h3,h4,h5,h6,h54⟩ h
end
def e3 (F:Nat):Ent:=ent 3 (fun (x:(LB×Unit))=>YK F x.1) (fun (r:Bool)=>(Enc.enc (r:Bool))) 0 false []
theorem p3 {F:Nat} {x0:LB} {r:Bool} (h:YK F x0=some r):(e3 F).den [Enc.enc x0]=some (Enc.enc (r:Bool)):=zR (x0,()) h
theorem o3 (hF:zw Try.prog D σ) (H:H3 D σ F):(e3 F).Ok Try.prog:=okZ (f:=3) Try.func3 fun ⟨x0,_⟩ y hy=>cR hF Try.func3 c3 (t3 H x0 _ rfl hy)
end Go.Zq
