/- Functions of the program as typed functions, and that the machine runs as they say (part 5). No further condition. -/
import Derived.Test.YtkmhlpopclahcacK4
import Derived.Test.YtkmhlpopclahcacKC
import Derived.Test.YtkmhlpopclahcacProg
import Derived.Test.YtkmhlpopclahcacChecked
import Derived.KernelRfl
import Derived.Test.YtkmhlpopclahcacG4
set_option linter.unusedVariables false
set_option linter.unusedSimpArgs false
namespace Go.Zq
open Go.Proofs Go.Shelf
variable {D:Den} {σ:Sig} {F:Nat}
def zsw:AC:=(.cond (.t 237) (.seq (rr [jv 2 (.mov kf)]) .ret) .skip)
def zpa:AC:=(.seq (rr [jm 238 38,jv 239 (.un .not (.t 238)),jm 240 239,jg 241 240 false (.fld (.t 3) 0 0),jg 242 240 false (.load .s (.t 241)),jg 243 240 false (.bin .eql (.t 242) (jn 0)),jv 244 (.pick (.t 240) kt (.t 243)),jm 245 244,jg 246 245 false (.mov (.t 37)),jg 247 245 false (.mov (.t 18)),jg 248 245 false (.bin .leq (.t 246) (.t 247)),jg 249 245 false (.mov (.t 248)),jg 250 249 true (.mov (.t 37)),jg 251 249 true (.mov (.t 24)),jg 252 249 true (.bin .leq (.t 250) (.t 251)),jg 253 245 false (.pick (.t 249) (.t 252) kf),jv 254 (.pick (.t 245) kt (.t 253)),jm 2 254]) .ret)
def ztM:AC:=(.cond (.t 186) (.seq (rr [jv 2 (.mov kf)]) .ret) .skip)
def zvC:AC:=(.cond (.t 188) (.seq (rr [jv 2 (.mov kt)]) .ret) .skip)
def zvL:AC:=(.seq (.seq (rr [jm 206 33,jm 207 18,jv 208 (.bin .neq (.t 206) (.t 207)),jm 209 208,jg 210 209 false (.mov (.t 35)),jg 211 209 false (.mov (.t 24)),jg 212 209 false (.bin .neq (.t 210) (.t 211)),jv 213 (.pick (.t 209) kt (.t 212)),jm 214 213,jg 215 214 false (.mov (.t 29)),jg 216 214 false (.mov (.t 18)),jg 217 214 false (.bin .gtr (.t 215) (.t 216)),jv 218 (.pick (.t 214) kt (.t 217)),jm 219 218,jg 220 219 false (.mov (.t 6)),jg 221 219 false (.mov (.t 220)),jg 222 221 true (.mov (.t 5)),jg 223 221 true (.mov (.t 18)),jg 224 221 true (.bin .lss (.t 222) (.t 223)),jg 225 221 true (.mov (.t 224)),jg 226 225 false (.mov (.t 13)),jg 227 225 false (.mov (.t 24)),jg 228 225 false (.bin .lss (.t 226) (.t 227)),jg 229 221 true (.pick (.t 225) kt (.t 228)),jg 230 221 true (.mov (.t 229)),jg 231 230 false (.mov (.t 9)),.mk (some 232) (some (230,false)) false (.call (jf 20) [.t 231]),jg 233 230 false (.mov (.t 13)),jg 234 230 false (.bin .neq (.t 232) (.t 233)),jg 235 221 true (.pick (.t 230) kt (.t 234)),jg 236 219 false (.pick (.t 221) (.t 235) kf),jv 237 (.pick (.t 219) kt (.t 236))]) zsw) zpa)
def zvF:AC:=(.seq (rr [jv 202 (.load (.ag [.s,.p]) (.t 3)),jx 203 (.call (jf 19) [.t 202]),jm 201 203,jv 204 (.extS (.t 201) 0),jv 205 (.extS (.t 201) 1),jm 37 204,jm 38 205]) zvL)
def zuA:AC:=(.seq (rr [jv 196 (.load (.ag [.s,.p]) (.t 3)),jm 197 23,jx 198 (.call (jf 10) [.t 196,.t 197]),jm 195 198,jv 199 (.extS (.t 195) 0),jv 200 (.extS (.t 195) 1),jm 35 199,jm 36 200]) zvF)
def zvI:AC:=(.seq (rr [jv 190 (.load (.ag [.s,.p]) (.t 3)),jm 191 17,jx 192 (.call (jf 6) [.t 190,.t 191]),jm 189 192,jv 193 (.extS (.t 189) 0),jv 194 (.extS (.t 189) 1),jm 33 193,jm 34 194]) zuA)
def zpt:AC:=(.seq (.seq (rr [jm 187 19,jv 188 (.un .not (.t 187))]) zvC) zvI)
def zoB:AC:=(.cond (.t 40) (.seq (rr [jv 2 (.mov kt)]) .ret) .skip)
def zrR:AC:=(.seq (.seq (rr [jm 116 5,jm 117 7,jv 118 (.bin .neq (.t 116) (.t 117)),jm 119 118,jg 120 119 false (.mov (.t 6)),jg 121 119 false (.mov (.t 8)),jg 122 119 false (.beq true (.t 120) (.t 121)),jv 123 (.pick (.t 119) kt (.t 122)),jm 124 123,jg 125 124 false (.mov (.t 10)),jg 126 124 false (.mov (.t 12)),jg 127 124 false (.beq true (.t 125) (.t 126)),jv 128 (.pick (.t 124) kt (.t 127)),jm 129 128,jg 130 129 false (.mov (.t 9)),jg 131 129 false (.mov (.t 11)),.mk (some 132) (some (129,false)) false (.call (jf 18) [.t 130,.t 131]),jg 133 129 false (.un .not (.t 132)),jv 134 (.pick (.t 129) kt (.t 133)),jm 135 134,jg 136 135 false (.mov (.t 13)),jg 137 135 false (.mov (.t 15)),jg 138 135 false (.bin .neq (.t 136) (.t 137)),jv 139 (.pick (.t 135) kt (.t 138)),jm 140 139,jg 141 140 false (.mov (.t 14)),jg 142 140 false (.mov (.t 16)),jg 143 140 false (.beq true (.t 141) (.t 142)),jv 144 (.pick (.t 140) kt (.t 143)),jm 145 144,jg 146 145 false (.mov (.t 19)),jg 147 145 false (.mov (.t 22)),jg 148 145 false (.beq true (.t 146) (.t 147)),jv 149 (.pick (.t 145) kt (.t 148)),jm 150 149,jg 151 150 false (.mov (.t 18)),jg 152 150 false (.mov (.t 21)),jg 153 150 false (.bin .neq (.t 151) (.t 152)),jv 154 (.pick (.t 150) kt (.t 153)),jm 155 154,jg 156 155 false (.mov (.t 17)),jg 157 155 false (.mov (.t 20)),.mk (some 158) (some (155,false)) false (.call (jf 18) [.t 156,.t 157]),jg 159 155 false (.un .not (.t 158)),jv 160 (.pick (.t 155) kt (.t 159)),jm 161 160,jg 162 161 false (.mov (.t 25)),jg 163 161 false (.mov (.t 28)),jg 164 161 false (.beq true (.t 162) (.t 163)),jv 165 (.pick (.t 161) kt (.t 164)),jm 166 165,jg 167 166 false (.mov (.t 24)),jg 168 166 false (.mov (.t 27)),jg 169 166 false (.bin .neq (.t 167) (.t 168)),jv 170 (.pick (.t 166) kt (.t 169)),jm 171 170,jg 172 171 false (.mov (.t 23)),jg 173 171 false (.mov (.t 26)),.mk (some 174) (some (171,false)) false (.call (jf 18) [.t 172,.t 173]),jg 175 171 false (.un .not (.t 174)),jv 176 (.pick (.t 171) kt (.t 175)),jm 177 176,jg 178 177 false (.mov (.t 29)),jg 179 177 false (.mov (.t 31)),jg 180 177 false (.bin .neq (.t 178) (.t 179)),jv 181 (.pick (.t 177) kt (.t 180)),jm 182 181,jg 183 182 false (.mov (.t 30)),jg 184 182 false (.mov (.t 32)),jg 185 182 false (.beq true (.t 183) (.t 184)),jv 186 (.pick (.t 182) kt (.t 185))]) ztM) zpt)
def zt9:AC:=(.seq (rr [jv 112 (.load (.ag [.s,.p]) (.t 3)),jx 113 (.call (jf 17) [.t 112]),jm 111 113,jv 114 (.extS (.t 111) 0),jv 115 (.extS (.t 111) 1),jm 31 114,jm 32 115]) zrR)
def zsR:AC:=(.seq (rr [jv 107 (.load (.ag [.s,.p]) (.t 3)),jx 108 (.call (jf 16) [.t 107]),jm 106 108,jv 109 (.extS (.t 106) 0),jv 110 (.extS (.t 106) 1),jm 29 109,jm 30 110]) zt9)
def zq0:AC:=(.seq (rr [jv 101 (.load (.ag [.s,.p]) (.t 3)),jx 102 (.call (jf 15) [.t 101]),jm 100 102,jv 103 (.ext (.t 100) 0),jv 104 (.extS (.t 100) 1),jv 105 (.extS (.t 100) 2),jm 26 103,jm 27 104,jm 28 105]) zsR)
def zqn:AC:=(.seq (rr [jv 95 (.load (.ag [.s,.p]) (.t 3)),jx 96 (.call (jf 14) [.t 95]),jm 94 96,jv 97 (.ext (.t 94) 0),jv 98 (.extS (.t 94) 1),jv 99 (.extS (.t 94) 2),jm 23 97,jm 24 98,jm 25 99]) zq0)
def zpg:AC:=(.seq (rr [jv 89 (.load (.ag [.s,.p]) (.t 3)),jx 90 (.call (jf 13) [.t 89]),jm 88 90,jv 91 (.ext (.t 88) 0),jv 92 (.extS (.t 88) 1),jv 93 (.extS (.t 88) 2),jm 20 91,jm 21 92,jm 22 93]) zqn)
def zsj:AC:=(.seq (rr [jv 83 (.load (.ag [.s,.p]) (.t 3)),jx 84 (.call (jf 12) [.t 83]),jm 82 84,jv 85 (.ext (.t 82) 0),jv 86 (.extS (.t 82) 1),jv 87 (.extS (.t 82) 2),jm 17 85,jm 18 86,jm 19 87]) zpg)
def zpd:AC:=(.seq (rr [jv 77 (.load (.ag [.s,.p]) (.t 3)),jm 78 4,jx 79 (.call (jf 11) [.t 77,.t 78]),jm 76 79,jv 80 (.extS (.t 76) 0),jv 81 (.extS (.t 76) 1),jm 15 80,jm 16 81]) zsj)
def zuw:AC:=(.seq (rr [jv 71 (.load (.ag [.s,.p]) (.t 3)),jm 72 4,jx 73 (.call (jf 10) [.t 71,.t 72]),jm 70 73,jv 74 (.extS (.t 70) 0),jv 75 (.extS (.t 70) 1),jm 13 74,jm 14 75]) zpd)
def zrj:AC:=(.seq (rr [jv 65 (.load (.ag [.s,.p]) (.t 3)),jm 66 4,jx 67 (.call (jf 9) [.t 65,.t 66]),jm 64 67,jv 68 (.ext (.t 64) 0),jv 69 (.extS (.t 64) 1),jm 11 68,jm 12 69]) zuw)
def zq3:AC:=(.seq (rr [jv 59 (.load (.ag [.s,.p]) (.t 3)),jm 60 4,jx 61 (.call (jf 8) [.t 59,.t 60]),jm 58 61,jv 62 (.ext (.t 58) 0),jv 63 (.extS (.t 58) 1),jm 9 62,jm 10 63]) zrj)
def zpJ:AC:=(.seq (rr [jv 53 (.load (.ag [.s,.p]) (.t 3)),jm 54 4,jx 55 (.call (jf 7) [.t 53,.t 54]),jm 52 55,jv 56 (.extS (.t 52) 0),jv 57 (.extS (.t 52) 1),jm 7 56,jm 8 57]) zq3)
def zpZ:AC:=(.seq (rr [jv 47 (.load (.ag [.s,.p]) (.t 3)),jm 48 4,jx 49 (.call (jf 6) [.t 47,.t 48]),jm 46 49,jv 50 (.extS (.t 46) 0),jv 51 (.extS (.t 46) 1),jm 5 50,jm 6 51]) zpJ)
def zpb:AC:=(.seq (.reg [.clr [3]] [jm 42 0,jx 43 (.call (jf 5) [.t 42]),jm 41 43,jv 44 (.ext (.t 41) 0),jv 45 (.ext (.t 41) 1),jx 3 (.alloc (.agg [i0,.sl .nl (.ag [.s,.s]) 0 []])),jz (.store (.ag [.s,.p]) (.t 3) (.t 44)),jm 4 45] []) zpZ)
def ztz:AC:=(.seq (.seq (rr [jm 39 0,jx 40 (.call (jf 4) [.t 39])]) zoB) zpb)
def A3:AC:=(.seq (rr [jv 2 (.mov kf)]) ztz)
def an3:List An:=[⟨3,[.clr [3]],[],[],[]⟩]
theorem c3:cq Try.prog Try.f3 an3=some A3:=by kernel_rfl
structure H3 (D:Den) (σ:Sig) (F:Nat):Prop where
 c4:C4 (D 4) F
 g4:σ 4=some (0,false)
 c5:C5 (D 5) F
 g5:σ 5=some (0,true)
 c6:C6 (D 6) F
 g6:σ 6=some (0,false)
 c7:C7 (D 7) F
 g7:σ 7=some (0,false)
 c8:C8 (D 8) F
 g8:σ 8=some (0,true)
 c9:C9 (D 9) F
 g9:σ 9=some (0,true)
 c10:C10 (D 10) F
 g10:σ 10=some (0,false)
 c11:C11 (D 11) F
 g11:σ 11=some (0,false)
 c12:C12 (D 12) F
 g12:σ 12=some (0,true)
 c13:C13 (D 13) F
 g13:σ 13=some (0,true)
 c14:C14 (D 14) F
 g14:σ 14=some (0,true)
 c15:C15 (D 15) F
 g15:σ 15=some (0,false)
 c16:C16 (D 16) F
 g16:σ 16=some (0,false)
 c17:C17 (D 17) F
 g17:σ 17=some (0,false)
 c18:C18 (D 18) F
 g18:σ 18=some (0,false)
 c19:C19 (D 19) F
 g19:σ 19=some (0,false)
 c20:C20 (D 20) F
 g20:σ 20=some (0,false)
abbrev R3 (r:Bool):(Nat→V)→Prop:=RR Try.prog [.tmp 2] 0 false (Enc.enc (r:Bool))
section
variable {r:Bool}
def y6 (F:Nat) (r3:(GR×LI)) (r10:(S3 LI Int Bool)) (r12:(S3 LI Int Bool)) (r22:(Int×Bool))  (x24:Bool):Option Bool:=
 bif x24 then
  some false
 else
  bif (!r22.2) then
   some true
  else
   bif (r3.1.1 == 0) then
    some true
   else
    bif decide (r22.1≤r10.b) then
     some (decide (r22.1≤r12.b))
    else
     some false
theorem Uc (H:H3 D σ F) (r3:(GR×LI)) (r10:(S3 LI Int Bool)) (r12:(S3 LI Int Bool)) (r22:(Int×Bool))  (x24:Bool) (s:Nat→V) (hs:zk [(2,jb false),(3,bG 3 r3.1),(18,ji r10.b),(24,ji r12.b),(37,ji r22.1),(38,jb r22.2),(237,jb x24)] s) (h:y6 F r3 r10 r12 r22  x24=some r):Run D σ (R3 r) (.nrm [.sq zsw,.sq zpa]) s:=by
 unfold y6 at h
 obtain ⟨h2,h3,h18,h24,h37,h38,h237⟩:=hs
 refine .nsq (zg h237 h (fun h=>?_) (fun h=>?_))
 · refine .seq (rg (g0 (jb false) fun h2=>gq (.nsq (.ret ?_))))
   obtain rfl:=oi h
   exact rrA (zf h2) rfl
 refine .skip (.nsq (.seq (rg (gm h38 fun h238=>g1 238 (jb (!r22.2)) h238 fun h239=>gm h239 fun h240=>zU h (fun hg3 h=>?_) (fun hg3 h=>?_)))))
 · iterate 3 refine zw (ct h240 hg3) ?_
   refine g2 240 243 (jb true) (ct h240 hg3) (rf (.tup [])) fun h244=>gm h244 fun h245=>zw h245 ?_
   iterate 3 refine zw h245 ?_
   iterate 3 refine ZV rfl ?_
   refine zw h245 (g2 245 253 (jb true) h245 (rf (.tup [])) fun h254=>gm h254 fun h2=>gz [(2,_)] h2 ?_)
   rintro s h2
   refine .nsq (.ret ?_)
   obtain rfl:=oi h
   exact rrA (zf h2) rfl
 refine zh (ct h240 hg3) (g1 3 (.ref (.bx 3) 0 [0] (ji r3.1.1)) h3 fun h241=>zh (ct h240 hg3) (g1 241 (ji r3.1.1) h241 fun h242=>zh (ct h240 hg3) (g1 242 (jb (r3.1.1 == 0)) h242 fun h243=>g2 240 243 (jb (r3.1.1 == 0)) (ct h240 hg3) h243 fun h244=>gm h244 fun h245=>zU h (fun hg8 h=>?_) (fun hg8 h=>?_))))
 · iterate 4 refine zw (ct h245 hg8) ?_
   iterate 3 refine ZV rfl ?_
   refine zw (ct h245 hg8) (g2 245 253 (jb true) (ct h245 hg8) (rf (.tup [])) fun h254=>gm h254 fun h2=>gz [(2,_)] h2 ?_)
   rintro s h2
   refine .nsq (.ret ?_)
   obtain rfl:=oi h
   exact rrA (zf h2) rfl
 refine zh (ct h245 hg8) (gm h37 fun h246=>zh (ct h245 hg8) (gm h18 fun h247=>zh (ct h245 hg8) (g2 246 247 (jb (decide (r22.1≤r10.b))) h246 h247 fun h248=>zh (ct h245 hg8) (gm h248 fun h249=>zU h (fun hg12 h=>?_) (fun hg12 h=>?_)))))
 · refine zh (ct h249 hg12) (gm h37 fun h250=>zh (ct h249 hg12) (gm h24 fun h251=>zh (ct h249 hg12) (g2 250 251 (jb (decide (r22.1≤r12.b))) h250 h251 fun h252=>zh (ct h245 hg8) (g2 249 252 (jb (decide (r22.1≤r12.b))) (ct h249 hg12) h252 fun h253=>g2 245 253 (jb (decide (r22.1≤r12.b))) (ct h245 hg8) h253 fun h254=>gm h254 fun h2=>gz [(2,_)] h2 ?_))))
   rintro s h2
   refine .nsq (.ret ?_)
   obtain rfl:=oi h
   exact rrA (zf h2) rfl
 iterate 3 refine zw (ct h249 hg12) ?_
 refine zh (ct h245 hg8) (g2 249 252 (jb false) (ct h249 hg12) (rf (.tup [])) fun h253=>g2 245 253 (jb false) (ct h245 hg8) h253 fun h254=>gm h254 fun h2=>gz [(2,_)] h2 ?_)
 rintro s h2
 refine .nsq (.ret ?_)
 obtain rfl:=oi h
 exact rrA (zf h2) rfl
def yc (F:Nat) (r3:(GR×LI)) (r4:(Int×Bool)) (r6:(LI×Bool)) (r8:(Int×Bool)) (r10:(S3 LI Int Bool)) (r12:(S3 LI Int Bool)) (r14:(Int×Bool))  (x19:Bool):Option Bool:=
 bif x19 then
  some false
 else
  bif (!r10.c) then
   some true
  else
   (wF F r3.1 r10.a).bind fun r20=>
   (wV F r3.1 r12.a).bind fun r21=>
   (w5 F r3.1).bind fun r22=>
   bif (r20.1 != r10.b) then
    y6 F r3 r10 r12 r22 true
   else
    bif (r21.1 != r12.b) then
     y6 F r3 r10 r12 r22 true
    else
     bif decide (r14.1 > r10.b) then
      y6 F r3 r10 r12 r22 true
     else
      bif r4.2 then
       bif decide (r4.1 < r10.b) then
        y6 F r3 r10 r12 r22 true
       else
        bif decide (r8.1 < r12.b) then
         y6 F r3 r10 r12 r22 true
        else
         (Ub F r6.1).bind fun r25=>
         y6 F r3 r10 r12 r22 (r25 != r8.1)
      else
       y6 F r3 r10 r12 r22 false
theorem uW (H:H3 D σ F) (r3:(GR×LI)) (r4:(Int×Bool)) (r6:(LI×Bool)) (r8:(Int×Bool)) (r10:(S3 LI Int Bool)) (r12:(S3 LI Int Bool)) (r14:(Int×Bool))  (x19:Bool) (s:Nat→V) (hs:zk [(2,jb false),(3,bG 3 r3.1),(5,ji r4.1),(6,jb r4.2),(9,eL r6.1),(13,ji r8.1),(17,eL r10.a),(18,ji r10.b),(19,jb r10.c),(23,eL r12.a),(24,ji r12.b),(29,ji r14.1),(186,jb x19)] s) (h:yc F r3 r4 r6 r8 r10 r12 r14  x19=some r):Run D σ (R3 r) (.nrm [.sq ztM,.sq zpt]) s:=by
 unfold yc at h
 obtain ⟨h2,h3,h5,h6,h9,h13,h17,h18,h19,h23,h24,h29,h186⟩:=hs
 refine .nsq (zg h186 h (fun h=>?_) (fun h=>?_))
 · refine .seq (rg (g0 (jb false) fun h2=>gq (.nsq (.ret ?_))))
   obtain rfl:=oi h
   exact rrA (zf h2) rfl
 refine .skip (.nsq (.seq (.seq (rg (gm h19 fun h187=>g1 187 (jb (!r10.c)) h187 fun h188=>gq (.nsq (zg h188 h (fun h=>?_) (fun h=>?_))))))))
 · refine .seq (rg (g0 (jb true) fun h2=>gq (.nsq (.ret ?_))))
   obtain rfl:=oi h
   exact rrA (zf h2) rfl
 refine .skip (.nsq (.seq (rg (g1 3 (gV r3.1) h3 fun h190=>gm h17 fun h191=>?_))))
 obtain ⟨r20,Er20,h⟩:=bind_some h
 refine zy (m:=0) (al:=false) (r:=.tup [Enc.enc (r20.1:Int),Enc.enc (r20.2:Bool)]) [Enc.enc (r3.1:GR),eL r10.a] (zc (v:=gV r3.1) h190 rfl (Enc.erase_enc (r3.1:GR)) (zc (v:=eL r10.a) h191 rfl (Enc.erase_enc (r10.a:LI)) zp)) (H.c6 _ _ _ Er20) H.g6 rfl rfl rfl rfl (gm (rf (.tup [ji r20.1,jb r20.2])) fun h189=>g1 189 (ji r20.1) h189 fun h193=>g1 189 (jb r20.2) h189 fun h194=>gm h193 fun h33=>gm h194 fun h34=>gq (.nsq (.seq (rg (g1 3 (gV r3.1) h3 fun h196=>gm h23 fun h197=>?_)))))
 obtain ⟨r21,Er21,h⟩:=bind_some h
 refine zy (m:=0) (al:=false) (r:=.tup [Enc.enc (r21.1:Int),Enc.enc (r21.2:Bool)]) [Enc.enc (r3.1:GR),eL r12.a] (zc (v:=gV r3.1) h196 rfl (Enc.erase_enc (r3.1:GR)) (zc (v:=eL r12.a) h197 rfl (Enc.erase_enc (r12.a:LI)) zp)) (H.c10 _ _ _ Er21) H.g10 rfl rfl rfl rfl (gm (rf (.tup [ji r21.1,jb r21.2])) fun h195=>g1 195 (ji r21.1) h195 fun h199=>g1 195 (jb r21.2) h195 fun h200=>gm h199 fun h35=>gm h200 fun h36=>gq (.nsq (.seq (rg (g1 3 (gV r3.1) h3 fun h202=>?_)))))
 obtain ⟨r22,Er22,h⟩:=bind_some h
 refine zy (m:=0) (al:=false) (r:=.tup [Enc.enc (r22.1:Int),Enc.enc (r22.2:Bool)]) [Enc.enc (r3.1:GR)] (zc (v:=gV r3.1) h202 rfl (Enc.erase_enc (r3.1:GR)) zp) (H.c19 _ _ Er22) H.g19 rfl rfl rfl rfl (gm (rf (.tup [ji r22.1,jb r22.2])) fun h201=>g1 201 (ji r22.1) h201 fun h204=>g1 201 (jb r22.2) h201 fun h205=>gm h204 fun h37=>gm h205 fun h38=>gq (.nsq (.seq (.seq (rg (gm h33 fun h206=>gm h18 fun h207=>g2 206 207 (jb (r20.1 != r10.b)) h206 h207 fun h208=>gm h208 fun h209=>zU h (fun hg4 h=>?_) (fun hg4 h=>?_)))))))
 · iterate 3 refine zw (ct h209 hg4) ?_
   refine g2 209 212 (jb true) (ct h209 hg4) (rf (.tup [])) fun h213=>gm h213 fun h214=>zw h214 ?_
   iterate 2 refine zw h214 ?_
   refine g2 214 217 (jb true) h214 (rf (.tup [])) fun h218=>gm h218 fun h219=>zw h219 (zw h219 ?_)
   iterate 14 refine ZV rfl ?_
   refine zw h219 (g2 219 236 (jb true) h219 (rf (.tup [])) fun h237=>gz [(2,_),(3,_),(18,_),(24,_),(37,_),(38,_),(237,_)] ⟨h2,h3,h18,h24,h37,h38,h237⟩ ?_)
   rintro s ⟨h2,h3,h18,h24,h37,h38,h237⟩
   exact Uc H r3 r10 r12 r22 true _ ⟨h2,h3,h18,h24,h37,h38,h237⟩ h
 refine zh (ct h209 hg4) (gm h35 fun h210=>zh (ct h209 hg4) (gm h24 fun h211=>zh (ct h209 hg4) (g2 210 211 (jb (r21.1 != r12.b)) h210 h211 fun h212=>g2 209 212 (jb (r21.1 != r12.b)) (ct h209 hg4) h212 fun h213=>gm h213 fun h214=>zU h (fun hg9 h=>?_) (fun hg9 h=>?_))))
 · iterate 3 refine zw (ct h214 hg9) ?_
   refine g2 214 217 (jb true) (ct h214 hg9) (rf (.tup [])) fun h218=>gm h218 fun h219=>zw h219 (zw h219 ?_)
   iterate 14 refine ZV rfl ?_
   refine zw h219 (g2 219 236 (jb true) h219 (rf (.tup [])) fun h237=>gz [(2,_),(3,_),(18,_),(24,_),(37,_),(38,_),(237,_)] ⟨h2,h3,h18,h24,h37,h38,h237⟩ ?_)
   rintro s ⟨h2,h3,h18,h24,h37,h38,h237⟩
   exact Uc H r3 r10 r12 r22 true _ ⟨h2,h3,h18,h24,h37,h38,h237⟩ h
 refine zh (ct h214 hg9) (gm h29 fun h215=>zh (ct h214 hg9) (gm h18 fun h216=>zh (ct h214 hg9) (g2 215 216 (jb (decide (r14.1 > r10.b))) h215 h216 fun h217=>g2 214 217 (jb (decide (r14.1 > r10.b))) (ct h214 hg9) h217 fun h218=>gm h218 fun h219=>zU h (fun hg14 h=>?_) (fun hg14 h=>?_))))
 · iterate 2 refine zw (ct h219 hg14) ?_
   iterate 14 refine ZV rfl ?_
   refine zw (ct h219 hg14) (g2 219 236 (jb true) (ct h219 hg14) (rf (.tup [])) fun h237=>gz [(2,_),(3,_),(18,_),(24,_),(37,_),(38,_),(237,_)] ⟨h2,h3,h18,h24,h37,h38,h237⟩ ?_)
   rintro s ⟨h2,h3,h18,h24,h37,h38,h237⟩
   exact Uc H r3 r10 r12 r22 true _ ⟨h2,h3,h18,h24,h37,h38,h237⟩ h
 refine zh (ct h219 hg14) (gm h6 fun h220=>zh (ct h219 hg14) (gm h220 fun h221=>zU h (fun hg16 h=>?_) (fun hg16 h=>?_)))
 · refine zh (ct h221 hg16) (gm h5 fun h222=>zh (ct h221 hg16) (gm h18 fun h223=>zh (ct h221 hg16) (g2 222 223 (jb (decide (r4.1 < r10.b))) h222 h223 fun h224=>zh (ct h221 hg16) (gm h224 fun h225=>zU h (fun hg20 h=>?_) (fun hg20 h=>?_)))))
   · iterate 3 refine zw (ct h225 hg20) ?_
     refine zh (ct h221 hg16) (g2 225 228 (jb true) (ct h225 hg20) (rf (.tup [])) fun h229=>zh (ct h221 hg16) (gm h229 fun h230=>?_))
     iterate 4 refine zw h230 ?_
     refine zh (ct h221 hg16) (g2 230 234 (jb true) h230 (rf (.tup [])) fun h235=>zh (ct h219 hg14) (g2 221 235 (jb true) (ct h221 hg16) h235 fun h236=>g2 219 236 (jb true) (ct h219 hg14) h236 fun h237=>gz [(2,_),(3,_),(18,_),(24,_),(37,_),(38,_),(237,_)] ⟨h2,h3,h18,h24,h37,h38,h237⟩ ?_))
     rintro s ⟨h2,h3,h18,h24,h37,h38,h237⟩
     exact Uc H r3 r10 r12 r22 true _ ⟨h2,h3,h18,h24,h37,h38,h237⟩ h
   refine zh (ct h225 hg20) (gm h13 fun h226=>zh (ct h225 hg20) (gm h24 fun h227=>zh (ct h225 hg20) (g2 226 227 (jb (decide (r8.1 < r12.b))) h226 h227 fun h228=>zh (ct h221 hg16) (g2 225 228 (jb (decide (r8.1 < r12.b))) (ct h225 hg20) h228 fun h229=>zh (ct h221 hg16) (gm h229 fun h230=>zU h (fun hg25 h=>?_) (fun hg25 h=>?_))))))
   · iterate 4 refine zw (ct h230 hg25) ?_
     refine zh (ct h221 hg16) (g2 230 234 (jb true) (ct h230 hg25) (rf (.tup [])) fun h235=>zh (ct h219 hg14) (g2 221 235 (jb true) (ct h221 hg16) h235 fun h236=>g2 219 236 (jb true) (ct h219 hg14) h236 fun h237=>gz [(2,_),(3,_),(18,_),(24,_),(37,_),(38,_),(237,_)] ⟨h2,h3,h18,h24,h37,h38,h237⟩ ?_))
     rintro s ⟨h2,h3,h18,h24,h37,h38,h237⟩
     exact Uc H r3 r10 r12 r22 true _ ⟨h2,h3,h18,h24,h37,h38,h237⟩ h
   refine zh (ct h230 hg25) (gm h9 fun h231=>?_)
   obtain ⟨r25,Er25,h⟩:=bind_some h
   refine zh (ct h230 hg25) (zy (m:=0) (al:=false) (r:=Enc.enc (r25:Int)) [eL r6.1] (zc (v:=eL r6.1) h231 rfl (Enc.erase_enc (r6.1:LI)) zp) (H.c20 _ _ Er25) H.g20 rfl rfl rfl rfl (zh (ct h230 hg25) (gm h13 fun h233=>zh (ct h230 hg25) (g2 232 233 (jb (r25 != r8.1)) (rf (ji r25)) h233 fun h234=>zh (ct h221 hg16) (g2 230 234 (jb (r25 != r8.1)) (ct h230 hg25) h234 fun h235=>zh (ct h219 hg14) (g2 221 235 (jb (r25 != r8.1)) (ct h221 hg16) h235 fun h236=>g2 219 236 (jb (r25 != r8.1)) (ct h219 hg14) h236 fun h237=>gz [(2,_),(3,_),(18,_),(24,_),(37,_),(38,_),(237,_)] ⟨h2,h3,h18,h24,h37,h38,h237⟩ ?_))))))
   rintro s ⟨h2,h3,h18,h24,h37,h38,h237⟩
   exact Uc H r3 r10 r12 r22 (r25 != r8.1) _ ⟨h2,h3,h18,h24,h37,h38,h237⟩ h
 iterate 4 refine zw (ct h221 hg16) ?_
 iterate 3 refine ZV rfl ?_
 iterate 2 refine zw (ct h221 hg16) ?_
 iterate 4 refine ZV rfl ?_
 refine zw (ct h221 hg16) (zh (ct h219 hg14) (g2 221 235 (jb false) (ct h221 hg16) (rf (.tup [])) fun h236=>g2 219 236 (jb false) (ct h219 hg14) h236 fun h237=>gz [(2,_),(3,_),(18,_),(24,_),(37,_),(38,_),(237,_)] ⟨h2,h3,h18,h24,h37,h38,h237⟩ ?_))
 rintro s ⟨h2,h3,h18,h24,h37,h38,h237⟩
 exact Uc H r3 r10 r12 r22 false _ ⟨h2,h3,h18,h24,h37,h38,h237⟩ h
def vc (F:Nat) (x1:LB):Option Bool:=
 (KX F x1).bind fun r2=>
 bif r2 then
  some true
 else
  (wa F x1).bind fun r3=>
  (wF F r3.1 r3.2).bind fun r4=>
  (vO F r3.1 r3.2).bind fun r5=>
  (YY F r3.1 r3.2).bind fun r6=>
  (Yh F r3.1 r3.2).bind fun r7=>
  (wV F r3.1 r3.2).bind fun r8=>
  (uC F r3.1 r3.2).bind fun r9=>
  (xU F r3.1).bind fun r10=>
  (xR F r3.1).bind fun r11=>
  (xu F r3.1).bind fun r12=>
  (xI F r3.1).bind fun r13=>
  (wB F r3.1).bind fun r14=>
  (wy F r3.1).bind fun r15=>
  bif (r4.1 != r5.1) then
   yc F r3 r4 r6 r8 r10 r12 r14 true
  else
   bif (r4.2 != r5.2) then
    yc F r3 r4 r6 r8 r10 r12 r14 true
   else
    bif (r6.2 != r7.2) then
     yc F r3 r4 r6 r8 r10 r12 r14 true
    else
     (Xn F r6.1 r7.1).bind fun r26=>
     bif (!r26) then
      yc F r3 r4 r6 r8 r10 r12 r14 true
     else
      bif (r8.1 != r9.1) then
       yc F r3 r4 r6 r8 r10 r12 r14 true
      else
       bif (r8.2 != r9.2) then
        yc F r3 r4 r6 r8 r10 r12 r14 true
       else
        bif (r10.c != r11.c) then
         yc F r3 r4 r6 r8 r10 r12 r14 true
        else
         bif (r10.b != r11.b) then
          yc F r3 r4 r6 r8 r10 r12 r14 true
         else
          (Xn F r10.a r11.a).bind fun r27=>
          bif (!r27) then
           yc F r3 r4 r6 r8 r10 r12 r14 true
          else
           bif (r12.c != r13.c) then
            yc F r3 r4 r6 r8 r10 r12 r14 true
           else
            bif (r12.b != r13.b) then
             yc F r3 r4 r6 r8 r10 r12 r14 true
            else
             (Xn F r12.a r13.a).bind fun r28=>
             bif (!r28) then
              yc F r3 r4 r6 r8 r10 r12 r14 true
             else
              bif (r14.1 != r15.1) then
               yc F r3 r4 r6 r8 r10 r12 r14 true
              else
               yc F r3 r4 r6 r8 r10 r12 r14 (r14.2 != r15.2)
theorem t3 (H:H3 D σ F) (x1:LB) (s:Nat→V) (hs:zk [(0,eB x1)] s) (h:vc F x1=some r):Run D σ (R3 r) (.run A3 []) s:=by
 unfold vc at h
 have h0:=hs
 refine .seq (rg (g0 (jb false) fun h2=>gq (.nsq (.seq (.seq (rg (gm h0 fun h39=>?_)))))))
 obtain ⟨r2,Er2,h⟩:=bind_some h
 refine zy (m:=0) (al:=false) (r:=Enc.enc (r2:Bool)) [Enc.enc (x1:LB)] (zc (v:=eB x1) h39 rfl (Enc.erase_enc (x1:LB)) zp) (H.c4 _ _ Er2) H.g4 rfl rfl rfl rfl (gq (.nsq (zg rfl h (fun h=>?_) (fun h=>?_))))
 · refine .seq (rg (g0 (jb true) fun h2=>gq (.nsq (.ret ?_))))
   obtain rfl:=oi h
   exact rrA (zf h2) rfl
 refine .skip (.nsq (.seq (zo (zT ?_))))
 refine ez [(0,_),(2,_),(3,_)] ⟨za h0 rfl me,za h2 rfl mb,zb rfl⟩ ?_
 rintro s ⟨h0,h2,h3⟩
 refine gm h0 fun h42=>?_
 obtain ⟨r3,Er3,h⟩:=bind_some h
 refine zy (m:=0) (al:=true) (r:=.tup [Enc.enc (r3.1:GR),eL r3.2]) [Enc.enc (x1:LB)] (zc (v:=eB x1) h42 rfl (Enc.erase_enc (x1:LB)) zp) (H.c5 _ _ Er3) H.g5 (X0 (vp (v:=eB x1) h42 rfl rfl XO)) rfl rfl rfl (gm (rf (.tup [gV r3.1,eL r3.2])) fun h41=>g1 41 (gV r3.1) h41 fun h44=>g1 41 (eL r3.2) h41 fun h45=>wk h3 (yd (gV r3.1) (zx rfl rfl) (zx h44 rfl) (ww (by first | rfl | simp [V.toks,V.tokss,Enc.toks_enc,ya])) (gm (zd h45 uE) fun h4=>gz [(2,jb false),(3,bG 3 r3.1),(4,_)] ⟨zd h2 rfl,zd rfl rfl,h4⟩ ?_)))
 rintro s ⟨h2,h3,h4⟩
 refine .nsq (.seq (rg (g1 3 (gV r3.1) h3 fun h47=>gm h4 fun h48=>?_)))
 obtain ⟨r4,Er4,h⟩:=bind_some h
 refine zy (m:=0) (al:=false) (r:=.tup [Enc.enc (r4.1:Int),Enc.enc (r4.2:Bool)]) [Enc.enc (r3.1:GR),eL r3.2] (zc (v:=gV r3.1) h47 rfl (Enc.erase_enc (r3.1:GR)) (zc (v:=eL r3.2) h48 rfl (Enc.erase_enc (r3.2:LI)) zp)) (H.c6 _ _ _ Er4) H.g6 rfl rfl rfl rfl (gm (rf (.tup [ji r4.1,jb r4.2])) fun h46=>g1 46 (ji r4.1) h46 fun h50=>g1 46 (jb r4.2) h46 fun h51=>gm h50 fun h5=>gm h51 fun h6=>gq (.nsq (.seq (rg (g1 3 (gV r3.1) h3 fun h53=>gm h4 fun h54=>?_)))))
 obtain ⟨r5,Er5,h⟩:=bind_some h
 refine zy (m:=0) (al:=false) (r:=.tup [Enc.enc (r5.1:Int),Enc.enc (r5.2:Bool)]) [Enc.enc (r3.1:GR),eL r3.2] (zc (v:=gV r3.1) h53 rfl (Enc.erase_enc (r3.1:GR)) (zc (v:=eL r3.2) h54 rfl (Enc.erase_enc (r3.2:LI)) zp)) (H.c7 _ _ _ Er5) H.g7 rfl rfl rfl rfl (gm (rf (.tup [ji r5.1,jb r5.2])) fun h52=>g1 52 (ji r5.1) h52 fun h56=>g1 52 (jb r5.2) h52 fun h57=>gm h56 fun h7=>gm h57 fun h8=>gq (.nsq (.seq (rg (g1 3 (gV r3.1) h3 fun h59=>gm h4 fun h60=>?_)))))
 obtain ⟨r6,Er6,h⟩:=bind_some h
 refine zy (m:=0) (al:=true) (r:=.tup [eL r6.1,Enc.enc (r6.2:Bool)]) [Enc.enc (r3.1:GR),eL r3.2] (zc (v:=gV r3.1) h59 rfl (Enc.erase_enc (r3.1:GR)) (zc (v:=eL r3.2) h60 rfl (Enc.erase_enc (r3.2:LI)) zp)) (H.c8 _ _ _ Er6) H.g8 (X0 (vp (v:=gV r3.1) h59 rfl rfl (vp (v:=eL r3.2) h60 rfl rfl XO))) rfl rfl rfl (gm (rf (.tup [eL r6.1,jb r6.2])) fun h58=>g1 58 (eL r6.1) h58 fun h62=>g1 58 (jb r6.2) h58 fun h63=>gm h62 fun h9=>gm h63 fun h10=>gq (.nsq (.seq (rg (g1 3 (gV r3.1) h3 fun h65=>gm h4 fun h66=>?_)))))
 obtain ⟨r7,Er7,h⟩:=bind_some h
 refine zy (m:=0) (al:=true) (r:=.tup [eL r7.1,Enc.enc (r7.2:Bool)]) [Enc.enc (r3.1:GR),eL r3.2] (zc (v:=gV r3.1) h65 rfl (Enc.erase_enc (r3.1:GR)) (zc (v:=eL r3.2) h66 rfl (Enc.erase_enc (r3.2:LI)) zp)) (H.c9 _ _ _ Er7) H.g9 (X0 (vp (v:=gV r3.1) h65 rfl rfl (vp (v:=eL r3.2) h66 rfl rfl XO))) rfl rfl rfl (gm (rf (.tup [eL r7.1,jb r7.2])) fun h64=>g1 64 (eL r7.1) h64 fun h68=>g1 64 (jb r7.2) h64 fun h69=>gm h68 fun h11=>gm h69 fun h12=>gz [(2,_),(3,_),(4,_),(5,_),(6,_),(7,_),(8,_),(9,_),(10,_),(11,_),(12,_)] ⟨h2,h3,h4,h5,h6,h7,h8,h9,h10,h11,h12⟩ ?_)
 rintro s ⟨h2,h3,h4,h5,h6,h7,h8,h9,h10,h11,h12⟩
 refine .nsq (.seq (rg (g1 3 (gV r3.1) h3 fun h71=>gm h4 fun h72=>?_)))
 obtain ⟨r8,Er8,h⟩:=bind_some h
 refine zy (m:=0) (al:=false) (r:=.tup [Enc.enc (r8.1:Int),Enc.enc (r8.2:Bool)]) [Enc.enc (r3.1:GR),eL r3.2] (zc (v:=gV r3.1) h71 rfl (Enc.erase_enc (r3.1:GR)) (zc (v:=eL r3.2) h72 rfl (Enc.erase_enc (r3.2:LI)) zp)) (H.c10 _ _ _ Er8) H.g10 rfl rfl rfl rfl (gm (rf (.tup [ji r8.1,jb r8.2])) fun h70=>g1 70 (ji r8.1) h70 fun h74=>g1 70 (jb r8.2) h70 fun h75=>gm h74 fun h13=>gm h75 fun h14=>gq (.nsq (.seq (rg (g1 3 (gV r3.1) h3 fun h77=>gm h4 fun h78=>?_)))))
 obtain ⟨r9,Er9,h⟩:=bind_some h
 refine zy (m:=0) (al:=false) (r:=.tup [Enc.enc (r9.1:Int),Enc.enc (r9.2:Bool)]) [Enc.enc (r3.1:GR),eL r3.2] (zc (v:=gV r3.1) h77 rfl (Enc.erase_enc (r3.1:GR)) (zc (v:=eL r3.2) h78 rfl (Enc.erase_enc (r3.2:LI)) zp)) (H.c11 _ _ _ Er9) H.g11 rfl rfl rfl rfl (gm (rf (.tup [ji r9.1,jb r9.2])) fun h76=>g1 76 (ji r9.1) h76 fun h80=>g1 76 (jb r9.2) h76 fun h81=>gm h80 fun h15=>gm h81 fun h16=>gq (.nsq (.seq (rg (g1 3 (gV r3.1) h3 fun h83=>?_)))))
 obtain ⟨r10,Er10,h⟩:=bind_some h
 refine zy (m:=0) (al:=true) (r:=.tup [eL r10.a,Enc.enc (r10.b:Int),Enc.enc (r10.c:Bool)]) [Enc.enc (r3.1:GR)] (zc (v:=gV r3.1) h83 rfl (Enc.erase_enc (r3.1:GR)) zp) (H.c12 _ _ Er10) H.g12 (X0 (vp (v:=gV r3.1) h83 rfl rfl XO)) rfl rfl rfl (gm (rf (.tup [eL r10.a,ji r10.b,jb r10.c])) fun h82=>g1 82 (eL r10.a) h82 fun h85=>g1 82 (ji r10.b) h82 fun h86=>g1 82 (jb r10.c) h82 fun h87=>gm h85 fun h17=>gm h86 fun h18=>gm h87 fun h19=>gq (.nsq (.seq (rg (g1 3 (gV r3.1) h3 fun h89=>?_)))))
 obtain ⟨r11,Er11,h⟩:=bind_some h
 refine zy (m:=0) (al:=true) (r:=.tup [eL r11.a,Enc.enc (r11.b:Int),Enc.enc (r11.c:Bool)]) [Enc.enc (r3.1:GR)] (zc (v:=gV r3.1) h89 rfl (Enc.erase_enc (r3.1:GR)) zp) (H.c13 _ _ Er11) H.g13 (X0 (vp (v:=gV r3.1) h89 rfl rfl XO)) rfl rfl rfl (gm (rf (.tup [eL r11.a,ji r11.b,jb r11.c])) fun h88=>g1 88 (eL r11.a) h88 fun h91=>g1 88 (ji r11.b) h88 fun h92=>g1 88 (jb r11.c) h88 fun h93=>?_)
 refine gm h91 fun h20=>gm h92 fun h21=>gm h93 fun h22=>gz [(2,_),(3,_),(5,_),(6,_),(7,_),(8,_),(9,_),(10,_),(11,_),(12,_),(13,_),(14,_),(15,_),(16,_),(17,_),(18,_),(19,_),(20,_),(21,_),(22,_)] ⟨h2,h3,h5,h6,h7,h8,h9,h10,h11,h12,h13,h14,h15,h16,h17,h18,h19,h20,h21,h22⟩ ?_
 rintro s ⟨h2,h3,h5,h6,h7,h8,h9,h10,h11,h12,h13,h14,h15,h16,h17,h18,h19,h20,h21,h22⟩
 refine .nsq (.seq (rg (g1 3 (gV r3.1) h3 fun h95=>?_)))
 obtain ⟨r12,Er12,h⟩:=bind_some h
 refine zy (m:=0) (al:=true) (r:=.tup [eL r12.a,Enc.enc (r12.b:Int),Enc.enc (r12.c:Bool)]) [Enc.enc (r3.1:GR)] (zc (v:=gV r3.1) h95 rfl (Enc.erase_enc (r3.1:GR)) zp) (H.c14 _ _ Er12) H.g14 (X0 (vp (v:=gV r3.1) h95 rfl rfl XO)) rfl rfl rfl (gm (rf (.tup [eL r12.a,ji r12.b,jb r12.c])) fun h94=>g1 94 (eL r12.a) h94 fun h97=>g1 94 (ji r12.b) h94 fun h98=>g1 94 (jb r12.c) h94 fun h99=>gm h97 fun h23=>gm h98 fun h24=>gm h99 fun h25=>gq (.nsq (.seq (rg (g1 3 (gV r3.1) h3 fun h101=>?_)))))
 obtain ⟨r13,Er13,h⟩:=bind_some h
 refine zy (m:=0) (al:=false) (r:=.tup [eL r13.a,Enc.enc (r13.b:Int),Enc.enc (r13.c:Bool)]) [Enc.enc (r3.1:GR)] (zc (v:=gV r3.1) h101 rfl (Enc.erase_enc (r3.1:GR)) zp) (H.c15 _ _ Er13) H.g15 rfl rfl rfl rfl (gm (rf (.tup [eL r13.a,ji r13.b,jb r13.c])) fun h100=>g1 100 (eL r13.a) h100 fun h103=>g1 100 (ji r13.b) h100 fun h104=>g1 100 (jb r13.c) h100 fun h105=>gm h103 fun h26=>gm h104 fun h27=>gm h105 fun h28=>gq (.nsq (.seq (rg (g1 3 (gV r3.1) h3 fun h107=>?_)))))
 obtain ⟨r14,Er14,h⟩:=bind_some h
 refine zy (m:=0) (al:=false) (r:=.tup [Enc.enc (r14.1:Int),Enc.enc (r14.2:Bool)]) [Enc.enc (r3.1:GR)] (zc (v:=gV r3.1) h107 rfl (Enc.erase_enc (r3.1:GR)) zp) (H.c16 _ _ Er14) H.g16 rfl rfl rfl rfl (gm (rf (.tup [ji r14.1,jb r14.2])) fun h106=>g1 106 (ji r14.1) h106 fun h109=>g1 106 (jb r14.2) h106 fun h110=>gm h109 fun h29=>gm h110 fun h30=>gq (.nsq (.seq (rg (g1 3 (gV r3.1) h3 fun h112=>?_)))))
 obtain ⟨r15,Er15,h⟩:=bind_some h
 refine zy (m:=0) (al:=false) (r:=.tup [Enc.enc (r15.1:Int),Enc.enc (r15.2:Bool)]) [Enc.enc (r3.1:GR)] (zc (v:=gV r3.1) h112 rfl (Enc.erase_enc (r3.1:GR)) zp) (H.c17 _ _ Er15) H.g17 rfl rfl rfl rfl (gm (rf (.tup [ji r15.1,jb r15.2])) fun h111=>g1 111 (ji r15.1) h111 fun h114=>g1 111 (jb r15.2) h111 fun h115=>?_)
 refine gm h114 fun h31=>gm h115 fun h32=>gz [(2,_),(3,_),(5,_),(6,_),(7,_),(8,_),(9,_),(10,_),(11,_),(12,_),(13,_),(14,_),(15,_),(16,_),(17,_),(18,_),(19,_),(20,_),(21,_),(22,_),(23,_),(24,_),(25,_),(26,_),(27,_),(28,_),(29,_),(30,_),(31,_),(32,_)] ⟨h2,h3,h5,h6,h7,h8,h9,h10,h11,h12,h13,h14,h15,h16,h17,h18,h19,h20,h21,h22,h23,h24,h25,h26,h27,h28,h29,h30,h31,h32⟩ ?_
 rintro s ⟨h2,h3,h5,h6,h7,h8,h9,h10,h11,h12,h13,h14,h15,h16,h17,h18,h19,h20,h21,h22,h23,h24,h25,h26,h27,h28,h29,h30,h31,h32⟩
 refine .nsq (.seq (.seq (rg (gm h5 fun h116=>gm h7 fun h117=>g2 116 117 (jb (r4.1 != r5.1)) h116 h117 fun h118=>gm h118 fun h119=>zU h (fun hg4 h=>?_) (fun hg4 h=>?_)))))
 · iterate 3 refine zw (ct h119 hg4) ?_
   refine g2 119 122 (jb true) (ct h119 hg4) (rf (.tup [])) fun h123=>gm h123 fun h124=>zw h124 ?_
   iterate 2 refine zw h124 ?_
   refine g2 124 127 (jb true) h124 (rf (.tup [])) fun h128=>gm h128 fun h129=>zw h129 ?_
   iterate 3 refine zw h129 ?_
   refine g2 129 133 (jb true) h129 (rf (.tup [])) fun h134=>gm h134 fun h135=>zw h135 ?_
   iterate 2 refine zw h135 ?_
   refine g2 135 138 (jb true) h135 (rf (.tup [])) fun h139=>gm h139 fun h140=>zw h140 ?_
   iterate 2 refine zw h140 ?_
   refine g2 140 143 (jb true) h140 (rf (.tup [])) fun h144=>gm h144 fun h145=>zw h145 ?_
   iterate 2 refine zw h145 ?_
   refine g2 145 148 (jb true) h145 (rf (.tup [])) fun h149=>gm h149 fun h150=>zw h150 ?_
   iterate 2 refine zw h150 ?_
   refine g2 150 153 (jb true) h150 (rf (.tup [])) fun h154=>gm h154 fun h155=>zw h155 ?_
   iterate 3 refine zw h155 ?_
   refine g2 155 159 (jb true) h155 (rf (.tup [])) fun h160=>gm h160 fun h161=>zw h161 ?_
   iterate 2 refine zw h161 ?_
   refine g2 161 164 (jb true) h161 (rf (.tup [])) fun h165=>gm h165 fun h166=>zw h166 ?_
   iterate 2 refine zw h166 ?_
   refine g2 166 169 (jb true) h166 (rf (.tup [])) fun h170=>gm h170 fun h171=>zw h171 ?_
   iterate 3 refine zw h171 ?_
   refine g2 171 175 (jb true) h171 (rf (.tup [])) fun h176=>gm h176 fun h177=>zw h177 ?_
   iterate 2 refine zw h177 ?_
   refine g2 177 180 (jb true) h177 (rf (.tup [])) fun h181=>gm h181 fun h182=>zw h182 ?_
   iterate 2 refine zw h182 ?_
   refine g2 182 185 (jb true) h182 (rf (.tup [])) fun h186=>gz [(2,_),(3,_),(5,_),(6,_),(9,_),(13,_),(17,_),(18,_),(19,_),(23,_),(24,_),(29,_),(186,_)] ⟨h2,h3,h5,h6,h9,h13,h17,h18,h19,h23,h24,h29,h186⟩ ?_
   rintro s ⟨h2,h3,h5,h6,h9,h13,h17,h18,h19,h23,h24,h29,h186⟩
   exact uW H r3 r4 r6 r8 r10 r12 r14 true _ ⟨h2,h3,h5,h6,h9,h13,h17,h18,h19,h23,h24,h29,h186⟩ h
 refine zh (ct h119 hg4) (gm h6 fun h120=>zh (ct h119 hg4) (gm h8 fun h121=>zh (ct h119 hg4) (g2 120 121 (jb (r4.2 != r5.2)) h120 h121 fun h122=>g2 119 122 (jb (r4.2 != r5.2)) (ct h119 hg4) h122 fun h123=>gm h123 fun h124=>zU h (fun hg9 h=>?_) (fun hg9 h=>?_))))
 · iterate 3 refine zw (ct h124 hg9) ?_
   refine g2 124 127 (jb true) (ct h124 hg9) (rf (.tup [])) fun h128=>gm h128 fun h129=>zw h129 ?_
   iterate 3 refine zw h129 ?_
   refine g2 129 133 (jb true) h129 (rf (.tup [])) fun h134=>gm h134 fun h135=>zw h135 ?_
   iterate 2 refine zw h135 ?_
   refine g2 135 138 (jb true) h135 (rf (.tup [])) fun h139=>gm h139 fun h140=>zw h140 ?_
   iterate 2 refine zw h140 ?_
   refine g2 140 143 (jb true) h140 (rf (.tup [])) fun h144=>gm h144 fun h145=>zw h145 ?_
   iterate 2 refine zw h145 ?_
   refine g2 145 148 (jb true) h145 (rf (.tup [])) fun h149=>gm h149 fun h150=>zw h150 ?_
   iterate 2 refine zw h150 ?_
   refine g2 150 153 (jb true) h150 (rf (.tup [])) fun h154=>gm h154 fun h155=>zw h155 ?_
   iterate 3 refine zw h155 ?_
   refine g2 155 159 (jb true) h155 (rf (.tup [])) fun h160=>gm h160 fun h161=>zw h161 ?_
   iterate 2 refine zw h161 ?_
   refine g2 161 164 (jb true) h161 (rf (.tup [])) fun h165=>gm h165 fun h166=>zw h166 ?_
   iterate 2 refine zw h166 ?_
   refine g2 166 169 (jb true) h166 (rf (.tup [])) fun h170=>gm h170 fun h171=>zw h171 ?_
   iterate 3 refine zw h171 ?_
   refine g2 171 175 (jb true) h171 (rf (.tup [])) fun h176=>gm h176 fun h177=>zw h177 ?_
   iterate 2 refine zw h177 ?_
   refine g2 177 180 (jb true) h177 (rf (.tup [])) fun h181=>gm h181 fun h182=>zw h182 ?_
   iterate 2 refine zw h182 ?_
   refine g2 182 185 (jb true) h182 (rf (.tup [])) fun h186=>gz [(2,_),(3,_),(5,_),(6,_),(9,_),(13,_),(17,_),(18,_),(19,_),(23,_),(24,_),(29,_),(186,_)] ⟨h2,h3,h5,h6,h9,h13,h17,h18,h19,h23,h24,h29,h186⟩ ?_
   rintro s ⟨h2,h3,h5,h6,h9,h13,h17,h18,h19,h23,h24,h29,h186⟩
   exact uW H r3 r4 r6 r8 r10 r12 r14 true _ ⟨h2,h3,h5,h6,h9,h13,h17,h18,h19,h23,h24,h29,h186⟩ h
 refine zh (ct h124 hg9) (gm h10 fun h125=>zh (ct h124 hg9) (gm h12 fun h126=>zh (ct h124 hg9) (g2 125 126 (jb (r6.2 != r7.2)) h125 h126 fun h127=>g2 124 127 (jb (r6.2 != r7.2)) (ct h124 hg9) h127 fun h128=>gm h128 fun h129=>zU h (fun hg14 h=>?_) (fun hg14 h=>?_))))
 · iterate 4 refine zw (ct h129 hg14) ?_
   refine g2 129 133 (jb true) (ct h129 hg14) (rf (.tup [])) fun h134=>gm h134 fun h135=>zw h135 ?_
   iterate 2 refine zw h135 ?_
   refine g2 135 138 (jb true) h135 (rf (.tup [])) fun h139=>gm h139 fun h140=>zw h140 ?_
   iterate 2 refine zw h140 ?_
   refine g2 140 143 (jb true) h140 (rf (.tup [])) fun h144=>gm h144 fun h145=>zw h145 ?_
   iterate 2 refine zw h145 ?_
   refine g2 145 148 (jb true) h145 (rf (.tup [])) fun h149=>gm h149 fun h150=>zw h150 ?_
   iterate 2 refine zw h150 ?_
   refine g2 150 153 (jb true) h150 (rf (.tup [])) fun h154=>gm h154 fun h155=>zw h155 ?_
   iterate 3 refine zw h155 ?_
   refine g2 155 159 (jb true) h155 (rf (.tup [])) fun h160=>gm h160 fun h161=>zw h161 ?_
   iterate 2 refine zw h161 ?_
   refine g2 161 164 (jb true) h161 (rf (.tup [])) fun h165=>gm h165 fun h166=>zw h166 ?_
   iterate 2 refine zw h166 ?_
   refine g2 166 169 (jb true) h166 (rf (.tup [])) fun h170=>gm h170 fun h171=>zw h171 ?_
   iterate 3 refine zw h171 ?_
   refine g2 171 175 (jb true) h171 (rf (.tup [])) fun h176=>gm h176 fun h177=>zw h177 ?_
   iterate 2 refine zw h177 ?_
   refine g2 177 180 (jb true) h177 (rf (.tup [])) fun h181=>gm h181 fun h182=>zw h182 ?_
   iterate 2 refine zw h182 ?_
   refine g2 182 185 (jb true) h182 (rf (.tup [])) fun h186=>gz [(2,_),(3,_),(5,_),(6,_),(9,_),(13,_),(17,_),(18,_),(19,_),(23,_),(24,_),(29,_),(186,_)] ⟨h2,h3,h5,h6,h9,h13,h17,h18,h19,h23,h24,h29,h186⟩ ?_
   rintro s ⟨h2,h3,h5,h6,h9,h13,h17,h18,h19,h23,h24,h29,h186⟩
   exact uW H r3 r4 r6 r8 r10 r12 r14 true _ ⟨h2,h3,h5,h6,h9,h13,h17,h18,h19,h23,h24,h29,h186⟩ h
 refine zh (ct h129 hg14) (gm h9 fun h130=>zh (ct h129 hg14) (gm h11 fun h131=>?_))
 obtain ⟨r26,Er26,h⟩:=bind_some h
 refine zh (ct h129 hg14) (zy (m:=0) (al:=false) (r:=Enc.enc (r26:Bool)) [eL r6.1,eL r7.1] (zc (v:=eL r6.1) h130 rfl (Enc.erase_enc (r6.1:LI)) (zc (v:=eL r7.1) h131 rfl (Enc.erase_enc (r7.1:LI)) zp)) (H.c18 _ _ _ Er26) H.g18 rfl rfl rfl rfl (zh (ct h129 hg14) (g1 132 (jb (!r26)) (rf (jb r26)) fun h133=>g2 129 133 (jb (!r26)) (ct h129 hg14) h133 fun h134=>gm h134 fun h135=>zU h (fun hg20 h=>?_) (fun hg20 h=>?_))))
 · iterate 3 refine zw (ct h135 hg20) ?_
   refine g2 135 138 (jb true) (ct h135 hg20) (rf (.tup [])) fun h139=>gm h139 fun h140=>zw h140 ?_
   iterate 2 refine zw h140 ?_
   refine g2 140 143 (jb true) h140 (rf (.tup [])) fun h144=>gm h144 fun h145=>zw h145 ?_
   iterate 2 refine zw h145 ?_
   refine g2 145 148 (jb true) h145 (rf (.tup [])) fun h149=>gm h149 fun h150=>zw h150 ?_
   iterate 2 refine zw h150 ?_
   refine g2 150 153 (jb true) h150 (rf (.tup [])) fun h154=>gm h154 fun h155=>zw h155 ?_
   iterate 3 refine zw h155 ?_
   refine g2 155 159 (jb true) h155 (rf (.tup [])) fun h160=>gm h160 fun h161=>zw h161 ?_
   iterate 2 refine zw h161 ?_
   refine g2 161 164 (jb true) h161 (rf (.tup [])) fun h165=>gm h165 fun h166=>zw h166 ?_
   iterate 2 refine zw h166 ?_
   refine g2 166 169 (jb true) h166 (rf (.tup [])) fun h170=>gm h170 fun h171=>zw h171 ?_
   iterate 3 refine zw h171 ?_
   refine g2 171 175 (jb true) h171 (rf (.tup [])) fun h176=>gm h176 fun h177=>zw h177 ?_
   iterate 2 refine zw h177 ?_
   refine g2 177 180 (jb true) h177 (rf (.tup [])) fun h181=>gm h181 fun h182=>zw h182 ?_
   iterate 2 refine zw h182 ?_
   refine g2 182 185 (jb true) h182 (rf (.tup [])) fun h186=>gz [(2,_),(3,_),(5,_),(6,_),(9,_),(13,_),(17,_),(18,_),(19,_),(23,_),(24,_),(29,_),(186,_)] ⟨h2,h3,h5,h6,h9,h13,h17,h18,h19,h23,h24,h29,h186⟩ ?_
   rintro s ⟨h2,h3,h5,h6,h9,h13,h17,h18,h19,h23,h24,h29,h186⟩
   exact uW H r3 r4 r6 r8 r10 r12 r14 true _ ⟨h2,h3,h5,h6,h9,h13,h17,h18,h19,h23,h24,h29,h186⟩ h
 refine zh (ct h135 hg20) (gm h13 fun h136=>zh (ct h135 hg20) (gm h15 fun h137=>zh (ct h135 hg20) (g2 136 137 (jb (r8.1 != r9.1)) h136 h137 fun h138=>g2 135 138 (jb (r8.1 != r9.1)) (ct h135 hg20) h138 fun h139=>gm h139 fun h140=>zU h (fun hg25 h=>?_) (fun hg25 h=>?_))))
 · iterate 3 refine zw (ct h140 hg25) ?_
   refine g2 140 143 (jb true) (ct h140 hg25) (rf (.tup [])) fun h144=>gm h144 fun h145=>zw h145 ?_
   iterate 2 refine zw h145 ?_
   refine g2 145 148 (jb true) h145 (rf (.tup [])) fun h149=>gm h149 fun h150=>zw h150 ?_
   iterate 2 refine zw h150 ?_
   refine g2 150 153 (jb true) h150 (rf (.tup [])) fun h154=>gm h154 fun h155=>zw h155 ?_
   iterate 3 refine zw h155 ?_
   refine g2 155 159 (jb true) h155 (rf (.tup [])) fun h160=>gm h160 fun h161=>zw h161 ?_
   iterate 2 refine zw h161 ?_
   refine g2 161 164 (jb true) h161 (rf (.tup [])) fun h165=>gm h165 fun h166=>zw h166 ?_
   iterate 2 refine zw h166 ?_
   refine g2 166 169 (jb true) h166 (rf (.tup [])) fun h170=>gm h170 fun h171=>zw h171 ?_
   iterate 3 refine zw h171 ?_
   refine g2 171 175 (jb true) h171 (rf (.tup [])) fun h176=>gm h176 fun h177=>zw h177 ?_
   iterate 2 refine zw h177 ?_
   refine g2 177 180 (jb true) h177 (rf (.tup [])) fun h181=>gm h181 fun h182=>zw h182 ?_
   iterate 2 refine zw h182 ?_
   refine g2 182 185 (jb true) h182 (rf (.tup [])) fun h186=>gz [(2,_),(3,_),(5,_),(6,_),(9,_),(13,_),(17,_),(18,_),(19,_),(23,_),(24,_),(29,_),(186,_)] ⟨h2,h3,h5,h6,h9,h13,h17,h18,h19,h23,h24,h29,h186⟩ ?_
   rintro s ⟨h2,h3,h5,h6,h9,h13,h17,h18,h19,h23,h24,h29,h186⟩
   exact uW H r3 r4 r6 r8 r10 r12 r14 true _ ⟨h2,h3,h5,h6,h9,h13,h17,h18,h19,h23,h24,h29,h186⟩ h
 refine zh (ct h140 hg25) (gm h14 fun h141=>zh (ct h140 hg25) (gm h16 fun h142=>zh (ct h140 hg25) (g2 141 142 (jb (r8.2 != r9.2)) h141 h142 fun h143=>g2 140 143 (jb (r8.2 != r9.2)) (ct h140 hg25) h143 fun h144=>gm h144 fun h145=>zU h (fun hg30 h=>?_) (fun hg30 h=>?_))))
 · iterate 3 refine zw (ct h145 hg30) ?_
   refine g2 145 148 (jb true) (ct h145 hg30) (rf (.tup [])) fun h149=>gm h149 fun h150=>zw h150 ?_
   iterate 2 refine zw h150 ?_
   refine g2 150 153 (jb true) h150 (rf (.tup [])) fun h154=>gm h154 fun h155=>zw h155 ?_
   iterate 3 refine zw h155 ?_
   refine g2 155 159 (jb true) h155 (rf (.tup [])) fun h160=>gm h160 fun h161=>zw h161 ?_
   iterate 2 refine zw h161 ?_
   refine g2 161 164 (jb true) h161 (rf (.tup [])) fun h165=>gm h165 fun h166=>zw h166 ?_
   iterate 2 refine zw h166 ?_
   refine g2 166 169 (jb true) h166 (rf (.tup [])) fun h170=>gm h170 fun h171=>zw h171 ?_
   iterate 3 refine zw h171 ?_
   refine g2 171 175 (jb true) h171 (rf (.tup [])) fun h176=>gm h176 fun h177=>zw h177 ?_
   iterate 2 refine zw h177 ?_
   refine g2 177 180 (jb true) h177 (rf (.tup [])) fun h181=>gm h181 fun h182=>zw h182 ?_
   iterate 2 refine zw h182 ?_
   refine g2 182 185 (jb true) h182 (rf (.tup [])) fun h186=>gz [(2,_),(3,_),(5,_),(6,_),(9,_),(13,_),(17,_),(18,_),(19,_),(23,_),(24,_),(29,_),(186,_)] ⟨h2,h3,h5,h6,h9,h13,h17,h18,h19,h23,h24,h29,h186⟩ ?_
   rintro s ⟨h2,h3,h5,h6,h9,h13,h17,h18,h19,h23,h24,h29,h186⟩
   exact uW H r3 r4 r6 r8 r10 r12 r14 true _ ⟨h2,h3,h5,h6,h9,h13,h17,h18,h19,h23,h24,h29,h186⟩ h
 refine zh (ct h145 hg30) (gm h19 fun h146=>zh (ct h145 hg30) (gm h22 fun h147=>zh (ct h145 hg30) (g2 146 147 (jb (r10.c != r11.c)) h146 h147 fun h148=>g2 145 148 (jb (r10.c != r11.c)) (ct h145 hg30) h148 fun h149=>gm h149 fun h150=>zU h (fun hg35 h=>?_) (fun hg35 h=>?_))))
 · iterate 3 refine zw (ct h150 hg35) ?_
   refine g2 150 153 (jb true) (ct h150 hg35) (rf (.tup [])) fun h154=>gm h154 fun h155=>zw h155 ?_
   iterate 3 refine zw h155 ?_
   refine g2 155 159 (jb true) h155 (rf (.tup [])) fun h160=>gm h160 fun h161=>zw h161 ?_
   iterate 2 refine zw h161 ?_
   refine g2 161 164 (jb true) h161 (rf (.tup [])) fun h165=>gm h165 fun h166=>zw h166 ?_
   iterate 2 refine zw h166 ?_
   refine g2 166 169 (jb true) h166 (rf (.tup [])) fun h170=>gm h170 fun h171=>zw h171 ?_
   iterate 3 refine zw h171 ?_
   refine g2 171 175 (jb true) h171 (rf (.tup [])) fun h176=>gm h176 fun h177=>zw h177 ?_
   iterate 2 refine zw h177 ?_
   refine g2 177 180 (jb true) h177 (rf (.tup [])) fun h181=>gm h181 fun h182=>zw h182 ?_
   iterate 2 refine zw h182 ?_
   refine g2 182 185 (jb true) h182 (rf (.tup [])) fun h186=>gz [(2,_),(3,_),(5,_),(6,_),(9,_),(13,_),(17,_),(18,_),(19,_),(23,_),(24,_),(29,_),(186,_)] ⟨h2,h3,h5,h6,h9,h13,h17,h18,h19,h23,h24,h29,h186⟩ ?_
   rintro s ⟨h2,h3,h5,h6,h9,h13,h17,h18,h19,h23,h24,h29,h186⟩
   exact uW H r3 r4 r6 r8 r10 r12 r14 true _ ⟨h2,h3,h5,h6,h9,h13,h17,h18,h19,h23,h24,h29,h186⟩ h
 refine zh (ct h150 hg35) (gm h18 fun h151=>zh (ct h150 hg35) (gm h21 fun h152=>zh (ct h150 hg35) (g2 151 152 (jb (r10.b != r11.b)) h151 h152 fun h153=>g2 150 153 (jb (r10.b != r11.b)) (ct h150 hg35) h153 fun h154=>gm h154 fun h155=>zU h (fun hg40 h=>?_) (fun hg40 h=>?_))))
 · iterate 4 refine zw (ct h155 hg40) ?_
   refine g2 155 159 (jb true) (ct h155 hg40) (rf (.tup [])) fun h160=>gm h160 fun h161=>zw h161 ?_
   iterate 2 refine zw h161 ?_
   refine g2 161 164 (jb true) h161 (rf (.tup [])) fun h165=>gm h165 fun h166=>zw h166 ?_
   iterate 2 refine zw h166 ?_
   refine g2 166 169 (jb true) h166 (rf (.tup [])) fun h170=>gm h170 fun h171=>zw h171 ?_
   iterate 3 refine zw h171 ?_
   refine g2 171 175 (jb true) h171 (rf (.tup [])) fun h176=>gm h176 fun h177=>zw h177 ?_
   iterate 2 refine zw h177 ?_
   refine g2 177 180 (jb true) h177 (rf (.tup [])) fun h181=>gm h181 fun h182=>zw h182 ?_
   iterate 2 refine zw h182 ?_
   refine g2 182 185 (jb true) h182 (rf (.tup [])) fun h186=>gz [(2,_),(3,_),(5,_),(6,_),(9,_),(13,_),(17,_),(18,_),(19,_),(23,_),(24,_),(29,_),(186,_)] ⟨h2,h3,h5,h6,h9,h13,h17,h18,h19,h23,h24,h29,h186⟩ ?_
   rintro s ⟨h2,h3,h5,h6,h9,h13,h17,h18,h19,h23,h24,h29,h186⟩
   exact uW H r3 r4 r6 r8 r10 r12 r14 true _ ⟨h2,h3,h5,h6,h9,h13,h17,h18,h19,h23,h24,h29,h186⟩ h
 refine zh (ct h155 hg40) (gm h17 fun h156=>zh (ct h155 hg40) (gm h20 fun h157=>?_))
 obtain ⟨r27,Er27,h⟩:=bind_some h
 refine zh (ct h155 hg40) (zy (m:=0) (al:=false) (r:=Enc.enc (r27:Bool)) [eL r10.a,eL r11.a] (zc (v:=eL r10.a) h156 rfl (Enc.erase_enc (r10.a:LI)) (zc (v:=eL r11.a) h157 rfl (Enc.erase_enc (r11.a:LI)) zp)) (H.c18 _ _ _ Er27) H.g18 rfl rfl rfl rfl (zh (ct h155 hg40) (g1 158 (jb (!r27)) (rf (jb r27)) fun h159=>g2 155 159 (jb (!r27)) (ct h155 hg40) h159 fun h160=>gm h160 fun h161=>zU h (fun hg46 h=>?_) (fun hg46 h=>?_))))
 · iterate 3 refine zw (ct h161 hg46) ?_
   refine g2 161 164 (jb true) (ct h161 hg46) (rf (.tup [])) fun h165=>gm h165 fun h166=>zw h166 ?_
   iterate 2 refine zw h166 ?_
   refine g2 166 169 (jb true) h166 (rf (.tup [])) fun h170=>gm h170 fun h171=>zw h171 ?_
   iterate 3 refine zw h171 ?_
   refine g2 171 175 (jb true) h171 (rf (.tup [])) fun h176=>gm h176 fun h177=>zw h177 ?_
   iterate 2 refine zw h177 ?_
   refine g2 177 180 (jb true) h177 (rf (.tup [])) fun h181=>gm h181 fun h182=>zw h182 ?_
   iterate 2 refine zw h182 ?_
   refine g2 182 185 (jb true) h182 (rf (.tup [])) fun h186=>gz [(2,_),(3,_),(5,_),(6,_),(9,_),(13,_),(17,_),(18,_),(19,_),(23,_),(24,_),(29,_),(186,_)] ⟨h2,h3,h5,h6,h9,h13,h17,h18,h19,h23,h24,h29,h186⟩ ?_
   rintro s ⟨h2,h3,h5,h6,h9,h13,h17,h18,h19,h23,h24,h29,h186⟩
   exact uW H r3 r4 r6 r8 r10 r12 r14 true _ ⟨h2,h3,h5,h6,h9,h13,h17,h18,h19,h23,h24,h29,h186⟩ h
 refine zh (ct h161 hg46) (gm h25 fun h162=>zh (ct h161 hg46) (gm h28 fun h163=>zh (ct h161 hg46) (g2 162 163 (jb (r12.c != r13.c)) h162 h163 fun h164=>g2 161 164 (jb (r12.c != r13.c)) (ct h161 hg46) h164 fun h165=>gm h165 fun h166=>zU h (fun hg51 h=>?_) (fun hg51 h=>?_))))
 · iterate 3 refine zw (ct h166 hg51) ?_
   refine g2 166 169 (jb true) (ct h166 hg51) (rf (.tup [])) fun h170=>gm h170 fun h171=>zw h171 ?_
   iterate 3 refine zw h171 ?_
   refine g2 171 175 (jb true) h171 (rf (.tup [])) fun h176=>gm h176 fun h177=>zw h177 ?_
   iterate 2 refine zw h177 ?_
   refine g2 177 180 (jb true) h177 (rf (.tup [])) fun h181=>gm h181 fun h182=>zw h182 ?_
   iterate 2 refine zw h182 ?_
   refine g2 182 185 (jb true) h182 (rf (.tup [])) fun h186=>gz [(2,_),(3,_),(5,_),(6,_),(9,_),(13,_),(17,_),(18,_),(19,_),(23,_),(24,_),(29,_),(186,_)] ⟨h2,h3,h5,h6,h9,h13,h17,h18,h19,h23,h24,h29,h186⟩ ?_
   rintro s ⟨h2,h3,h5,h6,h9,h13,h17,h18,h19,h23,h24,h29,h186⟩
   exact uW H r3 r4 r6 r8 r10 r12 r14 true _ ⟨h2,h3,h5,h6,h9,h13,h17,h18,h19,h23,h24,h29,h186⟩ h
 refine zh (ct h166 hg51) (gm h24 fun h167=>zh (ct h166 hg51) (gm h27 fun h168=>zh (ct h166 hg51) (g2 167 168 (jb (r12.b != r13.b)) h167 h168 fun h169=>g2 166 169 (jb (r12.b != r13.b)) (ct h166 hg51) h169 fun h170=>gm h170 fun h171=>zU h (fun hg56 h=>?_) (fun hg56 h=>?_))))
 · iterate 4 refine zw (ct h171 hg56) ?_
   refine g2 171 175 (jb true) (ct h171 hg56) (rf (.tup [])) fun h176=>gm h176 fun h177=>zw h177 ?_
   iterate 2 refine zw h177 ?_
   refine g2 177 180 (jb true) h177 (rf (.tup [])) fun h181=>gm h181 fun h182=>zw h182 ?_
   iterate 2 refine zw h182 ?_
   refine g2 182 185 (jb true) h182 (rf (.tup [])) fun h186=>gz [(2,_),(3,_),(5,_),(6,_),(9,_),(13,_),(17,_),(18,_),(19,_),(23,_),(24,_),(29,_),(186,_)] ⟨h2,h3,h5,h6,h9,h13,h17,h18,h19,h23,h24,h29,h186⟩ ?_
   rintro s ⟨h2,h3,h5,h6,h9,h13,h17,h18,h19,h23,h24,h29,h186⟩
   exact uW H r3 r4 r6 r8 r10 r12 r14 true _ ⟨h2,h3,h5,h6,h9,h13,h17,h18,h19,h23,h24,h29,h186⟩ h
 refine zh (ct h171 hg56) (gm h23 fun h172=>zh (ct h171 hg56) (gm h26 fun h173=>?_))
 obtain ⟨r28,Er28,h⟩:=bind_some h
 refine zh (ct h171 hg56) (zy (m:=0) (al:=false) (r:=Enc.enc (r28:Bool)) [eL r12.a,eL r13.a] (zc (v:=eL r12.a) h172 rfl (Enc.erase_enc (r12.a:LI)) (zc (v:=eL r13.a) h173 rfl (Enc.erase_enc (r13.a:LI)) zp)) (H.c18 _ _ _ Er28) H.g18 rfl rfl rfl rfl (zh (ct h171 hg56) (g1 174 (jb (!r28)) (rf (jb r28)) fun h175=>g2 171 175 (jb (!r28)) (ct h171 hg56) h175 fun h176=>gm h176 fun h177=>zU h (fun hg62 h=>?_) (fun hg62 h=>?_))))
 · iterate 3 refine zw (ct h177 hg62) ?_
   refine g2 177 180 (jb true) (ct h177 hg62) (rf (.tup [])) fun h181=>gm h181 fun h182=>zw h182 ?_
   iterate 2 refine zw h182 ?_
   refine g2 182 185 (jb true) h182 (rf (.tup [])) fun h186=>gz [(2,_),(3,_),(5,_),(6,_),(9,_),(13,_),(17,_),(18,_),(19,_),(23,_),(24,_),(29,_),(186,_)] ⟨h2,h3,h5,h6,h9,h13,h17,h18,h19,h23,h24,h29,h186⟩ ?_
   rintro s ⟨h2,h3,h5,h6,h9,h13,h17,h18,h19,h23,h24,h29,h186⟩
   exact uW H r3 r4 r6 r8 r10 r12 r14 true _ ⟨h2,h3,h5,h6,h9,h13,h17,h18,h19,h23,h24,h29,h186⟩ h
 refine zh (ct h177 hg62) (gm h29 fun h178=>zh (ct h177 hg62) (gm h31 fun h179=>zh (ct h177 hg62) (g2 178 179 (jb (r14.1 != r15.1)) h178 h179 fun h180=>g2 177 180 (jb (r14.1 != r15.1)) (ct h177 hg62) h180 fun h181=>gm h181 fun h182=>zU h (fun hg67 h=>?_) (fun hg67 h=>?_))))
 · iterate 3 refine zw (ct h182 hg67) ?_
   refine g2 182 185 (jb true) (ct h182 hg67) (rf (.tup [])) fun h186=>gz [(2,_),(3,_),(5,_),(6,_),(9,_),(13,_),(17,_),(18,_),(19,_),(23,_),(24,_),(29,_),(186,_)] ⟨h2,h3,h5,h6,h9,h13,h17,h18,h19,h23,h24,h29,h186⟩ ?_
   rintro s ⟨h2,h3,h5,h6,h9,h13,h17,h18,h19,h23,h24,h29,h186⟩
   exact uW H r3 r4 r6 r8 r10 r12 r14 true _ ⟨h2,h3,h5,h6,h9,h13,h17,h18,h19,h23,h24,h29,h186⟩ h
 refine zh (ct h182 hg67) (gm h30 fun h183=>zh (ct h182 hg67) (gm h32 fun h184=>zh (ct h182 hg67) (g2 183 184 (jb (r14.2 != r15.2)) h183 h184 fun h185=>g2 182 185 (jb (r14.2 != r15.2)) (ct h182 hg67) h185 fun h186=>gz [(2,_),(3,_),(5,_),(6,_),(9,_),(13,_),(17,_),(18,_),(19,_),(23,_),(24,_),(29,_),(186,_)] ⟨h2,h3,h5,h6,h9,h13,h17,h18,h19,h23,h24,h29,h186⟩ ?_)))
 rintro s ⟨h2,h3,h5,h6,h9,h13,h17,h18,h19,h23,h24,h29,h186⟩
 exact uW H r3 r4 r6 r8 r10 r12 r14 (r14.2 != r15.2) _ ⟨h2,h3,h5,h6,h9,h13,h17,h18,h19,h23,h24,h29,h186⟩ h
end
def e3 (F:Nat):Ent:=ent 3 (fun (x:(LB×Unit))=>vc F x.1) (fun (r:Bool)=>(Enc.enc (r:Bool))) 0 false []
theorem p3 {F:Nat} {x0:LB} {r:Bool} (h:vc F x0=some r):(e3 F).den [Enc.enc x0]=some (Enc.enc (r:Bool)):=zK (x0,()) h
theorem o3 (hF:zr Try.prog D σ) (H:H3 D σ F):(e3 F).Ok Try.prog:=okZ (f:=3) Try.func3 fun ⟨x0,_⟩ y hy=>cR hF Try.func3 c3 (t3 H x0 _ rfl hy)
end Go.Zq
