/- Functions of the program as typed functions, and that the machine runs as they say (part 3). No further condition. -/
import Derived.Test.YtelahampjnaimacK4
import Derived.Test.YtelahampjnaimacProg
import Derived.Test.YtelahampjnaimacChecked
import Derived.KernelRfl
import Derived.Test.YtelahampjnaimacG2
set_option linter.unusedVariables false
set_option linter.unusedSimpArgs false
namespace Go.Zq
open Go.Proofs
variable {D:Den} {σ:Sig} {F:Nat}
def zlI:AC:=(.seq (rr [jm 19 7,jv 20 (.load (.ag [.s,.p]) (.t 3)),jm 21 7,jv 22 (.fld (.t 4) 1 1),jv 23 (.load .p (.t 22)),jx 24 (.call (jf 74) [.t 20,.t 21,.t 23]),jv 25 (.bld (.agg [.sl .nl .s 0 [],.sl .nl .s 0 []]) [(0,0,.t 19),(1,1,.t 24)]),jz (.store (.ag [.p,.p]) (.t 6) (.t 25))]) .ret)
def zoN:AC:=(.cond (.t 14) (rr [jv 15 (.fld (.t 4) 0 0),jv 16 (.load .p (.t 15)),jm 17 2,jx 18 (.call (jf 43) [.t 16,.t 17]),jm 7 18]) .skip)
def ztG:AC:=(.seq (.seq (rr [jm 13 2,jv 14 (.bin .geq (.t 13) (jn 0))]) zoN) zlI)
def zqI:AC:=(.seq (rr [jv 8 (.fld (.t 4) 0 0),jv 9 (.load .p (.t 8)),jm 10 2,jv 11 (.bin .sub (jn (-1)) (.t 10)),jx 12 (.call (jf 73) [.t 9,.t 11]),jm 7 12]) ztG)
def A54:AC:=(.seq (.reg [.clr [3,4,6]] [jx 3 (.box (.t 0)),jx 4 (.box (.t 1)),jx 6 (.alloc (.agg [.sl .nl .s 0 [],.sl .nl .s 0 []]))] []) zqI)
def zwa:List An:=[⟨0,[.clr [3,4,6]],[],[],[]⟩]
theorem c54:cq Try.prog Try.f54 zwa=some A54:=by kernel_rfl
structure H54 (D:Den) (σ:Sig) (F:Nat):Prop where
 c73:C73 (D 73) F
 g73:σ 73=some (0,false)
 c43:C43 (D 43) F
 g43:σ 43=some (0,true)
 c74:C74 (D 74) F
 g74:σ 74=some (0,true)
abbrev R54 (r:(LI×LI)):(Nat→V)→Prop:=RR Try.prog [.cell 6 55] 0 true (Enc.enc (r:(LI×LI)))
section
variable {r:(LI×LI)}
def XD (F:Nat) (x1:GR) (x2:(LI×LI))  (x6:LI):Option (LI×LI):=
 (Ym F x1 x6 x2.2).bind fun r7=>
 some (x6,r7)
theorem zdd (H:H54 D σ F) (x1:GR) (x2:(LI×LI))  (x6:LI) (s:Nat→V) (hs:zr [(3,bG 3 x1),(4,.ref (.bx 4) 0 [] (.agg [eL x2.1,eL x2.2])),(6,.ref (.bx 6) 0 [] (.agg [nI,nI])),(7,eL x6)] s) (h:XD F x1 x2  x6=some r):Run D σ (R54 r) (.nrm [.sq zlI]) s:=by
 unfold XD at h
 obtain ⟨h3,h4,h6,h7⟩:=hs
 refine .nsq (.seq (rg (gm h7 fun h19=>g1 3 (gV x1) h3 fun h20=>gm h7 fun h21=>g1 4 (.ref (.bx 4) 0 [1] (eL x2.2)) h4 fun h22=>g1 22 (eL x2.2) h22 fun h23=>?_)))
 obtain ⟨r7,Er7,h⟩:=zc h
 refine xT (m:=0) (al:=true) (r:=eL r7) [Enc.enc (x1:GR),eL x6,eL x2.2] (zf h20 rfl (Enc.erase_enc (x1:GR)) (zf h21 rfl (Enc.erase_enc (x6:LI)) (zf h23 rfl (Enc.erase_enc (x2.2:LI)) zC))) (H.c74 _ _ _ _ Er7) H.g74 (we (yc (v:=gV x1) h20 rfl rfl (yc (v:=eL x6) h21 rfl rfl (yc (v:=eL x2.2) h23 rfl rfl wd)))) rfl rfl rfl (g2 19 24 (.agg [eL x6,eL r7]) h19 (rf (eL r7)) fun h25=>z5 (.agg [eL x6,eL r7]) (zB h6 rfl) (zB h25 rfl) (xo (by first | rfl | simp [V.toks,V.tokss,Enc.toks_enc,zY])) (gz [(6,.ref (.bx 6) 0 [] (.agg [eL x6,eL r7]))] (zd h6 rfl) ?_))
 rintro s h6
 refine .nsq (.ret ?_)
 obtain rfl:=oi h
 exact rrA (xZ h6 (by kernel_rfl)) (xV (xd (x:=((x6,r7):(LI×LI)))))
def Z9 (F:Nat) (x1:GR) (x2:(LI×LI)) (x3:Int):Option (LI×LI):=
 (ZF F x2.1 (w64 ((-1) - x3))).bind fun r4=>
 bif decide (x3≥0) then
  (Yf F x2.1 x3).bind fun r8=>
  XD F x1 x2 r8
 else
  XD F x1 x2 r4
theorem t54 (H:H54 D σ F) (x1:GR) (x2:(LI×LI)) (x3:Int) (s:Nat→V) (hs:zr [(0,gV x1),(1,.agg [eL x2.1,eL x2.2]),(2,ji x3)] s) (h:Z9 F x1 x2 x3=some r):Run D σ (R54 r) (.run A54 []) s:=by
 unfold Z9 at h
 obtain ⟨h0,h1,h2⟩:=hs
 refine .seq (zw (zW ?_))
 refine ez [(0,_),(1,_),(2,_),(3,_),(4,_),(6,_)] ⟨za h0 rfl mIE,za h1 rfl (zM (zg me (zg me zx))),za h2 rfl mi,ze rfl,ze rfl,ze rfl⟩ ?_
 rintro s ⟨h0,h1,h2,h3,h4,h6⟩
 refine xn (gV x1) (zB h0 rfl) h3 rfl (xn (.agg [eL x2.1,eL x2.2]) (zB h1 rfl) h4 rfl (y9 h6 (gq (.nsq (.seq (rg (g1 4 (.ref (.bx 4) 0 [0] (eL x2.1)) (rf (.ref (.bx 4) 0 [] (.agg [eL x2.1,eL x2.2]))) fun h8=>g1 8 (eL x2.1) h8 fun h9=>gm h2 fun h10=>g1 10 (ji (w64 ((-1) - x3))) h10 fun h11=>?_)))))))
 obtain ⟨r4,Er4,h⟩:=zc h
 refine gcF [eL x2.1,Enc.enc (w64 ((-1) - x3):Int)] (zf h9 rfl (Enc.erase_enc (x2.1:LI)) (zf h11 rfl rfl zC)) (H.c73 _ _ _ Er4) H.g73 (gm (rf (eL r4)) fun h7=>gq (.nsq (.seq (.seq (rg (gm h2 fun h13=>g1 13 (jb (decide (x3≥0))) h13 fun h14=>gq (.nsq (zn h14 h (fun h=>?_) (fun h=>?_)))))))))
 · refine rg (g1 4 (.ref (.bx 4) 0 [0] (eL x2.1)) (rf (.ref (.bx 4) 0 [] (.agg [eL x2.1,eL x2.2]))) fun h15=>g1 15 (eL x2.1) h15 fun h16=>gm h2 fun h17=>?_)
   obtain ⟨r8,Er8,h⟩:=zc h
   refine xT (m:=0) (al:=true) (r:=eL r8) [eL x2.1,Enc.enc (x3:Int)] (zf h16 rfl (Enc.erase_enc (x2.1:LI)) (zf h17 rfl rfl zC)) (H.c43 _ _ _ Er8) H.g43 (we (yc (v:=eL x2.1) h16 rfl rfl (yc (v:=ji x3) h17 rfl rfl wd))) rfl rfl rfl (gm (rf (eL r8)) fun h7=>gq ?_)
   exact zdd H x1 x2 r8 _ ⟨rfl,rfl,rfl,h7⟩ h
 refine .skip ?_
 exact zdd H x1 x2 r4 _ ⟨rfl,rfl,rfl,h7⟩ h
end
def e54 (F:Nat):Ent:=ent 54 (fun (x:(GR×(LI×LI)×Int×Unit))=>Z9 F x.1 x.2.1 x.2.2.1) (fun (r:(LI×LI))=>(Enc.enc (r:(LI×LI)))) 0 true []
abbrev C54 (D:List V→Option V) (F:Nat):Prop:=∀ (x0:GR) (x1:(LI×LI)) (x2:Int) r,Z9 F x0 x1 x2=some r→D [Enc.enc x0,Enc.enc x1,Enc.enc x2]=some (Enc.enc (r:(LI×LI)))
theorem p54 {F:Nat}:C54 (e54 F).den F:=fun x0 x1 x2 _ h=>zS (x0,x1,x2,()) h
theorem o54 (hF:zG Try.prog D σ) (H:H54 D σ F):(e54 F).Ok Try.prog:=okZ (f:=54) Try.func54 fun ⟨x0,x1,x2,_⟩ y hy=>cR hF Try.func54 c54 (t54 H x0 x1 x2 _ ⟨rfl,rfl,rfl⟩ hy)
def zpx:AC:=(.cond (.t 27) .skip (.exit 0))
def zrZ:AC:=(.cond (.t 37) (rr [jm 38 8,jv 39 (.bin .sub (jn (-1)) (.t 38)),jm 8 39]) .skip)
def zt4:AC:=(.cond (.t 43) (rr [jv 44 (.load (.ag [.s,.p]) (.t 3)),jv 45 (.load (.ag [.p,.p]) (.t 6)),jm 46 8,jx 47 (.call (jf 54) [.t 44,.t 45,.t 46]),jz (.store (.ag [.p,.p]) (.t 6) (.t 47))]) .skip)
def zlF:AC:=(.reg [.clr [50,51]] [jm 48 5,jm 49 8,jx 50 (.lit i0 1 [(0,0,.t 49)]),jx 51 (.app .s (.t 48) (.t 50)),jm 5 51] [.home 51 5])
def zlJ:AC:=(.seq (.seq (rr [jv 40 (.load (.ag [.s,.p]) (.t 3)),jv 41 (.load (.ag [.p,.p]) (.t 6)),jm 42 8,jx 43 (.call (jf 53) [.t 40,.t 41,.t 42])]) zt4) zlF)
def ztv:AC:=(.seq (.seq (rr [jv 34 (.fld (.t 6) 0 0),jv 35 (.load .p (.t 34)),jm 36 8,jx 37 (.call (jf 35) [.t 35,.t 36])]) zrZ) zlJ)
def zju:AC:=(rr [jm 28 7,jv 29 (.bin .sub (.t 28) (jn 1)),jm 7 29])
def zoP:AC:=(.seq (.block 1 (.seq (rr [jm 30 0,jv 31 (.fld (.t 3) 0 0),jl 32 31,jx 33 (.callT (jf 69) [.t 30,.t 32] [0] []),jm 8 33]) ztv)) zju)
def KC:AC:=(.seq (.seq (rr [jm 26 7,jv 27 (.bin .gtr (.t 26) (jn 0))]) zpx) zoP)
def znS:AC:=(.cond (.t 69) .skip (.exit 3))
def zns:AC:=(.cond (.t 79) (rr [jm 80 10,jv 81 (.bin .sub (jn (-1)) (.t 80)),jm 10 81]) .skip)
def zn3:AC:=(.reg [.clr [88,89]] [jm 86 5,jm 87 10,jx 88 (.lit i0 1 [(0,0,.t 87)]),jx 89 (.app .s (.t 86) (.t 88)),jm 5 89] [.home 89 5])
def zim:AC:=(.seq (rr [jv 82 (.load (.ag [.s,.p]) (.t 3)),jv 83 (.load (.ag [.p,.p]) (.t 6)),jm 84 10,jx 85 (.call (jf 54) [.t 82,.t 83,.t 84]),jz (.store (.ag [.p,.p]) (.t 6) (.t 85))]) zn3)
def zm1:AC:=(.seq (.seq (rr [jv 76 (.fld (.t 6) 0 0),jv 77 (.load .p (.t 76)),jm 78 10,jx 79 (.call (jf 35) [.t 77,.t 78])]) zns) zim)
def zhc:AC:=(rr [jm 70 9,jv 71 (.bin .add (.t 70) (jn 1)),jm 9 71])
def znE:AC:=(.seq (.block 4 (.seq (rr [jm 72 0,jv 73 (.fld (.t 3) 0 0),jl 74 73,jx 75 (.callT (jf 69) [.t 72,.t 74] [0] []),jm 10 75]) zm1)) zhc)
def Le:AC:=(.seq (.seq (rr [jm 64 5,jk 65 64,jm 66 0,jx 67 (.callT (jf 69) [.t 66,jn 2] [0] []),jv 68 (.bin .add (jn 40) (.t 67)),jv 69 (.bin .lss (.t 65) (.t 68))]) znS) znE)
def zny:AC:=(.block 3 (.loop Le))
def znH:AC:=(.cond (.t 62) (.seq (rr [jv 9 (.mov (jn 0))]) zny) .skip)
def zme:AC:=(.cond (.t 54) (.reg [.clr [58,60,61]] [jm 56 5,jm 57 0,jx 58 (.litS i0 6 [(0,0,jn (-9)),(1,1,jn 8),(2,2,jn 0),(3,3,jn (-1)),(4,4,jn 4611686018427387904),(5,5,jn (-9223372036854775808))]),jx 59 (.callT (jf 70) [.t 57,.t 58] [0] []),jx 60 (.lit i0 1 [(0,0,.t 59)]),jx 61 (.app .s (.t 56) (.t 60)),jm 5 61] [.home 61 5]) (.seq (rr [jv 63 (.bin .eql (.t 53) (jn 1)),jm 62 63]) znH))
def znG:AC:=(.block 2 (.seq (rr [jv 55 (.bin .eql (.t 53) (jn 0)),jm 54 55]) zme))
def zag:AC:=(.seq (.reg [] [jm 90 5,jm 4 90] [.home 5 4,.frz 4]) .ret)
def Lm:AC:=(.seq (.seq (rr [jm 52 0,jx 53 (.callT (jf 69) [.t 52,jn 24] [0] [])]) znG) zag)
def zg6:AC:=(.cond (.t 19) (.seq (.reg [] [jm 20 5,jm 4 20] [.frz 4]) .ret) .skip)
def zmx:AC:=(.block 0 (.loop KC))
def znu:AC:=(.seq (.seq (.reg [.clr [24]] [jm 23 0,jx 24 (.litS i0 5 [(0,0,jn 3),(1,1,jn 6),(2,2,jn 9),(3,3,jn 14),(4,4,jn 0)]),jx 25 (.callT (jf 70) [.t 23,.t 24] [0] []),jm 7 25] []) zmx) Lm)
def zjs:AC:=(.seq (.reg [.clr [6]] [jv 21 (.load (.ag [.s,.p]) (.t 3)),jx 22 (.call (jf 52) [.t 21]),jx 6 (.alloc (.agg [.sl .nl .s 0 [],.sl .nl .s 0 []])),jz (.store (.ag [.p,.p]) (.t 6) (.t 22))] []) znu)
def zl2:AC:=(.seq (.seq (rr [jv 12 (.load (.ag [.s,.p]) (.t 3)),jx 13 (.call (jf 28) [.t 12]),jv 14 (.un .not (.t 13)),jm 15 14,jg 16 15 false (.fld (.t 3) 0 0),jg 17 15 false (.load .s (.t 16)),jg 18 15 false (.bin .eql (.t 17) (jn 0)),jv 19 (.pick (.t 15) kt (.t 18))]) zg6) zjs)
def zon:AC:=(.seq (.reg [.clr [11]] [jx 11 (.lit i0 0 []),jm 5 11] [.home 11 5]) zl2)
def A49:AC:=(.seq (.reg [.clr [3]] [jx 3 (.box (.t 1)),jv 4 (.mov (.k (.sl .nl .s 0 [])))] []) zon)
def zv9:List An:=[⟨0,[.clr [3]],[],[],[]⟩,⟨1,[.clr [11]],[],[],[.home 11 5]⟩,⟨3,[],[],[],[.frz 4]⟩,⟨4,[.clr [6]],[],[],[]⟩,⟨5,[.clr [24]],[],[3000000,6001],[]⟩,⟨8,[],[],[4000000],[]⟩,⟨13,[.clr [50,51]],[],[],[.home 51 5]⟩,⟨14,[],[],[2000000],[]⟩,⟨16,[.clr [58,60,61]],[],[4000000,6002],[.home 61 5]⟩,⟨19,[],[],[4000000],[]⟩,⟨21,[],[],[4000000],[]⟩,⟨25,[.clr [88,89]],[],[],[.home 89 5]⟩,⟨26,[],[],[],[.home 5 4,.frz 4]⟩]
theorem c49:cq Try.prog Try.f49 zv9=some A49:=by kernel_rfl
structure H49 (D:Den) (σ:Sig) (F:Nat):Prop where
 c28:C28 (D 28) F
 g28:σ 28=some (0,false)
 c52:C52 (D 52) F
 g52:σ 52=some (0,true)
 c70:C70 (D 70) F
 g70:σ 70=some (uK,false)
 c69:C69 (D 69) F
 g69:σ 69=some (uK,false)
 c35:C35 (D 35) F
 g35:σ 35=some (0,false)
 c53:C53 (D 53) F
 g53:σ 53=some (0,false)
 c54:C54 (D 54) F
 g54:σ 54=some (0,true)
abbrev R49 (r:(LI×CU)):(Nat→V)→Prop:=RT Try.prog [.tmp 4] (eL r.1) [cuV zO r.2]
section
variable {r:(LI×CU)}
def wz (F:Nat) (r32:(Int×CU)) (x2:GR) (x19:LI) (x22:Int) (x34:Int) (c1:LB→Int→Int→LI→LI→LI→Int→Option (LI×CU)) (x37:LI) (x38:LI):Option (LI×CU):=
 (vz x19 [x34]).bind fun ap39=>
 c1 r32.2.a r32.2.b r32.2.c.v ap39 x37 x38 (w64 (x22 - 1))
theorem zb0 (H:H49 D σ F) (r32:(Int×CU)) (x2:GR) (x19:LI) (x22:Int) (x34:Int) (c1:LB→Int→Int→LI→LI→LI→Int→Option (LI×CU)) (Hc1:∀ (x16:LB) (x17:Int) (x18:Int) (x19:LI) (x20:LI) (x21:LI) (x22:Int) (s:Nat→V),zr [(0,.ref (.bx zO) 0 [] (.agg [eB x16,ji x17,.int .u64 x18])),(3,bG 3 x2),(4,nI),(5,oI 5 [] (.of x19)),(6,.ref (.bx 6) 0 [] (.agg [eL x20,eL x21])),(7,ji x22)] s→c1 x16 x17 x18 x19 x20 x21 x22=some r→Run D σ (R49 r) (.run KC [.lp KC,.bk 0,.sq Lm]) s) (x37:LI) (x38:LI) (s:Nat→V) (hs:zr [(0,bC r32.2),(3,bG 3 x2),(4,nI),(5,oI 5 [] (.of x19)),(6,.ref (.bx 6) 0 [] (.agg [eL x37,eL x38])),(7,ji x22),(8,ji x34)] s) (h:wz F r32 x2 x19 x22 x34 c1 x37 x38=some r):Run D σ (R49 r) (.nrm [.sq zlF,.bk 1,.sq zju,.lp KC,.bk 0,.sq Lm]) s:=by
 unfold wz at h
 obtain ⟨h0,h3,h4,h5,h6,h7,h8⟩:=hs
 refine .nsq (zw (zW ?_))
 refine ez [(0,_),(3,_),(4,_),(5,_),(6,_),(7,_),(8,_),(50,_),(51,_)] ⟨za h0 rfl (zj rfl wW),za h3 rfl (zj rfl mIE),za h4 rfl rfl,za h5 rfl (zl (r:=5) (p:=[]) rfl rfl),za h6 rfl (zj rfl (zM (zg me (zg me zx)))),za h7 rfl mi,za h8 rfl mi,ze rfl,ze rfl⟩ ?_
 rintro s ⟨h0,h3,h4,h5,h6,h7,h8,h50,h51⟩
 refine gm h5 fun h48=>gm h8 fun h49=>xb [(49,ji x34)] [Enc.enc (x34:Int)] h49 rfl rfl h50 ?_
 obtain ⟨ap39,Eap39,h⟩:=zc h
 refine Z0 (q:=5) (p:=[]) (o:=.of (x19:LI)) (ys:=([x34]:LI)) (t2:=.at 50 []) (lo2:=0) h48 rfl rfl h51 (vK (o:=.of (x19:LI)) Eap39 trivial) (fun s20 ha20=>gm (rf (oI 51 [] (.of ap39))) fun h5=>yK (yo (r:=51) (x:=5) (v:=_) h5 rfl (fun s21 hz21=>?_)))
 refine ez [(0,bC r32.2),(3,bG 3 x2),(4,nI),(5,oI 5 [] (.of ap39)),(6,.ref (.bx 6) 0 [] (.agg [eL x37,eL x38])),(7,ji x22)] ⟨hz21 0 _ _ (show s20 0=(bC r32.2) from zy ha20 h0 (zj rfl wW)) (zj rfl wW),hz21 3 _ _ (show s20 3=(bG 3 x2) from zy ha20 h3 (zj rfl mIE)) (zj rfl mIE),hz21 4 _ nI (show s20 4=nI from zy ha20 h4 rfl) rfl,hz21 5 _ _ h5 (zl (r:=51) (p:=[]) rfl rfl),hz21 6 _ _ (show s20 6=(.ref (.bx 6) 0 [] (.agg [eL x37,eL x38])) from zy ha20 h6 (zj rfl (zM (zg me (zg me zx))))) (zj rfl (zM (zg me (zg me zx)))),hz21 7 _ _ (show s20 7=(ji x22) from zy ha20 h7 mi) mi⟩ ?_
 rintro s ⟨h0,h3,h4,h5,h6,h7⟩
 refine .nbk (.nsq (rg (gm h7 fun h28=>g1 28 (ji (w64 (x22 - 1))) h28 fun h29=>gm h29 fun h7=>gq (.nlp ?_))))
 exact Hc1 r32.2.a r32.2.b r32.2.c.v ap39 x37 x38 (w64 (x22 - 1)) _ ⟨h0,h3,h4,h5,h6,h7⟩ h
def wx (F:Nat) (r32:(Int×CU)) (x2:GR) (x19:LI) (x20:LI) (x21:LI) (x22:Int) (c1:LB→Int→Int→LI→LI→LI→Int→Option (LI×CU)) (x34:Int):Option (LI×CU):=
 (WQ F x2 (x20,x21) x34).bind fun r35=>
 bif r35 then
  (Z9 F x2 (x20,x21) x34).bind fun r40=>
  wz F r32 x2 x19 x22 x34 c1 r40.1 r40.2
 else
  wz F r32 x2 x19 x22 x34 c1 x20 x21
theorem zcw (H:H49 D σ F) (r32:(Int×CU)) (x2:GR) (x19:LI) (x20:LI) (x21:LI) (x22:Int) (c1:LB→Int→Int→LI→LI→LI→Int→Option (LI×CU)) (Hc1:∀ (x16:LB) (x17:Int) (x18:Int) (x19:LI) (x20:LI) (x21:LI) (x22:Int) (s:Nat→V),zr [(0,.ref (.bx zO) 0 [] (.agg [eB x16,ji x17,.int .u64 x18])),(3,bG 3 x2),(4,nI),(5,oI 5 [] (.of x19)),(6,.ref (.bx 6) 0 [] (.agg [eL x20,eL x21])),(7,ji x22)] s→c1 x16 x17 x18 x19 x20 x21 x22=some r→Run D σ (R49 r) (.run KC [.lp KC,.bk 0,.sq Lm]) s) (x34:Int) (s:Nat→V) (hs:zr [(0,bC r32.2),(3,bG 3 x2),(4,nI),(5,oI 5 [] (.of x19)),(6,.ref (.bx 6) 0 [] (.agg [eL x20,eL x21])),(7,ji x22),(8,ji x34)] s) (h:wx F r32 x2 x19 x20 x21 x22 c1 x34=some r):Run D σ (R49 r) (.nrm [.sq zlJ,.bk 1,.sq zju,.lp KC,.bk 0,.sq Lm]) s:=by
 unfold wx at h
 obtain ⟨h0,h3,h4,h5,h6,h7,h8⟩:=hs
 refine .nsq (.seq (.seq (rg (g1 3 (gV x2) h3 fun h40=>g1 6 (.agg [eL x20,eL x21]) h6 fun h41=>gm h8 fun h42=>?_))))
 obtain ⟨r35,Er35,h⟩:=zc h
 refine gcF [Enc.enc (x2:GR),Enc.enc ((x20,x21):(LI×LI)),Enc.enc (x34:Int)] (zf h40 rfl (Enc.erase_enc (x2:GR)) (zf h41 rfl (Enc.erase_enc ((x20,x21):(LI×LI))) (zf h42 rfl rfl zC))) (H.c53 _ _ _ _ Er35) H.g53 (gq (.nsq (zn rfl h (fun h=>?_) (fun h=>?_))))
 · refine rg (g1 3 (gV x2) h3 fun h44=>g1 6 (.agg [eL x20,eL x21]) h6 fun h45=>gm h8 fun h46=>?_)
   obtain ⟨r40,Er40,h⟩:=zc h
   refine xT (m:=0) (al:=true) (r:=Enc.enc (r40:(LI×LI))) [Enc.enc (x2:GR),Enc.enc ((x20,x21):(LI×LI)),Enc.enc (x34:Int)] (zf h44 rfl (Enc.erase_enc (x2:GR)) (zf h45 rfl (Enc.erase_enc ((x20,x21):(LI×LI))) (zf h46 rfl rfl zC))) (H.c54 _ _ _ _ Er40) H.g54 (we (yc (v:=gV x2) h44 rfl rfl (yc (v:=.agg [eL x20,eL x21]) h45 rfl rfl (yc (v:=ji x34) h46 rfl rfl wd)))) rfl rfl rfl (z5 (.agg [eL r40.1,eL r40.2]) (zB h6 rfl) (zB rfl rfl) (xo (by first | rfl | simp [V.toks,V.tokss,Enc.toks_enc,zY])) ?_)
   refine gz [(0,bC r32.2),(3,bG 3 x2),(4,nI),(5,oI 5 [] (.of x19)),(6,.ref (.bx 6) 0 [] (.agg [eL r40.1,eL r40.2])),(7,ji x22),(8,ji x34)] ⟨zd h0 (zH rfl rfl WI),zd h3 (zH rfl rfl uIE),zd h4 rfl,zd h5 (wm rfl rfl),zd h6 rfl,zd h7 rfl,zd h8 rfl⟩ ?_
   rintro s ⟨h0,h3,h4,h5,h6,h7,h8⟩
   exact zb0 H r32 x2 x19 x22 x34 c1 Hc1 r40.1 r40.2 _ ⟨h0,h3,h4,h5,h6,h7,h8⟩ h
 refine .skip ?_
 exact zb0 H r32 x2 x19 x22 x34 c1 Hc1 x20 x21 _ ⟨h0,h3,h4,h5,h6,h7,h8⟩ h
def wF (F:Nat) (r64:(Int×CU)) (x2:GR) (x53:LI) (x54:LI) (x55:LI) (x56:Int) (c2:LB→Int→Int→LI→LI→LI→Int→Option (LI×CU)) (x66:Int):Option (LI×CU):=
 (Z9 F x2 (x54,x55) x66).bind fun r67=>
 (vz x53 [x66]).bind fun ap68=>
 c2 r64.2.a r64.2.b r64.2.c.v ap68 r67.1 r67.2 (w64 (x56 + 1))
theorem zb3 (H:H49 D σ F) (r64:(Int×CU)) (x2:GR) (x53:LI) (x54:LI) (x55:LI) (x56:Int) (c2:LB→Int→Int→LI→LI→LI→Int→Option (LI×CU)) (Hc2:∀ (x50:LB) (x51:Int) (x52:Int) (x53:LI) (x54:LI) (x55:LI) (x56:Int) (s:Nat→V),zr [(0,.ref (.bx zO) 0 [] (.agg [eB x50,ji x51,.int .u64 x52])),(3,bG 3 x2),(4,nI),(5,oI 5 [] (.of x53)),(6,.ref (.bx 6) 0 [] (.agg [eL x54,eL x55])),(9,ji x56)] s→c2 x50 x51 x52 x53 x54 x55 x56=some r→Run D σ (R49 r) (.run Le [.lp Le,.bk 3,.bk 2,.sq zag]) s) (x66:Int) (s:Nat→V) (hs:zr [(0,bC r64.2),(3,bG 3 x2),(4,nI),(5,oI 5 [] (.of x53)),(6,.ref (.bx 6) 0 [] (.agg [eL x54,eL x55])),(9,ji x56),(10,ji x66)] s) (h:wF F r64 x2 x53 x54 x55 x56 c2 x66=some r):Run D σ (R49 r) (.nrm [.sq zim,.bk 4,.sq zhc,.lp Le,.bk 3,.bk 2,.sq zag]) s:=by
 unfold wF at h
 obtain ⟨h0,h3,h4,h5,h6,h9,h10⟩:=hs
 refine .nsq (.seq (rg (g1 3 (gV x2) h3 fun h82=>g1 6 (.agg [eL x54,eL x55]) h6 fun h83=>gm h10 fun h84=>?_)))
 obtain ⟨r67,Er67,h⟩:=zc h
 refine xT (m:=0) (al:=true) (r:=Enc.enc (r67:(LI×LI))) [Enc.enc (x2:GR),Enc.enc ((x54,x55):(LI×LI)),Enc.enc (x66:Int)] (zf h82 rfl (Enc.erase_enc (x2:GR)) (zf h83 rfl (Enc.erase_enc ((x54,x55):(LI×LI))) (zf h84 rfl rfl zC))) (H.c54 _ _ _ _ Er67) H.g54 (we (yc (v:=gV x2) h82 rfl rfl (yc (v:=.agg [eL x54,eL x55]) h83 rfl rfl (yc (v:=ji x66) h84 rfl rfl wd)))) rfl rfl rfl (z5 (.agg [eL r67.1,eL r67.2]) (zB h6 rfl) (zB rfl rfl) (xo (by first | rfl | simp [V.toks,V.tokss,Enc.toks_enc,zY])) ?_)
 refine gz [(0,bC r64.2),(3,bG 3 x2),(4,nI),(5,oI 5 [] (.of x53)),(6,.ref (.bx 6) 0 [] (.agg [eL r67.1,eL r67.2])),(9,ji x56),(10,ji x66)] ⟨zd h0 (zH rfl rfl WI),zd h3 (zH rfl rfl uIE),zd h4 rfl,zd h5 (wm rfl rfl),zd h6 rfl,zd h9 rfl,zd h10 rfl⟩ ?_
 rintro s ⟨h0,h3,h4,h5,h6,h9,h10⟩
 refine .nsq (zw (zW ?_))
 refine ez [(0,_),(3,_),(4,_),(5,_),(6,_),(9,_),(10,_),(88,_),(89,_)] ⟨za h0 rfl (zj rfl wW),za h3 rfl (zj rfl mIE),za h4 rfl rfl,za h5 rfl (zl (r:=5) (p:=[]) rfl rfl),za h6 rfl (zj rfl (zM (zg me (zg me zx)))),za h9 rfl mi,za h10 rfl mi,ze rfl,ze rfl⟩ ?_
 rintro s ⟨h0,h3,h4,h5,h6,h9,h10,h88,h89⟩
 refine gm h5 fun h86=>gm h10 fun h87=>xb [(87,ji x66)] [Enc.enc (x66:Int)] h87 rfl rfl h88 ?_
 obtain ⟨ap68,Eap68,h⟩:=zc h
 refine Z0 (q:=5) (p:=[]) (o:=.of (x53:LI)) (ys:=([x66]:LI)) (t2:=.at 88 []) (lo2:=0) h86 rfl rfl h89 (vK (o:=.of (x53:LI)) Eap68 trivial) (fun s43 ha43=>gm (rf (oI 89 [] (.of ap68))) fun h5=>yK (yo (r:=89) (x:=5) (v:=_) h5 rfl (fun s44 hz44=>?_)))
 refine ez [(0,bC r64.2),(3,bG 3 x2),(4,nI),(5,oI 5 [] (.of ap68)),(6,.ref (.bx 6) 0 [] (.agg [eL r67.1,eL r67.2])),(9,ji x56)] ⟨hz44 0 _ _ (show s43 0=(bC r64.2) from zy ha43 h0 (zj rfl wW)) (zj rfl wW),hz44 3 _ _ (show s43 3=(bG 3 x2) from zy ha43 h3 (zj rfl mIE)) (zj rfl mIE),hz44 4 _ nI (show s43 4=nI from zy ha43 h4 rfl) rfl,hz44 5 _ _ h5 (zl (r:=89) (p:=[]) rfl rfl),hz44 6 _ _ (show s43 6=(.ref (.bx 6) 0 [] (.agg [eL r67.1,eL r67.2])) from zy ha43 h6 (zj rfl (zM (zg me (zg me zx))))) (zj rfl (zM (zg me (zg me zx)))),hz44 9 _ _ (show s43 9=(ji x56) from zy ha43 h9 mi) mi⟩ ?_
 rintro s ⟨h0,h3,h4,h5,h6,h9⟩
 refine .nbk (.nsq (rg (gm h9 fun h70=>g1 70 (ji (w64 (x56 + 1))) h70 fun h71=>gm h71 fun h9=>gq (.nlp ?_))))
 exact Hc2 r64.2.a r64.2.b r64.2.c.v ap68 r67.1 r67.2 (w64 (x56 + 1)) _ ⟨h0,h3,h4,h5,h6,h9⟩ h
def yT (F:Nat) (x2:GR) :Nat→LB→Int→Int→LI→LI→LI→Int→Option (LI×CU)
 | 0,_,_,_,_,_,_,_=>none
 | k + 1,x50,x51,x52,x53,x54,x55,x56=>
   (yj F (cu x50 x51 x52) 2).bind fun r63=>
   bif decide ((x53.length:Int) < (w64 (40 + r63.1))) then
    (yj F (Cu.mk r63.2) x2.1).bind fun r64=>
    (wI F x54 r64.1).bind fun r65=>
    bif r65 then
     wF F r64 x2 x53 x54 x55 x56 (yT F x2 k) (w64 ((-1) - r64.1))
    else
     wF F r64 x2 x53 x54 x55 x56 (yT F x2 k) r64.1
   else
    some (x53,r63.2)
theorem zhp (H:H49 D σ F) (x2:GR) :∀ (k:Nat) (x50:LB) (x51:Int) (x52:Int) (x53:LI) (x54:LI) (x55:LI) (x56:Int) (s:Nat→V),zr [(0,.ref (.bx zO) 0 [] (.agg [eB x50,ji x51,.int .u64 x52])),(3,bG 3 x2),(4,nI),(5,oI 5 [] (.of x53)),(6,.ref (.bx 6) 0 [] (.agg [eL x54,eL x55])),(9,ji x56)] s→yT F x2 k x50 x51 x52 x53 x54 x55 x56=some r→Run D σ (R49 r) (.run Le [.lp Le,.bk 3,.bk 2,.sq zag]) s:=by
 intro k
 induction k with
 | zero=>intro x50 x51 x52 x53 x54 x55 x56 s _ h;exact nm h
 | succ k ih=>
   intro x50 x51 x52 x53 x54 x55 x56 s hs h
   rw [yT] at h
   obtain ⟨h0,h3,h4,h5,h6,h9⟩:=hs
   refine .seq (.seq (rg (gm h5 fun h64=>gv (ji (x53.length:Int)) (Mi (o:=.of x53) h64) fun h65=>gm h0 fun h66=>?_)))
   obtain ⟨r63,Er63,h⟩:=zc h
   refine vf (r:=zO) (b:=0) (x:=((S3.mk x50 x51 (Kd.mk x52:Kd .u64)):CU)) (x':=r63.2) (vs:=[Enc.enc (2:Int)]) (res:=Enc.enc (r63.1:Int)) h0 (by exact (zJ (v:=cuV zO ((S3.mk x50 x51 (Kd.mk x52:Kd .u64)):CU)) h66 rfl (zJ (v:=Enc.enc (2:Int)) rfl rfl yp))) (yb te yk) fm1 (H.c69 _ _ _ Er63) H.g69 te rfl (fun s40 hb40 ha40=>g1 67 (ji (w64 (40 + r63.1))) (rf (ji r63.1)) fun h68=>g2 65 68 (jb (decide ((x53.length:Int) < (w64 (40 + r63.1))))) (show s40 65=(ji (x53.length:Int)) from ha40 65 _ _ h65 rfl mi) h68 fun h69=>?_)
   refine gz [(0,_),(3,bG 3 x2),(4,nI),(5,oI 5 [] (.of x53)),(6,.ref (.bx 6) 0 [] (.agg [eL x54,eL x55])),(9,ji x56),(69,_)] ⟨(show s40 0=(bC r63.2) from hb40 0 h0),(show s40 3=(bG 3 x2) from ha40 3 _ _ h3 rfl (zj rfl mIE)),(show s40 4=nI from ha40 4 _ _ h4 rfl rfl),(show s40 5=(oI 5 [] (.of x53)) from ha40 5 _ _ h5 rfl (zl (r:=5) (p:=[]) rfl rfl)),(show s40 6=(.ref (.bx 6) 0 [] (.agg [eL x54,eL x55])) from ha40 6 _ _ h6 rfl (zj rfl (zM (zg me (zg me zx))))),(show s40 9=(ji x56) from ha40 9 _ _ h9 rfl mi),h69⟩ ?_
   rintro s ⟨h0,h3,h4,h5,h6,h9,h69⟩
   refine .nsq (zn h69 h (fun h=>?_) (fun h=>?_))
   · refine .skip (.nsq (.seq (.block (.seq (rg (gm h0 fun h72=>g1 3 (.ref (.bx 3) 0 [0] (ji x2.1)) h3 fun h73=>g1 73 (ji x2.1) h73 fun h74=>?_))))))
     obtain ⟨r64,Er64,h⟩:=zc h
     refine vf (r:=zO) (b:=0) (x:=r63.2) (x':=r64.2) (vs:=[Enc.enc (x2.1:Int)]) (res:=Enc.enc (r64.1:Int)) h0 (by exact (zJ (v:=cuV zO r63.2) h72 rfl (zJ (v:=Enc.enc (x2.1:Int)) h74 rfl yp))) (yb te yk) fm1 (H.c69 _ _ _ Er64) H.g69 te rfl (fun s41 hb41 ha41=>gm (rf (ji r64.1)) fun h10=>?_)
     refine gz [(0,_),(3,bG 3 x2),(4,nI),(5,oI 5 [] (.of x53)),(6,.ref (.bx 6) 0 [] (.agg [eL x54,eL x55])),(9,ji x56),(10,_)] ⟨(show s41 0=(bC r64.2) from hb41 0 h0),(show s41 3=(bG 3 x2) from ha41 3 _ _ h3 rfl (zj rfl mIE)),(show s41 4=nI from ha41 4 _ _ h4 rfl rfl),(show s41 5=(oI 5 [] (.of x53)) from ha41 5 _ _ h5 rfl (zl (r:=5) (p:=[]) rfl rfl)),(show s41 6=(.ref (.bx 6) 0 [] (.agg [eL x54,eL x55])) from ha41 6 _ _ h6 rfl (zj rfl (zM (zg me (zg me zx))))),(show s41 9=(ji x56) from ha41 9 _ _ h9 rfl mi),h10⟩ ?_
     rintro s ⟨h0,h3,h4,h5,h6,h9,h10⟩
     refine .nsq (.seq (.seq (rg (g1 6 (.ref (.bx 6) 0 [0] (eL x54)) h6 fun h76=>g1 76 (eL x54) h76 fun h77=>gm h10 fun h78=>?_))))
     obtain ⟨r65,Er65,h⟩:=zc h
     refine gcF [eL x54,Enc.enc (r64.1:Int)] (zf h77 rfl (Enc.erase_enc (x54:LI)) (zf h78 rfl rfl zC)) (H.c35 _ _ _ Er65) H.g35 (gq (.nsq (zn rfl h (fun h=>?_) (fun h=>?_))))
     · refine rg (gm h10 fun h80=>g1 80 (ji (w64 ((-1) - r64.1))) h80 fun h81=>gm h81 fun h10=>gq ?_)
       exact zb3 H r64 x2 x53 x54 x55 x56 (yT F x2 k) ih (w64 ((-1) - r64.1)) _ ⟨h0,h3,h4,h5,h6,h9,h10⟩ h
     refine .skip ?_
     exact zb3 H r64 x2 x53 x54 x55 x56 (yT F x2 k) ih r64.1 _ ⟨h0,h3,h4,h5,h6,h9,h10⟩ h
   refine .exit (.esq (.elp (.ebk (.nbk (.nsq (.seq (rg (gm h5 fun h90=>gm h90 fun h4=>yK (yo (r:=5) (x:=4) (v:=_) h4 rfl (fun s45 hz45=>Yt (x:=4) (v:=oI 4 [] (.of x53)) [.at 4 []] (by exact (hz45 4 _ _ h4 (zl (r:=5) (p:=[]) rfl rfl))) z8 (fun s46 hz46=>?_)))))))))))
   refine ez [(0,bC r63.2),(4,eL x53)] ⟨hz46 0 (bC r63.2) (bC r63.2) (hz45 0 _ _ h0 (zj rfl wW)) (yV rfl Nu rfl),hz46 4 (oI 4 [] (.of x53)) (eL x53) (hz45 4 _ _ h4 (zl (r:=5) (p:=[]) rfl rfl)) vJ⟩ ?_
   rintro s ⟨h0,h4⟩
   refine .nsq (.ret ?_)
   obtain rfl:=oi h
   exact rt1 (t:=0) (zm h4) h0
def yz (F:Nat) (x2:GR) :Nat→LB→Int→Int→LI→LI→LI→Int→Option (LI×CU)
 | 0,_,_,_,_,_,_,_=>none
 | k + 1,x16,x17,x18,x19,x20,x21,x22=>
   bif decide (x22 > 0) then
    (yj F (cu x16 x17 x18) x2.1).bind fun r32=>
    (wI F x20 r32.1).bind fun r33=>
    bif r33 then
     wx F r32 x2 x19 x20 x21 x22 (yz F x2 k) (w64 ((-1) - r32.1))
    else
     wx F r32 x2 x19 x20 x21 x22 (yz F x2 k) r32.1
   else
    (yj F (cu x16 x17 x18) 24).bind fun r41=>
    bif (r41.1 == 0) then
     (yR F (Cu.mk r41.2) [(-9),8,0,(-1),4611686018427387904,(-9223372036854775808)]).bind fun r42=>
     (vz x19 [r42.1]).bind fun ap43=>
     some (ap43,r42.2)
    else
     bif (r41.1 == 1) then
      yT F x2 F r41.2.a r41.2.b r41.2.c.v x19 x20 x21 0
     else
      some (x19,r41.2)
theorem zjr (H:H49 D σ F) (x2:GR) :∀ (k:Nat) (x16:LB) (x17:Int) (x18:Int) (x19:LI) (x20:LI) (x21:LI) (x22:Int) (s:Nat→V),zr [(0,.ref (.bx zO) 0 [] (.agg [eB x16,ji x17,.int .u64 x18])),(3,bG 3 x2),(4,nI),(5,oI 5 [] (.of x19)),(6,.ref (.bx 6) 0 [] (.agg [eL x20,eL x21])),(7,ji x22)] s→yz F x2 k x16 x17 x18 x19 x20 x21 x22=some r→Run D σ (R49 r) (.run KC [.lp KC,.bk 0,.sq Lm]) s:=by
 intro k
 induction k with
 | zero=>intro x16 x17 x18 x19 x20 x21 x22 s _ h;exact nm h
 | succ k ih=>
   intro x16 x17 x18 x19 x20 x21 x22 s hs h
   rw [yz] at h
   obtain ⟨h0,h3,h4,h5,h6,h7⟩:=hs
   refine .seq (.seq (rg (gm h7 fun h26=>g1 26 (jb (decide (x22 > 0))) h26 fun h27=>gq (.nsq (zn h27 h (fun h=>?_) (fun h=>?_))))))
   · refine .skip (.nsq (.seq (.block (.seq (rg (gm h0 fun h30=>g1 3 (.ref (.bx 3) 0 [0] (ji x2.1)) h3 fun h31=>g1 31 (ji x2.1) h31 fun h32=>?_))))))
     obtain ⟨r32,Er32,h⟩:=zc h
     refine vf (r:=zO) (b:=0) (x:=((S3.mk x16 x17 (Kd.mk x18:Kd .u64)):CU)) (x':=r32.2) (vs:=[Enc.enc (x2.1:Int)]) (res:=Enc.enc (r32.1:Int)) h0 (by exact (zJ (v:=cuV zO ((S3.mk x16 x17 (Kd.mk x18:Kd .u64)):CU)) h30 rfl (zJ (v:=Enc.enc (x2.1:Int)) h32 rfl yp))) (yb te yk) fm1 (H.c69 _ _ _ Er32) H.g69 te rfl (fun s18 hb18 ha18=>gm (rf (ji r32.1)) fun h8=>?_)
     refine gz [(0,_),(3,bG 3 x2),(4,nI),(5,oI 5 [] (.of x19)),(6,.ref (.bx 6) 0 [] (.agg [eL x20,eL x21])),(7,ji x22),(8,_)] ⟨(show s18 0=(bC r32.2) from hb18 0 h0),(show s18 3=(bG 3 x2) from ha18 3 _ _ h3 rfl (zj rfl mIE)),(show s18 4=nI from ha18 4 _ _ h4 rfl rfl),(show s18 5=(oI 5 [] (.of x19)) from ha18 5 _ _ h5 rfl (zl (r:=5) (p:=[]) rfl rfl)),(show s18 6=(.ref (.bx 6) 0 [] (.agg [eL x20,eL x21])) from ha18 6 _ _ h6 rfl (zj rfl (zM (zg me (zg me zx))))),(show s18 7=(ji x22) from ha18 7 _ _ h7 rfl mi),h8⟩ ?_
     rintro s ⟨h0,h3,h4,h5,h6,h7,h8⟩
     refine .nsq (.seq (.seq (rg (g1 6 (.ref (.bx 6) 0 [0] (eL x20)) h6 fun h34=>g1 34 (eL x20) h34 fun h35=>gm h8 fun h36=>?_))))
     obtain ⟨r33,Er33,h⟩:=zc h
     refine gcF [eL x20,Enc.enc (r32.1:Int)] (zf h35 rfl (Enc.erase_enc (x20:LI)) (zf h36 rfl rfl zC)) (H.c35 _ _ _ Er33) H.g35 (gq (.nsq (zn rfl h (fun h=>?_) (fun h=>?_))))
     · refine rg (gm h8 fun h38=>g1 38 (ji (w64 ((-1) - r32.1))) h38 fun h39=>gm h39 fun h8=>gq ?_)
       exact zcw H r32 x2 x19 x20 x21 x22 (yz F x2 k) ih (w64 ((-1) - r32.1)) _ ⟨h0,h3,h4,h5,h6,h7,h8⟩ h
     refine .skip ?_
     exact zcw H r32 x2 x19 x20 x21 x22 (yz F x2 k) ih r32.1 _ ⟨h0,h3,h4,h5,h6,h7,h8⟩ h
   refine .exit (.esq (.elp (.ebk (.nsq (.seq (.seq (rg (gm h0 fun h52=>?_))))))))
   obtain ⟨r41,Er41,h⟩:=zc h
   refine vf (r:=zO) (b:=0) (x:=((S3.mk x16 x17 (Kd.mk x18:Kd .u64)):CU)) (x':=r41.2) (vs:=[Enc.enc (24:Int)]) (res:=Enc.enc (r41.1:Int)) h0 (by exact (zJ (v:=cuV zO ((S3.mk x16 x17 (Kd.mk x18:Kd .u64)):CU)) h52 rfl (zJ (v:=Enc.enc (24:Int)) rfl rfl yp))) (yb te yk) fm1 (H.c69 _ _ _ Er41) H.g69 te rfl (fun s22 hb22 ha22=>?_)
   refine gz [(0,_),(3,bG 3 x2),(4,nI),(5,oI 5 [] (.of x19)),(6,.ref (.bx 6) 0 [] (.agg [eL x20,eL x21])),(53,ji r41.1)] ⟨(show s22 0=(bC r41.2) from hb22 0 h0),(show s22 3=(bG 3 x2) from ha22 3 _ _ h3 rfl (zj rfl mIE)),(show s22 4=nI from ha22 4 _ _ h4 rfl rfl),(show s22 5=(oI 5 [] (.of x19)) from ha22 5 _ _ h5 rfl (zl (r:=5) (p:=[]) rfl rfl)),(show s22 6=(.ref (.bx 6) 0 [] (.agg [eL x20,eL x21])) from ha22 6 _ _ h6 rfl (zj rfl (zM (zg me (zg me zx))))),rfl⟩ ?_
   rintro s ⟨h0,h3,h4,h5,h6,h53⟩
   refine .nsq (.block (.seq (rg (g1 53 (jb (r41.1 == 0)) h53 fun h55=>gm h55 fun h54=>gq (.nsq (zn h54 h (fun h=>?_) (fun h=>?_)))))))
   · refine zw (zW ?_)
     refine ez [(0,_),(4,_),(5,_),(58,_),(60,_),(61,_)] ⟨za h0 rfl (zj rfl wW),za h4 rfl rfl,za h5 rfl (zl (r:=5) (p:=[]) rfl rfl),ze rfl,ze rfl,ze rfl⟩ ?_
     rintro s ⟨h0,h4,h5,h58,h60,h61⟩
     refine gm h5 fun h56=>gm h0 fun h57=>KU [] ([(-9),8,0,(-1),4611686018427387904,(-9223372036854775808)]:LI) trivial rfl rfl rfl h58 (fun s24 hd_24 hl_24=>?_)
     obtain ⟨r42,Er42,h⟩:=zc h
     refine vf (r:=zO) (b:=0) (x:=r41.2) (x':=r42.2) (vs:=[Enc.enc ([(-9),8,0,(-1),4611686018427387904,(-9223372036854775808)]:LI)]) (res:=Enc.enc (r42.1:Int)) (show s24 0=(bC r41.2) from (hl_24 0 (by decide)).trans h0) (by exact (zJ (v:=cuV zO r41.2) (show s24 57=(bC r41.2) from (hl_24 57 (by decide)).trans h57) rfl (zJ (v:=Enc.enc ([(-9),8,0,(-1),4611686018427387904,(-9223372036854775808)]:LI)) (show s24 58=(eL [(-9),8,0,(-1),4611686018427387904,(-9223372036854775808)]) from hd_24) rfl yp))) (yb te yk) fm1 (H.c70 _ _ _ Er42) H.g70 te rfl (fun s25 hb25 ha25=>?_)
     refine xb [(59,ji r42.1)] [Enc.enc (r42.1:Int)] rfl rfl rfl (show s25 60 = .gone from ha25 60 _ _ (show s24 60 = .gone from (hl_24 60 (by decide)).trans h60) rfl rfl) ?_
     obtain ⟨ap43,Eap43,h⟩:=zc h
     refine Z0 (q:=5) (p:=[]) (o:=.of (x19:LI)) (ys:=([r42.1]:LI)) (t2:=.at 60 []) (lo2:=0) (show s25 56=(oI 5 [] (.of x19)) from ha25 56 _ _ (show s24 56=(oI 5 [] (.of x19)) from (hl_24 56 (by decide)).trans h56) rfl (zl (r:=5) (p:=[]) rfl rfl)) rfl rfl (show s25 61 = .gone from ha25 61 _ _ (show s24 61 = .gone from (hl_24 61 (by decide)).trans h61) rfl rfl) (vK (o:=.of (x19:LI)) Eap43 trivial) (fun s26 ha26=>gm (rf (oI 61 [] (.of ap43))) fun h5=>yK (yo (r:=61) (x:=5) (v:=_) h5 rfl (fun s27 hz27=>?_)))
     refine ez [(0,bC r42.2),(4,nI),(5,oI 5 [] (.of ap43))] ⟨hz27 0 _ _ (show s26 0=(bC r42.2) from zy ha26 (show s25 0=(bC r42.2) from hb25 0 (show s24 0=(bC r41.2) from (hl_24 0 (by decide)).trans h0)) (zj rfl wW)) (zj rfl wW),hz27 4 _ nI (show s26 4=nI from zy ha26 (show s25 4=nI from ha25 4 _ _ (show s24 4=nI from (hl_24 4 (by decide)).trans h4) rfl rfl) rfl) rfl,hz27 5 _ _ h5 (zl (r:=61) (p:=[]) rfl rfl)⟩ ?_
     rintro s ⟨h0,h4,h5⟩
     refine .nbk (.nsq (.seq (rg (gm h5 fun h90=>gm h90 fun h4=>yK (yo (r:=5) (x:=4) (v:=_) h4 rfl (fun s28 hz28=>Yt (x:=4) (v:=oI 4 [] (.of ap43)) [.at 4 []] (by exact (hz28 4 _ _ h4 (zl (r:=5) (p:=[]) rfl rfl))) z8 (fun s29 hz29=>?_)))))))
     refine ez [(0,bC r42.2),(4,eL ap43)] ⟨hz29 0 (bC r42.2) (bC r42.2) (hz28 0 _ _ h0 (zj rfl wW)) (yV rfl Nu rfl),hz29 4 (oI 4 [] (.of ap43)) (eL ap43) (hz28 4 _ _ h4 (zl (r:=5) (p:=[]) rfl rfl)) vJ⟩ ?_
     rintro s ⟨h0,h4⟩
     refine .nsq (.ret ?_)
     obtain rfl:=oi h
     exact rt1 (t:=0) (zm h4) h0
   refine .seq (rg (g1 53 (jb (r41.1 == 1)) h53 fun h63=>gm h63 fun h62=>gq (.nsq (zn h62 h (fun h=>?_) (fun h=>?_)))))
   · refine .seq (rg (g0 (ji 0) fun h9=>gq (.nsq (.block (.loop ?_)))))
     exact zhp H x2 F r41.2.a r41.2.b r41.2.c.v x19 x20 x21 0 _ ⟨h0,h3,h4,h5,h6,h9⟩ h
   refine .skip (.nbk (.nsq (.seq (rg (gm h5 fun h90=>gm h90 fun h4=>yK (yo (r:=5) (x:=4) (v:=_) h4 rfl (fun s47 hz47=>Yt (x:=4) (v:=oI 4 [] (.of x19)) [.at 4 []] (by exact (hz47 4 _ _ h4 (zl (r:=5) (p:=[]) rfl rfl))) z8 (fun s48 hz48=>?_))))))))
   refine ez [(0,bC r41.2),(4,eL x19)] ⟨hz48 0 (bC r41.2) (bC r41.2) (hz47 0 _ _ h0 (zj rfl wW)) (yV rfl Nu rfl),hz48 4 (oI 4 [] (.of x19)) (eL x19) (hz47 4 _ _ h4 (zl (r:=5) (p:=[]) rfl rfl)) vJ⟩ ?_
   rintro s ⟨h0,h4⟩
   refine .nsq (.ret ?_)
   obtain rfl:=oi h
   exact rt1 (t:=0) (zm h4) h0
def vA (F:Nat) (x1:CC) (x2:GR)  (x4:Bool):Option (LI×CU):=
 bif x4 then
  some ([],x1.v)
 else
  (Zg F x2).bind fun r5=>
  (yR F (Cu.mk x1.v) [3,6,9,14,0]).bind fun r6=>
  yz F x2 F r6.2.a r6.2.b r6.2.c.v [] r5.1 r5.2 r6.1
theorem zcp (H:H49 D σ F) (x1:CC) (x2:GR)  (x4:Bool) (s:Nat→V) (hs:zr [(0,bC x1.v),(3,bG 3 x2),(4,nI),(5,oI 5 [] (.of [])),(19,jb x4)] s) (h:vA F x1 x2  x4=some r):Run D σ (R49 r) (.nrm [.sq zg6,.sq zjs]) s:=by
 unfold vA at h
 obtain ⟨h0,h3,h4,h5,h19⟩:=hs
 refine .nsq (zn h19 h (fun h=>?_) (fun h=>?_))
 · refine .seq (rg (gm h5 fun h20=>gm h20 fun h4=>yK (Yt (x:=4) (v:=oI 5 [] (.of [])) [.at 5 []] (by exact h4) z8 (fun s5 hz5=>?_))))
   refine ez [(0,bC x1.v),(3,bG 3 x2),(4,_),(5,_)] ⟨hz5 0 _ _ h0 (yV rfl Nu rfl),hz5 3 _ _ h3 (yV rfl zIE rfl),hz5 4 _ _ h4 vJ,hz5 5 _ _ h5 vJ⟩ ?_
   rintro s ⟨h0,h3,h4,h5⟩
   refine .nsq (.ret ?_)
   obtain rfl:=oi h
   exact rt1 (t:=0) (zm h4) h0
 refine .skip (.nsq (.seq (zw (zW ?_))))
 refine ez [(0,_),(3,_),(4,_),(5,_),(6,_)] ⟨za h0 rfl (zj rfl wW),za h3 rfl (zj rfl mIE),za h4 rfl rfl,za h5 rfl (zl (r:=5) (p:=[]) rfl rfl),ze rfl⟩ ?_
 rintro s ⟨h0,h3,h4,h5,h6⟩
 refine g1 3 (gV x2) h3 fun h21=>?_
 obtain ⟨r5,Er5,h⟩:=zc h
 refine xT (m:=0) (al:=true) (r:=Enc.enc (r5:(LI×LI))) [Enc.enc (x2:GR)] (zf h21 rfl (Enc.erase_enc (x2:GR)) zC) (H.c52 _ _ Er5) H.g52 (we (yc (v:=gV x2) h21 rfl rfl wd)) rfl rfl rfl (y9 h6 (z5 (.agg [eL r5.1,eL r5.2]) (zB rfl rfl) (zB rfl rfl) (xo (by first | rfl | simp [V.toks,V.tokss,Enc.toks_enc,zY])) (gz [(0,bC x1.v),(3,bG 3 x2),(4,nI),(5,oI 5 [] (.of [])),(6,.ref (.bx 6) 0 [] (.agg [eL r5.1,eL r5.2]))] ⟨zd h0 (zH rfl rfl WI),zd h3 (zH rfl rfl uIE),zd h4 rfl,zd h5 (wm rfl rfl),zd rfl rfl⟩ ?_)))
 rintro s ⟨h0,h3,h4,h5,h6⟩
 refine .nsq (.seq (.seq (zw (zW ?_))))
 refine ez [(0,_),(3,_),(4,_),(5,_),(6,_),(24,_)] ⟨za h0 rfl (zj rfl wW),za h3 rfl (zj rfl mIE),za h4 rfl rfl,za h5 rfl (zl (r:=5) (p:=[]) rfl rfl),za h6 rfl (zj rfl (zM (zg me (zg me zx)))),ze rfl⟩ ?_
 rintro s ⟨h0,h3,h4,h5,h6,h24⟩
 refine gm h0 fun h23=>KU [] ([3,6,9,14,0]:LI) trivial rfl rfl rfl h24 (fun s8 hd_8 hl_8=>?_)
 obtain ⟨r6,Er6,h⟩:=zc h
 refine vf (r:=zO) (b:=0) (x:=x1.v) (x':=r6.2) (vs:=[Enc.enc ([3,6,9,14,0]:LI)]) (res:=Enc.enc (r6.1:Int)) (show s8 0=(bC x1.v) from (hl_8 0 (by decide)).trans h0) (by exact (zJ (v:=cuV zO x1.v) (show s8 23=(bC x1.v) from (hl_8 23 (by decide)).trans h23) rfl (zJ (v:=Enc.enc ([3,6,9,14,0]:LI)) (show s8 24=(eL [3,6,9,14,0]) from hd_8) rfl yp))) (yb te yk) fm1 (H.c70 _ _ _ Er6) H.g70 te rfl (fun s9 hb9 ha9=>gm (rf (ji r6.1)) fun h7=>?_)
 refine gz [(0,_),(3,bG 3 x2),(4,nI),(5,oI 5 [] (.of [])),(6,.ref (.bx 6) 0 [] (.agg [eL r5.1,eL r5.2])),(7,_)] ⟨(show s9 0=(bC r6.2) from hb9 0 (show s8 0=(bC x1.v) from (hl_8 0 (by decide)).trans h0)),(show s9 3=(bG 3 x2) from ha9 3 _ _ (show s8 3=(bG 3 x2) from (hl_8 3 (by decide)).trans h3) rfl (zj rfl mIE)),(show s9 4=nI from ha9 4 _ _ (show s8 4=nI from (hl_8 4 (by decide)).trans h4) rfl rfl),(show s9 5=(oI 5 [] (.of [])) from ha9 5 _ _ (show s8 5=(oI 5 [] (.of [])) from (hl_8 5 (by decide)).trans h5) rfl (zl (r:=5) (p:=[]) rfl rfl)),(show s9 6=(.ref (.bx 6) 0 [] (.agg [eL r5.1,eL r5.2])) from ha9 6 _ _ (show s8 6=(.ref (.bx 6) 0 [] (.agg [eL r5.1,eL r5.2])) from (hl_8 6 (by decide)).trans h6) rfl (zj rfl (zM (zg me (zg me zx))))),h7⟩ ?_
 rintro s ⟨h0,h3,h4,h5,h6,h7⟩
 refine .nsq (.block (.loop ?_))
 exact zjr H x2 F r6.2.a r6.2.b r6.2.c.v [] r5.1 r5.2 r6.1 _ ⟨h0,h3,h4,h5,h6,h7⟩ h
def wq (F:Nat) (x1:CC) (x2:GR):Option (LI×CU):=
 (ug F x2).bind fun r69=>
 bif (!r69) then
  vA F x1 x2 true
 else
  vA F x1 x2 (x2.1 == 0)
theorem t49 (H:H49 D σ F) (x1:CC) (x2:GR) (s:Nat→V) (hs:zr [(0,bC x1.v),(1,gV x2)] s) (h:wq F x1 x2=some r):Run D σ (R49 r) (.run A49 []) s:=by
 unfold wq at h
 obtain ⟨h0,h1⟩:=hs
 refine .seq (zw (zW ?_))
 refine ez [(0,_),(1,_),(3,_)] ⟨za h0 rfl (zj rfl wW),za h1 rfl mIE,ze rfl⟩ ?_
 rintro s ⟨h0,h1,h3⟩
 refine xn (gV x2) (zB h1 rfl) h3 rfl (g0 nI fun h4=>gq (.nsq (.seq (zw (zW ?_)))))
 refine ez [(0,_),(3,_),(4,_),(11,_)] ⟨za h0 rfl (zj rfl wW),za rfl rfl (zj rfl mIE),za h4 rfl rfl,ze rfl⟩ ?_
 rintro s ⟨h0,h3,h4,h11⟩
 refine xb [] [] trivial rfl rfl h11 (gm (rf (oI 11 [] (.of []))) fun h5=>yK (yo (r:=11) (x:=5) (v:=_) h5 rfl (fun s3 hz3=>?_)))
 refine ez [(0,bC x1.v),(3,bG 3 x2),(4,nI),(5,oI 5 [] (.of []))] ⟨hz3 0 _ _ h0 (zj rfl wW),hz3 3 _ _ h3 (zj rfl mIE),hz3 4 _ _ h4 rfl,hz3 5 _ _ h5 (zl (r:=11) (p:=[]) rfl rfl)⟩ ?_
 rintro s ⟨h0,h3,h4,h5⟩
 refine .nsq (.seq (.seq (rg (g1 3 (gV x2) h3 fun h12=>?_))))
 obtain ⟨r69,Er69,h⟩:=zc h
 refine gcF [Enc.enc (x2:GR)] (zf h12 rfl (Enc.erase_enc (x2:GR)) zC) (H.c28 _ _ Er69) H.g28 (g1 13 (jb (!r69)) (rf (jb r69)) fun h14=>gm h14 fun h15=>zX h (fun hg4 h=>?_) (fun hg4 h=>?_))
 · iterate 3 refine yq (ct h15 hg4) ?_
   refine g2 15 18 (jb true) (ct h15 hg4) (rf (.tup [])) fun h19=>gq ?_
   exact zcp H x1 x2 true _ ⟨h0,h3,h4,h5,h19⟩ h
 refine zp (ct h15 hg4) (g1 3 (.ref (.bx 3) 0 [0] (ji x2.1)) h3 fun h16=>zp (ct h15 hg4) (g1 16 (ji x2.1) h16 fun h17=>zp (ct h15 hg4) (g1 17 (jb (x2.1 == 0)) h17 fun h18=>g2 15 18 (jb (x2.1 == 0)) (ct h15 hg4) h18 fun h19=>gq ?_)))
 exact zcp H x1 x2 (x2.1 == 0) _ ⟨h0,h3,h4,h5,h19⟩ h
end
def e49 (F:Nat):Ent:=ent 49 (fun (x:(CC×GR×Unit))=>wq F x.1 x.2.1) (fun (r:(LI×CU))=>(.tup [eL r.1,.tup [cuV zO r.2]])) uK false []
abbrev C49 (D:List V→Option V) (F:Nat):Prop:=∀ (x0:CC) (x1:GR) r,wq F x0 x1=some r→D [Arg.arg x0,Enc.enc x1]=some (.tup [eL r.1,.tup [cuV zO r.2]])
theorem p49 {F:Nat}:C49 (e49 F).den F:=fun x0 x1 _ h=>zS (x0,x1,()) h
theorem o49 (hF:zG Try.prog D σ) (H:H49 D σ F):(e49 F).Ok Try.prog:=okZ (f:=49) Try.func49 fun ⟨x0,x1,_⟩ y hy=>cT hF Try.func49 c49 (t49 H x0 x1 _ ⟨rfl,rfl⟩ hy)
def zlc:AC:=(.seq (rr [jx 28 (.vN (.load (.ag [.s,.p]) (.t 5)) [4]),jm 29 4,jx 30 (.vN (.load (.ag [.s,.p]) (.t 5)) [4]),jx 31 (.callT (jf 49) [.t 29,.t 30] [4] []),jz (.store (.ag [.s,.p]) (.t 2) (.t 28)),jm 3 31]) .ret)
def zow:AC:=(.cond (.t 25) (.seq (rr [jv 26 (.load (.ag [.s,.p]) (.t 5)),jm 27 7,jz (.store (.ag [.s,.p]) (.t 2) (.t 26)),jm 3 27]) .ret) .skip)
def zt5:AC:=(.seq (rr [jm 25 8]) zow)
def zpX:AC:=(.cond (.t 18) (.seq (rr [jv 20 (.load (.ag [.s,.p]) (.t 5)),jm 21 6,jx 22 (.call (jf 21) [.t 20,.t 21]),jm 19 22,jv 23 (.ext (.t 19) 0),jv 24 (.extS (.t 19) 1),jm 7 23,jm 8 24]) zt5) .skip)
def zrG:AC:=(.seq (rr [jm 17 4,jx 18 (.callT (jf 48) [.t 17,jn 3] [4] [])]) zpX)
def zqs:AC:=(.seq (.seq (rr [jm 14 4,jv 15 (.load (.ag [.s,.p]) (.t 5)),jx 16 (.callT (jf 47) [.t 14,.t 15] [4] []),jm 6 16]) zrG) zlc)
def zqB:AC:=(.seq (.reg [.clr [5]] [jm 12 4,jx 13 (.callT (jf 46) [.t 12] [4] []),jx 5 (.alloc (.agg [i0,.sl .nl (.ag [.s,.s]) 0 []])),jz (.store (.ag [.s,.p]) (.t 5) (.t 13))] []) zqs)
def zoR:AC:=(.seq (.reg [.clr [11]] [jm 9 0,jv 10 (.bld (.agg [.sl .nl .s 0 [],i0,.int .u64 (.ofNat 0)]) [(0,0,.t 9)]),jx 11 (.box (.t 10)),jm 4 11] []) zqB)
def A25:AC:=(.seq (.reg [.clr [2]] [jx 2 (.alloc (.agg [i0,.sl .nl (.ag [.s,.s]) 0 []])),jv 3 (.mov (.k (.sl .nl .s 0 [])))] []) zoR)
def zu9:List An:=[⟨0,[.clr [2]],[],[],[]⟩,⟨1,[.clr [11]],[],[],[]⟩,⟨2,[.clr [5]],[],[2000004],[]⟩,⟨3,[],[],[3000004],[]⟩,⟨4,[],[],[2000004],[]⟩,⟨8,[],[],[4000004,1000004,3000004],[]⟩]
theorem c25:cq Try.prog Try.f25 zu9=some A25:=by kernel_rfl
structure H25 (D:Den) (σ:Sig) (F:Nat):Prop where
 c46:C46 (D 46) F
 g46:σ 46=some (uK,false)
 c47:C47 (D 47) F
 g47:σ 47=some (uK,false)
 c48:C48 (D 48) F
 g48:σ 48=some (uK,false)
 c21:C21 (D 21) F
 g21:σ 21=some (0,false)
 c49:C49 (D 49) F
 g49:σ 49=some (uK,false)
abbrev R25 (r:(GR×LI)):(Nat→V)→Prop:=RR Try.prog [.cell 2 26,.tmp 3] 0 true (.tup [Enc.enc (r.1:GR),eL r.2])
section
variable {r:(GR×LI)}
def wB (F:Nat) (r4:(Bool×CU)) (r2:(GR×CU))  :Option (GR×LI):=
 (wq F (Cu.mk r4.2) r2.1).bind fun r6=>
 some (r2.1,r6.1)
theorem zbJ (H:H25 D σ F) (r4:(Bool×CU)) (r2:(GR×CU))   (s:Nat→V) (hs:zr [(2,bZ 2),(3,nI),(4,.ref (.bx 11) 0 [] (cV r4.2)),(5,bG 5 r2.1)] s) (h:wB F r4 r2  =some r):Run D σ (R25 r) (.nrm [.sq zlc]) s:=by
 unfold wB at h
 obtain ⟨h2,h3,h4,h5⟩:=hs
 refine .nsq (.seq (rg (LE (r:=11) (b:=4) (x:=r4.2) (gV r2.1) h4 (Ye [(5,bG 5 r2.1)] h5 rfl rfl) [(5,bG 5 r2.1)] h5 rfl (by simp [V.live,V.lives,vt,V.toks,V.tokss,z8,Enc.toks_enc,zO,uL]) (by simp [V.toks,V.tokss,z8,Enc.toks_enc,zO,uL]) (gm h4 fun h29=>LE (r:=11) (b:=4) (x:=r4.2) (gV r2.1) h4 (Ye [(5,bG 5 r2.1)] h5 rfl rfl) [(5,bG 5 r2.1)] h5 rfl (by simp [V.live,V.lives,vt,V.toks,V.tokss,z8,Enc.toks_enc,zO,uL]) (by simp [V.toks,V.tokss,z8,Enc.toks_enc,zO,uL]) ?_))))
 obtain ⟨r6,Er6,h⟩:=zc h
 refine vf (r:=11) (b:=4) (x:=r4.2) (x':=r6.2) (vs:=[Enc.enc (r2.1:GR)]) (res:=eL r6.1) h4 (by exact (zJ (v:=cuV 11 r4.2) h29 rfl (zJ (v:=Enc.enc (r2.1:GR)) rfl rfl yp))) (yb te yk) fm1 (H.c49 _ _ _ Er6) H.g49 te rfl (fun s7 hb7 ha7=>z5 (gV r2.1) (zB (show s7 2=(bZ 2) from ha7 2 _ _ h2 rfl (zj rfl (mIx rfl))) rfl) (zB (show s7 28=(gV r2.1) from ha7 28 (gV r2.1) _ rfl rfl mIE) rfl) (xo (by first | rfl | simp [V.toks,V.tokss,Enc.toks_enc,zY])) (gm (zd rfl uE) fun h3=>gz [(2,bG 2 r2.1),(3,_)] ⟨zd (show s7 2=(bZ 2) from ha7 2 _ _ h2 rfl (zj rfl (mIx rfl))) rfl,h3⟩ ?_))
 rintro s ⟨h2,h3⟩
 refine .nsq (.ret ?_)
 obtain rfl:=oi h
 exact rrB (xZ h2 (by kernel_rfl)) (zm h3) (xV (w6 (z7 (xd (x:=(r2.1:GR))) (z7 (xd (x:=(r6.1:LI))) xJ))))
def vP (F:Nat) (x1:LB):Option (GR×LI):=
 (wc F (cu x1 0 0)).bind fun r2=>
 (wN F (Cu.mk r2.2) r2.1).bind fun r3=>
 (xY F (Cu.mk r3.2) 3).bind fun r4=>
 bif r4.1 then
  (yY F r2.1 r3.1).bind fun r7=>
  bif r7.2 then
   some (r2.1,r7.1)
  else
   wB F r4 r2
 else
  wB F r4 r2
theorem t25 (H:H25 D σ F) (x1:LB) (s:Nat→V) (hs:zr [(0,eB x1)] s) (h:vP F x1=some r):Run D σ (R25 r) (.run A25 []) s:=by
 unfold vP at h
 have h0:=hs
 refine .seq (zw (zW ?_))
 refine ez [(0,_),(2,_)] ⟨za h0 rfl me,ze rfl⟩ ?_
 rintro s ⟨h0,h2⟩
 refine y9 h2 (g0 nI fun h3=>gq (.nsq (.seq (zw (zW ?_)))))
 refine ez [(0,_),(2,_),(3,_),(11,_)] ⟨za h0 rfl me,za rfl rfl (zj rfl (mIx rfl)),za h3 rfl rfl,ze rfl⟩ ?_
 rintro s ⟨h0,h2,h3,h11⟩
 refine gm h0 fun h9=>g1 9 (.agg [eB x1,ji 0,.int .u64 0]) h9 fun h10=>xn (.agg [eB x1,ji 0,.int .u64 0]) (zB h10 rfl) h11 rfl (gm (rf (.ref (.bx 11) 0 [] (.agg [eB x1,ji 0,.int .u64 0]))) fun h4=>gq (.nsq (.seq (zw (zW ?_)))))
 refine ez [(2,_),(3,_),(4,_),(5,_)] ⟨za h2 rfl (zj rfl (mIx rfl)),za h3 rfl rfl,za h4 rfl (zj rfl wW),ze rfl⟩ ?_
 rintro s ⟨h2,h3,h4,h5⟩
 refine gm h4 fun h12=>?_
 obtain ⟨r2,Er2,h⟩:=zc h
 refine vf (r:=11) (b:=4) (x:=((S3.mk x1 0 (Kd.mk 0:Kd .u64)):CU)) (x':=r2.2) (vs:=[]) (res:=Enc.enc (r2.1:GR)) h4 (by exact (zJ (v:=cuV 11 ((S3.mk x1 0 (Kd.mk 0:Kd .u64)):CU)) h12 rfl yp)) yk (fun f=>zx) (H.c46 _ _ Er2) H.g46 te rfl (fun s4 hb4 ha4=>y9 (show s4 5 = .gone from ha4 5 _ _ h5 rfl rfl) (z5 (gV r2.1) (zB rfl rfl) (zB rfl rfl) (xo (by first | rfl | simp [V.toks,V.tokss,Enc.toks_enc,zY])) ?_))
 refine gz [(2,bZ 2),(3,nI),(4,.ref (.bx 11) 0 [] (cV r2.2)),(5,bG 5 r2.1)] ⟨zd (show s4 2=(bZ 2) from ha4 2 _ _ h2 rfl (zj rfl (mIx rfl))) (zH rfl rfl (yJ (zF rfl (zF rfl rfl)))),zd (show s4 3=nI from ha4 3 _ _ h3 rfl rfl) rfl,zd (show s4 4=(.ref (.bx 11) 0 [] (cV r2.2)) from hb4 4 h4) (zH rfl rfl WI),zd rfl rfl⟩ ?_
 rintro s ⟨h2,h3,h4,h5⟩
 refine .nsq (.seq (.seq (rg (gm h4 fun h14=>g1 5 (gV r2.1) h5 fun h15=>?_))))
 obtain ⟨r3,Er3,h⟩:=zc h
 refine vf (r:=11) (b:=4) (x:=r2.2) (x':=r3.2) (vs:=[Enc.enc (r2.1:GR)]) (res:=eL r3.1) h4 (by exact (zJ (v:=cuV 11 r2.2) h14 rfl (zJ (v:=Enc.enc (r2.1:GR)) h15 rfl yp))) (yb te yk) fm1 (H.c47 _ _ _ Er3) H.g47 te rfl (fun s5 hb5 ha5=>gm (rf (eL r3.1)) fun h6=>gz [(2,bZ 2),(3,nI),(4,_),(5,bG 5 r2.1),(6,_)] ⟨(show s5 2=(bZ 2) from ha5 2 _ _ h2 rfl (zj rfl (mIx rfl))),(show s5 3=nI from ha5 3 _ _ h3 rfl rfl),(show s5 4=(.ref (.bx 11) 0 [] (cV r3.2)) from hb5 4 h4),(show s5 5=(bG 5 r2.1) from ha5 5 _ _ h5 rfl (zj rfl mIE)),h6⟩ ?_)
 rintro s ⟨h2,h3,h4,h5,h6⟩
 refine .nsq (.seq (rg (gm h4 fun h17=>?_)))
 obtain ⟨r4,Er4,h⟩:=zc h
 refine vf (r:=11) (b:=4) (x:=r3.2) (x':=r4.2) (vs:=[Enc.enc (3:Int)]) (res:=Enc.enc (r4.1:Bool)) h4 (by exact (zJ (v:=cuV 11 r3.2) h17 rfl (zJ (v:=Enc.enc (3:Int)) rfl rfl yp))) (yb te yk) fm1 (H.c48 _ _ _ Er4) H.g48 te rfl (fun s6 hb6 ha6=>gz [(2,bZ 2),(3,nI),(4,_),(5,bG 5 r2.1),(6,eL r3.1),(18,jb r4.1)] ⟨(show s6 2=(bZ 2) from ha6 2 _ _ h2 rfl (zj rfl (mIx rfl))),(show s6 3=nI from ha6 3 _ _ h3 rfl rfl),(show s6 4=(.ref (.bx 11) 0 [] (cV r4.2)) from hb6 4 h4),(show s6 5=(bG 5 r2.1) from ha6 5 _ _ h5 rfl (zj rfl mIE)),(show s6 6=(eL r3.1) from ha6 6 _ _ h6 rfl me),rfl⟩ ?_)
 rintro s ⟨h2,h3,h4,h5,h6,h18⟩
 refine .nsq (zn h18 h (fun h=>?_) (fun h=>?_))
 · refine .seq (rg (g1 5 (gV r2.1) h5 fun h20=>gm h6 fun h21=>?_))
   obtain ⟨r7,Er7,h⟩:=zc h
   refine gcF [Enc.enc (r2.1:GR),eL r3.1] (zf h20 rfl (Enc.erase_enc (r2.1:GR)) (zf h21 rfl (Enc.erase_enc (r3.1:LI)) zC)) (H.c21 _ _ _ Er7) H.g21 (gm (rf (.tup [eL r7.1,jb r7.2])) fun h19=>g1 19 (eL r7.1) h19 fun h23=>g1 19 (jb r7.2) h19 fun h24=>gm h23 fun h7=>gm h24 fun h8=>gq (.nsq (.seq (rg (gm h8 fun h25=>gq (.nsq (zn h25 h (fun h=>?_) (fun h=>?_))))))))
   · refine .seq (rg (g1 5 (gV r2.1) h5 fun h26=>gm h7 fun h27=>z5 (gV r2.1) (zB h2 rfl) (zB h26 rfl) (xo (by first | rfl | simp [V.toks,V.tokss,Enc.toks_enc,zY])) (gm (zd h27 uE) fun h3=>gz [(2,bG 2 r2.1),(3,_),(4,.ref (.bx 11) 0 [] (cV r4.2)),(5,bG 5 r2.1)] ⟨zd h2 rfl,h3,zd h4 (zH rfl rfl WI),zd h5 (zH rfl rfl uIE)⟩ ?_)))
     rintro s ⟨h2,h3,h4,h5⟩
     refine .nsq (.ret ?_)
     obtain rfl:=oi h
     exact rrB (xZ h2 (by kernel_rfl)) (zm h3) (xV (w6 (z7 (xd (x:=(r2.1:GR))) (z7 (xd (x:=(r7.1:LI))) xJ))))
   refine .skip ?_
   exact zbJ H r4 r2 _ ⟨h2,h3,h4,h5⟩ h
 refine .skip ?_
 exact zbJ H r4 r2 _ ⟨h2,h3,h4,h5⟩ h
end
def e25 (F:Nat):Ent:=ent 25 (fun (x:(LB×Unit))=>vP F x.1) (fun (r:(GR×LI))=>(.tup [Enc.enc (r.1:GR),eL r.2])) 0 true []
abbrev C25 (D:List V→Option V) (F:Nat):Prop:=∀ (x0:LB) r,vP F x0=some r→D [Enc.enc x0]=some (.tup [Enc.enc (r.1:GR),eL r.2])
theorem p25 {F:Nat}:C25 (e25 F).den F:=fun x0 _ h=>zS (x0,()) h
theorem o25 (hF:zG Try.prog D σ) (H:H25 D σ F):(e25 F).Ok Try.prog:=okZ (f:=25) Try.func25 fun ⟨x0,_⟩ y hy=>cR hF Try.func25 c25 (t25 H x0 _ rfl hy)
def zvX:AC:=(.seq (rr [jm 4 0,jx 5 (.call (jf 25) [.t 4]),jv 6 (.ext (.t 5) 0),jv 7 (.ext (.t 5) 1),jz (.store (.ag [.s,.p]) (.t 2) (.t 6)),jm 3 7]) .ret)
def A5:AC:=(.seq (.reg [.clr [2]] [jx 2 (.alloc (.agg [i0,.sl .nl (.ag [.s,.s]) 0 []])),jv 3 (.mov (.k (.sl .nl .s 0 [])))] []) zvX)
def an5:List An:=[⟨0,[.clr [2]],[],[],[]⟩]
theorem c5:cq Try.prog Try.f5 an5=some A5:=by kernel_rfl
structure H5 (D:Den) (σ:Sig) (F:Nat):Prop where
 c25:C25 (D 25) F
 g25:σ 25=some (0,true)
abbrev R5 (r:(GR×LI)):(Nat→V)→Prop:=RR Try.prog [.cell 2 26,.tmp 3] 0 true (.tup [Enc.enc (r.1:GR),eL r.2])
section
variable {r:(GR×LI)}
def wG (F:Nat) (x1:LB):Option (GR×LI):=
 (vP F x1).bind fun r2=>
 some (r2.1,r2.2)
theorem t5 (H:H5 D σ F) (x1:LB) (s:Nat→V) (hs:zr [(0,eB x1)] s) (h:wG F x1=some r):Run D σ (R5 r) (.run A5 []) s:=by
 unfold wG at h
 have h0:=hs
 refine .seq (zw (zW ?_))
 refine ez [(0,_),(2,_)] ⟨za h0 rfl me,ze rfl⟩ ?_
 rintro s ⟨h0,h2⟩
 refine y9 h2 (g0 nI fun h3=>gq (.nsq (.seq (rg (gm h0 fun h4=>?_)))))
 obtain ⟨r2,Er2,h⟩:=zc h
 refine xT (m:=0) (al:=true) (r:=.tup [Enc.enc (r2.1:GR),eL r2.2]) [Enc.enc (x1:LB)] (zf h4 rfl (Enc.erase_enc (x1:LB)) zC) (H.c25 _ _ Er2) H.g25 (we (yc (v:=eB x1) h4 rfl rfl wd)) rfl rfl rfl (g1 5 (gV r2.1) (rf (.tup [gV r2.1,eL r2.2])) fun h6=>g1 5 (eL r2.2) (rf (.tup [gV r2.1,eL r2.2])) fun h7=>z5 (gV r2.1) (zB rfl rfl) (zB h6 rfl) (xo (by first | rfl | simp [V.toks,V.tokss,Enc.toks_enc,zY])) (gm (zd h7 uE) fun h3=>gz [(2,bG 2 r2.1),(3,_)] ⟨zd rfl rfl,h3⟩ ?_))
 rintro s ⟨h2,h3⟩
 refine .nsq (.ret ?_)
 obtain rfl:=oi h
 exact rrB (xZ h2 (by kernel_rfl)) (zm h3) (xV (w6 (z7 (xd (x:=(r2.1:GR))) (z7 (xd (x:=(r2.2:LI))) xJ))))
end
def e5 (F:Nat):Ent:=ent 5 (fun (x:(LB×Unit))=>wG F x.1) (fun (r:(GR×LI))=>(.tup [Enc.enc (r.1:GR),eL r.2])) 0 true []
abbrev C5 (D:List V→Option V) (F:Nat):Prop:=∀ (x0:LB) r,wG F x0=some r→D [Enc.enc x0]=some (.tup [Enc.enc (r.1:GR),eL r.2])
theorem p5 {F:Nat}:C5 (e5 F).den F:=fun x0 _ h=>zS (x0,()) h
theorem o5 (hF:zG Try.prog D σ) (H:H5 D σ F):(e5 F).Ok Try.prog:=okZ (f:=5) Try.func5 fun ⟨x0,_⟩ y hy=>cR hF Try.func5 c5 (t5 H x0 _ rfl hy)
def zts:AC:=(.seq (rr [jm 7 0,jm 8 1,jv 9 (.bin .geq (.t 7) (.t 8)),jm 10 9,jg 11 10 true (.mov (.t 0)),jg 12 10 true (.mov (.t 2)),jg 13 10 true (.bin .leq (.t 11) (.t 12)),jv 14 (.pick (.t 10) (.t 13) kf),jm 6 14]) .ret)
def A55:AC:=(.seq (rr [jv 6 (.mov kf)]) zts)
def zuw:List An:=[]
theorem c55:cq Try.prog Try.f55 zuw=some A55:=by kernel_rfl
structure H55 (D:Den) (σ:Sig) (F:Nat):Prop where
 mk ::
abbrev R55 (r:Bool):(Nat→V)→Prop:=RR Try.prog [.tmp 6] 0 false (Enc.enc (r:Bool))
section
variable {r:Bool}
def Y4 (F:Nat) (x1:Int) (x2:Int) (x3:Int):Option Bool:=
 bif decide (x1≥x2) then
  some (decide (x1≤x3))
 else
  some false
theorem t55 (H:H55 D σ F) (x1:Int) (x2:Int) (x3:Int) (s:Nat→V) (hs:zr [(0,ji x1),(1,ji x2),(2,ji x3)] s) (h:Y4 F x1 x2 x3=some r):Run D σ (R55 r) (.run A55 []) s:=by
 unfold Y4 at h
 obtain ⟨h0,h1,h2⟩:=hs
 refine .seq (rg (g0 (jb false) fun h6=>gq (.nsq (.seq (rg (gm h0 fun h7=>gm h1 fun h8=>g2 7 8 (jb (decide (x1≥x2))) h7 h8 fun h9=>gm h9 fun h10=>zX h (fun hg4 h=>?_) (fun hg4 h=>?_)))))))
 · refine zp (ct h10 hg4) (gm h0 fun h11=>zp (ct h10 hg4) (gm h2 fun h12=>zp (ct h10 hg4) (g2 11 12 (jb (decide (x1≤x3))) h11 h12 fun h13=>g2 10 13 (jb (decide (x1≤x3))) (ct h10 hg4) h13 fun h14=>gm h14 fun h6=>gq (.nsq (.ret ?_)))))
   obtain rfl:=oi h
   exact rrA (zm h6) rfl
 iterate 3 refine yq (ct h10 hg4) ?_
 refine g2 10 13 (jb false) (ct h10 hg4) (rf (.tup [])) fun h14=>gm h14 fun h6=>gq (.nsq (.ret ?_))
 obtain rfl:=oi h
 exact rrA (zm h6) rfl
end
def e55 (F:Nat):Ent:=ent 55 (fun (x:(Int×Int×Int×Unit))=>Y4 F x.1 x.2.1 x.2.2.1) (fun (r:Bool)=>(Enc.enc (r:Bool))) 0 false []
abbrev C55 (D:List V→Option V) (F:Nat):Prop:=∀ (x0:Int) (x1:Int) (x2:Int) r,Y4 F x0 x1 x2=some r→D [Enc.enc x0,Enc.enc x1,Enc.enc x2]=some (Enc.enc (r:Bool))
theorem p55 {F:Nat}:C55 (e55 F).den F:=fun x0 x1 x2 _ h=>zS (x0,x1,x2,()) h
theorem o55 (hF:zG Try.prog D σ) (H:H55 D σ F):(e55 F).Ok Try.prog:=okZ (f:=55) Try.func55 fun ⟨x0,x1,x2,_⟩ y hy=>cR hF Try.func55 c55 (t55 H x0 x1 x2 _ ⟨rfl,rfl,rfl⟩ hy)
def zrB:AC:=(.seq (rr [jm 3 0,jm 4 0,jv 5 (.bin .neq (.t 3) (.t 4)),jm 2 5]) .ret)
def A86:AC:=(.seq (rr [jv 2 (.mov kf)]) zrB)
def zvG:List An:=[]
theorem c86:cq Try.prog Try.f86 zvG=some A86:=by kernel_rfl
structure H86 (D:Den) (σ:Sig) (F:Nat):Prop where
 mk ::
abbrev R86 (r:Bool):(Nat→V)→Prop:=RR Try.prog [.tmp 2] 0 false (Enc.enc (r:Bool))
section
variable {r:Bool}
def ur (F:Nat) (x1:Int):Option Bool:=
 some (x1 != x1)
theorem t86 (H:H86 D σ F) (x1:Int) (s:Nat→V) (hs:zr [(0,ji x1)] s) (h:ur F x1=some r):Run D σ (R86 r) (.run A86 []) s:=by
 unfold ur at h
 have h0:=hs
 refine .seq (rg (g0 (jb false) fun h2=>gq (.nsq (.seq (rg (gm h0 fun h3=>gm h0 fun h4=>g2 3 4 (jb (x1 != x1)) h3 h4 fun h5=>gm h5 fun h2=>gq (.nsq (.ret ?_))))))))
 obtain rfl:=oi h
 exact rrA (zm h2) rfl
end
def e86 (F:Nat):Ent:=ent 86 (fun (x:(Int×Unit))=>ur F x.1) (fun (r:Bool)=>(Enc.enc (r:Bool))) 0 false []
abbrev C86 (D:List V→Option V) (F:Nat):Prop:=∀ (x0:Int) r,ur F x0=some r→D [Enc.enc x0]=some (Enc.enc (r:Bool))
theorem p86 {F:Nat}:C86 (e86 F).den F:=fun x0 _ h=>zS (x0,()) h
theorem o86 (hF:zG Try.prog D σ) (H:H86 D σ F):(e86 F).Ok Try.prog:=okZ (f:=86) Try.func86 fun ⟨x0,_⟩ y hy=>cR hF Try.func86 c86 (t86 H x0 _ rfl hy)
def zpv:AC:=(.cond (.t 12) (.seq (rr [jv 4 (.mov (jn 0))]) .ret) .skip)
def zqq:AC:=(.seq (rr [jv 4 (.mov (jn (-1)))]) .ret)
def ztC:AC:=(.cond (.t 11) (.seq (.seq (rr [jm 12 6]) zpv) zqq) .skip)
def zq3:AC:=(.cond (.t 13) (.seq (rr [jv 4 (.mov (jn 1))]) .ret) .skip)
def znw:AC:=(.cond (.t 16) (.seq (rr [jv 4 (.mov (jn (-1)))]) .ret) .skip)
def zmu:AC:=(.cond (.t 19) (.seq (rr [jv 4 (.mov (jn 1))]) .ret) .skip)
def zmn:AC:=(.seq (rr [jv 4 (.mov (jn 0))]) .ret)
def zmS:AC:=(.seq (.seq (rr [jm 17 0,jm 18 1,jv 19 (.bin .gtr (.t 17) (.t 18))]) zmu) zmn)
def zs6:AC:=(.seq (.seq (rr [jm 14 0,jm 15 1,jv 16 (.bin .lss (.t 14) (.t 15))]) znw) zmS)
def zpW:AC:=(.seq (.seq (rr [jm 13 6]) zq3) zs6)
def ztM:AC:=(.seq (.seq (rr [jm 11 5]) ztC) zpW)
def zsR:AC:=(.seq (rr [jm 9 1,jx 10 (.call (jf 86) [.t 9]),jm 6 10]) ztM)
def zqu:AC:=(.seq (rr [jm 7 0,jx 8 (.call (jf 86) [.t 7]),jm 5 8]) zsR)
def A75:AC:=(.seq (rr [jv 4 (.mov (jn 0))]) zqu)
def zv7:List An:=[]
theorem c75:cq Try.prog Try.f75 zv7=some A75:=by kernel_rfl
structure H75 (D:Den) (σ:Sig) (F:Nat):Prop where
 c86:C86 (D 86) F
 g86:σ 86=some (0,false)
abbrev R75 (r:Int):(Nat→V)→Prop:=RR Try.prog [.tmp 4] 0 false (Enc.enc (r:Int))
section
variable {r:Int}
def vd (F:Nat) (x1:Int) (x2:Int):Option Int:=
 (ur F x1).bind fun r3=>
 (ur F x2).bind fun r4=>
 bif r3 then
  bif r4 then
   some 0
  else
   some (-1)
 else
  bif r4 then
   some 1
  else
   bif decide (x1 < x2) then
    some (-1)
   else
    bif decide (x1 > x2) then
     some 1
    else
     some 0
theorem t75 (H:H75 D σ F) (x1:Int) (x2:Int) (s:Nat→V) (hs:zr [(0,ji x1),(1,ji x2)] s) (h:vd F x1 x2=some r):Run D σ (R75 r) (.run A75 []) s:=by
 unfold vd at h
 obtain ⟨h0,h1⟩:=hs
 refine .seq (rg (g0 (ji 0) fun h4=>gq (.nsq (.seq (rg (gm h0 fun h7=>?_))))))
 obtain ⟨r3,Er3,h⟩:=zc h
 refine gcF [Enc.enc (x1:Int)] (zf h7 rfl rfl zC) (H.c86 _ _ Er3) H.g86 (gm (rf (jb r3)) fun h5=>gq (.nsq (.seq (rg (gm h1 fun h9=>?_)))))
 obtain ⟨r4,Er4,h⟩:=zc h
 refine gcF [Enc.enc (x2:Int)] (zf h9 rfl rfl zC) (H.c86 _ _ Er4) H.g86 (gm (rf (jb r4)) fun h6=>gq (.nsq (.seq (.seq (rg (gm h5 fun h11=>gq (.nsq (zn h11 h (fun h=>?_) (fun h=>?_)))))))))
 · refine .seq (.seq (rg (gm h6 fun h12=>gq (.nsq (zn h12 h (fun h=>?_) (fun h=>?_))))))
   · refine .seq (rg (g0 (ji 0) fun h4=>gq (.nsq (.ret ?_))))
     obtain rfl:=oi h
     exact rrA (zm h4) rfl
   refine .skip (.nsq (.seq (rg (g0 (ji (-1)) fun h4=>gq (.nsq (.ret ?_))))))
   obtain rfl:=oi h
   exact rrA (zm h4) rfl
 refine .skip (.nsq (.seq (.seq (rg (gm h6 fun h13=>gq (.nsq (zn h13 h (fun h=>?_) (fun h=>?_))))))))
 · refine .seq (rg (g0 (ji 1) fun h4=>gq (.nsq (.ret ?_))))
   obtain rfl:=oi h
   exact rrA (zm h4) rfl
 refine .skip (.nsq (.seq (.seq (rg (gm h0 fun h14=>gm h1 fun h15=>g2 14 15 (jb (decide (x1 < x2))) h14 h15 fun h16=>gq (.nsq (zn h16 h (fun h=>?_) (fun h=>?_))))))))
 · refine .seq (rg (g0 (ji (-1)) fun h4=>gq (.nsq (.ret ?_))))
   obtain rfl:=oi h
   exact rrA (zm h4) rfl
 refine .skip (.nsq (.seq (.seq (rg (gm h0 fun h17=>gm h1 fun h18=>g2 17 18 (jb (decide (x1 > x2))) h17 h18 fun h19=>gq (.nsq (zn h19 h (fun h=>?_) (fun h=>?_))))))))
 · refine .seq (rg (g0 (ji 1) fun h4=>gq (.nsq (.ret ?_))))
   obtain rfl:=oi h
   exact rrA (zm h4) rfl
 refine .skip (.nsq (.seq (rg (g0 (ji 0) fun h4=>gq (.nsq (.ret ?_))))))
 obtain rfl:=oi h
 exact rrA (zm h4) rfl
end
def e75 (F:Nat):Ent:=ent 75 (fun (x:(Int×Int×Unit))=>vd F x.1 x.2.1) (fun (r:Int)=>(Enc.enc (r:Int))) 0 false []
abbrev C75 (D:List V→Option V) (F:Nat):Prop:=∀ (x0:Int) (x1:Int) r,vd F x0 x1=some r→D [Enc.enc x0,Enc.enc x1]=some (Enc.enc (r:Int))
theorem p75 {F:Nat}:C75 (e75 F).den F:=fun x0 x1 _ h=>zS (x0,x1,()) h
theorem o75 (hF:zG Try.prog D σ) (H:H75 D σ F):(e75 F).Ok Try.prog:=okZ (f:=75) Try.func75 fun ⟨x0,x1,_⟩ y hy=>cR hF Try.func75 c75 (t75 H x0 x1 _ ⟨rfl,rfl⟩ hy)
def zsQ:AC:=(.cond (.t 19) (.seq (rr [jv 4 (.mov (jn 1))]) .ret) .skip)
def zti:AC:=(.cond (.t 28) (.seq (rr [jm 29 8,jm 4 29]) .ret) .skip)
def zsi:AC:=(.seq (rr [jm 27 8,jv 28 (.bin .neq (.t 27) (jn 0))]) zti)
def zto:AC:=(.seq (rr [jm 24 6,jm 25 7,jx 26 (.call (jf 75) [.t 24,.t 25]),jm 8 26]) zsi)
def zoY:AC:=(.seq (rr [jm 20 1,jm 21 5,jv 22 (.idx (.t 20) (.t 21) 1),jl 23 22,jm 7 23]) zto)
def zsH:AC:=(.seq (.seq (rr [jm 16 5,jm 17 1,jk 18 17,jv 19 (.bin .geq (.t 16) (.t 18))]) zsQ) zoY)
def zop:AC:=(rr [jv 30 (.bin .add (.t 11) (jn 1)),jm 11 30])
def zo0:AC:=(.seq (.block 1 (.seq (rr [jm 13 11,jv 14 (.idx (.t 9) (.t 11) 1),jl 15 14,jm 5 13,jm 6 15]) zsH)) zop)
def zt9:AC:=(.seq (.cond (.t 12) .skip (.exit 0)) zo0)
def zib:AC:=(.seq (rr [jv 12 (.bin .lss (.t 11) (.t 10))]) zt9)
def znh:AC:=(.cond (.t 35) (.seq (rr [jv 4 (.mov (jn (-1)))]) .ret) .skip)
def zmZ:AC:=(.seq (rr [jv 4 (.mov (jn 0))]) .ret)
def ziU:AC:=(.seq (.seq (rr [jm 31 0,jk 32 31,jm 33 1,jk 34 33,jv 35 (.bin .lss (.t 32) (.t 34))]) znh) zmZ)
def zmL:AC:=(.block 0 (.loop zib))
def zmI:AC:=(.seq (.seq (rr [jm 9 0,jk 10 9,jv 11 (.mov (jn 0))]) zmL) ziU)
def A56:AC:=(.seq (rr [jv 4 (.mov (jn 0))]) zmI)
def zu4:List An:=[]
theorem c56:cq Try.prog Try.f56 zu4=some A56:=by kernel_rfl
structure H56 (D:Den) (σ:Sig) (F:Nat):Prop where
 c75:C75 (D 75) F
 g75:σ 75=some (0,false)
abbrev R56 (r:Int):(Nat→V)→Prop:=RR Try.prog [.tmp 4] 0 false (Enc.enc (r:Int))
section
variable {r:Int}
def ub (F:Nat) (x1:LI) (x2:LI) :Nat→Int→Option Int
 | 0,_=>none
 | k + 1,x6=>
   bif decide (x6 < (x1.length:Int)) then
    (idx x1 x6).bind fun v10=>
    bif decide (x6≥(x2.length:Int)) then
     some 1
    else
     (idx x2 x6).bind fun v11=>
     (vd F v10 v11).bind fun r12=>
     bif (r12 != 0) then
      some r12
     else
      (ub F x1 x2 k) (w64 (x6 + 1))
   else
    bif decide ((x1.length:Int) < (x2.length:Int)) then
     some (-1)
    else
     some 0
theorem zhq (H:H56 D σ F) (x1:LI) (x2:LI) :∀ (k:Nat) (x6:Int) (s:Nat→V),zr [(0,eL x1),(1,eL x2),(4,ji 0),(9,eL x1),(10,ji (x1.length:Int)),(11,ji x6)] s→ub F x1 x2 k x6=some r→Run D σ (R56 r) (.run zib [.lp zib,.bk 0,.sq ziU]) s:=by
 intro k
 induction k with
 | zero=>intro x6 s _ h;exact nm h
 | succ k ih=>
   intro x6 s hs h
   rw [ub] at h
   obtain ⟨h0,h1,h4,h9,h10,h11⟩:=hs
   refine .seq (rg (g2 11 10 (jb (decide (x6 < (x1.length:Int)))) h11 h10 fun h12=>gq (.nsq (.seq (zn h12 h (fun h=>?_) (fun h=>?_))))))
   · refine .skip (.nsq (.seq (.block (.seq (rg (gm h11 fun h13=>?_))))))
     obtain ⟨v10,Ev10,h⟩:=zc h
     refine gv (.ref .sh 0 [] (ji v10)) (yg (t:=.sh) (lo:=0) (xs:=x1) h9 h11 Ev10 rfl rfl) fun h14=>g1 14 (ji v10) h14 fun h15=>gm h13 fun h5=>gm h15 fun h6=>gq (.nsq (.seq (.seq (rg (gm h5 fun h16=>gm h1 fun h17=>gl x2 h17 fun h18=>g2 16 18 (jb (decide (x6≥(x2.length:Int)))) h16 h18 fun h19=>gq (.nsq (zn h19 h (fun h=>?_) (fun h=>?_))))))))
     · refine .seq (rg (g0 (ji 1) fun h4=>gq (.nsq (.ret ?_))))
       obtain rfl:=oi h
       exact rrA (zm h4) rfl
     refine .skip (.nsq (.seq (rg (gm h1 fun h20=>gm h5 fun h21=>?_))))
     obtain ⟨v11,Ev11,h⟩:=zc h
     refine gv (.ref .sh 0 [] (ji v11)) (yg (t:=.sh) (lo:=0) (xs:=x2) h20 h21 Ev11 rfl rfl) fun h22=>g1 22 (ji v11) h22 fun h23=>gm h23 fun h7=>gq (.nsq (.seq (rg (gm h6 fun h24=>gm h7 fun h25=>?_))))
     obtain ⟨r12,Er12,h⟩:=zc h
     refine gcF [Enc.enc (v10:Int),Enc.enc (v11:Int)] (zf h24 rfl rfl (zf h25 rfl rfl zC)) (H.c75 _ _ _ Er12) H.g75 (gm (rf (ji r12)) fun h8=>gq (.nsq (.seq (rg (gm h8 fun h27=>g1 27 (jb (r12 != 0)) h27 fun h28=>gq (.nsq (zn h28 h (fun h=>?_) (fun h=>?_))))))))
     · refine .seq (rg (gm h8 fun h29=>gm h29 fun h4=>gq (.nsq (.ret ?_))))
       obtain rfl:=oi h
       exact rrA (zm h4) rfl
     refine .skip (.nbk (.nsq (rg (g1 11 (ji (w64 (x6 + 1))) h11 fun h30=>gm h30 fun h11=>gq (.nlp ?_)))))
     exact ih (w64 (x6 + 1)) _ ⟨h0,h1,h4,h9,h10,h11⟩ h
   refine .exit (.esq (.elp (.ebk (.nsq (.seq (.seq (rg (gm h0 fun h31=>gl x1 h31 fun h32=>gm h1 fun h33=>gl x2 h33 fun h34=>g2 32 34 (jb (decide ((x1.length:Int) < (x2.length:Int)))) h32 h34 fun h35=>gq (.nsq (zn h35 h (fun h=>?_) (fun h=>?_)))))))))))
   · refine .seq (rg (g0 (ji (-1)) fun h4=>gq (.nsq (.ret ?_))))
     obtain rfl:=oi h
     exact rrA (zm h4) rfl
   refine .skip (.nsq (.seq (rg (g0 (ji 0) fun h4=>gq (.nsq (.ret ?_))))))
   obtain rfl:=oi h
   exact rrA (zm h4) rfl
def vG (F:Nat) (x1:LI) (x2:LI):Option Int:=
 ub F x1 x2 F 0
theorem t56 (H:H56 D σ F) (x1:LI) (x2:LI) (s:Nat→V) (hs:zr [(0,eL x1),(1,eL x2)] s) (h:vG F x1 x2=some r):Run D σ (R56 r) (.run A56 []) s:=by
 unfold vG at h
 obtain ⟨h0,h1⟩:=hs
 refine .seq (rg (g0 (ji 0) fun h4=>gq (.nsq (.seq (.seq (rg (gm h0 fun h9=>gl x1 h9 fun h10=>g0 (ji 0) fun h11=>gq (.nsq (.block (.loop ?_))))))))))
 exact zhq H x1 x2 F 0 _ ⟨h0,h1,h4,h9,h10,h11⟩ h
end
def e56 (F:Nat):Ent:=ent 56 (fun (x:(LI×LI×Unit))=>vG F x.1 x.2.1) (fun (r:Int)=>(Enc.enc (r:Int))) 0 false []
abbrev C56 (D:List V→Option V) (F:Nat):Prop:=∀ (x0:LI) (x1:LI) r,vG F x0 x1=some r→D [Enc.enc x0,Enc.enc x1]=some (Enc.enc (r:Int))
theorem p56 {F:Nat}:C56 (e56 F).den F:=fun x0 x1 _ h=>zS (x0,x1,()) h
theorem o56 (hF:zG Try.prog D σ) (H:H56 D σ F):(e56 F).Ok Try.prog:=okZ (f:=56) Try.func56 fun ⟨x0,x1,_⟩ y hy=>cR hF Try.func56 c56 (t56 H x0 x1 _ ⟨rfl,rfl⟩ hy)
def zlP:AC:=(.cond (.t 48) (.seq (rr [jv 2 (.mov kf)]) .ret) .skip)
def ztu:AC:=(.seq (rr [jv 17 (.idxA (.t 4) (jn 0) 2 1),jl 18 17,jv 19 (.bin .lss (.t 18) (jn 0)),jm 20 19,jg 21 20 false (.idxA (.t 4) (jn 0) 2 1),jg 22 20 false (.load .s (.t 21)),jg 23 20 false (.idxA (.t 4) (jn 1) 2 1),jg 24 20 false (.load .s (.t 23)),jg 25 20 false (.bin .geq (.t 22) (.t 24)),jv 26 (.pick (.t 20) kt (.t 25)),jm 27 26,jg 28 27 false (.idxA (.t 4) (jn 1) 2 1),jg 29 27 false (.load .s (.t 28)),jg 30 27 false (.fld (.t 1) 0 0),jg 31 27 false (.load .s (.t 30)),jg 32 27 false (.bin .geq (.t 29) (.t 31)),jv 33 (.pick (.t 27) kt (.t 32)),jm 34 33,jg 35 34 false (.mov (.t 3)),jg 36 34 false (.bin .gtr (.t 35) (jn 0)),jg 37 34 false (.mov (.t 36)),jg 38 37 true (.fld (.t 1) 1 1),jg 39 37 true (.load .p (.t 38)),jg 40 37 true (.mov (.t 3)),jg 41 37 true (.bin .sub (.t 40) (jn 1)),jg 42 37 true (.idx (.t 39) (.t 41) 2),jg 43 37 true (.sliceA (.t 42) 2 .s),jg 44 37 true (.sliceA (.t 4) 2 .s),.mk (some 45) (some (37,true)) false (.call (jf 56) [.t 43,.t 44]),jg 46 37 true (.bin .geq (.t 45) (jn 0)),jg 47 34 false (.pick (.t 37) (.t 46) kf),jv 48 (.pick (.t 34) kt (.t 47))]) zlP)
def zlk:AC:=(rr [jv 49 (.bin .add (.t 12) (jn 1)),jm 12 49])
def zo2:AC:=(.seq (.block 1 (.seq (.reg [.clr [4]] [jm 14 12,jv 15 (.idx (.t 10) (.t 12) 2),jv 16 (.load (.ag [.s,.s]) (.t 15)),jx 4 (.alloc (.agg [i0,i0])),jm 3 14,jz (.store (.ag [.s,.s]) (.t 4) (.t 16))] []) ztu)) zlk)
def zpR:AC:=(.seq (.cond (.t 13) .skip (.exit 0)) zo2)
def Qw:AC:=(.seq (rr [jv 13 (.bin .lss (.t 12) (.t 11))]) zpR)
def zeU:AC:=(.seq (rr [jv 2 (.mov kt)]) .ret)
def zrY:AC:=(.cond (.t 8) (.seq (rr [jv 2 (.mov kf)]) .ret) .skip)
def zmP:AC:=(.block 0 (.loop Qw))
def zn5:AC:=(.seq (.seq (rr [jv 9 (.fld (.t 1) 1 1),jv 10 (.load .p (.t 9)),jk 11 10,jv 12 (.mov (jn 0))]) zmP) zeU)
def ztU:AC:=(.seq (.seq (rr [jv 5 (.fld (.t 1) 0 0),jl 6 5,jx 7 (.call (jf 55) [.t 6,jn 0,jn 8]),jv 8 (.un .not (.t 7))]) zrY) zn5)
def A32:AC:=(.seq (.reg [.clr [1]] [jx 1 (.box (.t 0)),jv 2 (.mov kf)] []) ztU)
def zvT:List An:=[⟨0,[.clr [1]],[],[],[]⟩,⟨5,[.clr [4]],[],[],[]⟩]
theorem c32:cq Try.prog Try.f32 zvT=some A32:=by kernel_rfl
structure H32 (D:Den) (σ:Sig) (F:Nat):Prop where
 c55:C55 (D 55) F
 g55:σ 55=some (0,false)
 c56:C56 (D 56) F
 g56:σ 56=some (0,false)
abbrev R32 (r:Bool):(Nat→V)→Prop:=RR Try.prog [.tmp 2] 0 false (Enc.enc (r:Bool))
section
variable {r:Bool}
def ui (F:Nat) (x1:GR) (x9:Int) (c1:Int→Option Bool) (x19:Bool):Option Bool:=
 bif x19 then
  some false
 else
  c1 (w64 (x9 + 1))
theorem U5 (H:H32 D σ F) (x1:GR) (x9:Int) (c1:Int→Option Bool) (Hc1:∀ (x9:Int) (s:Nat→V),zr [(1,bG 1 x1),(2,jb false),(10,eP x1.2),(11,ji (x1.2.length:Int)),(12,ji x9)] s→c1 x9=some r→Run D σ (R32 r) (.run Qw [.lp Qw,.bk 0,.sq zeU]) s) (x19:Bool) (s:Nat→V) (hs:zr [(1,bG 1 x1),(2,jb false),(10,eP x1.2),(11,ji (x1.2.length:Int)),(12,ji x9),(48,jb x19)] s) (h:ui F x1 x9 c1 x19=some r):Run D σ (R32 r) (.nrm [.sq zlP,.bk 1,.sq zlk,.lp Qw,.bk 0,.sq zeU]) s:=by
 unfold ui at h
 obtain ⟨h1,h2,h10,h11,h12,h48⟩:=hs
 refine .nsq (zn h48 h (fun h=>?_) (fun h=>?_))
 · refine .seq (rg (g0 (jb false) fun h2=>gq (.nsq (.ret ?_))))
   obtain rfl:=oi h
   exact rrA (zm h2) rfl
 refine .skip (.nbk (.nsq (rg (g1 12 (ji (w64 (x9 + 1))) h12 fun h49=>gm h49 fun h12=>gq (.nlp ?_)))))
 exact Hc1 (w64 (x9 + 1)) _ ⟨h1,h2,h10,h11,h12⟩ h
def xc (F:Nat) (x1:GR) :Nat→Int→Option Bool
 | 0,_=>none
 | k + 1,x9=>
   bif decide (x9 < (x1.2.length:Int)) then
    (idx x1.2 x9).bind fun v16=>
    bif decide (v16.1 < 0) then
     ui F x1 x9 (xc F x1 k) true
    else
     bif decide (v16.1≥v16.2) then
      ui F x1 x9 (xc F x1 k) true
     else
      bif decide (v16.2≥x1.1) then
       ui F x1 x9 (xc F x1 k) true
      else
       bif decide (x9 > 0) then
        (idx x1.2 (w64 (x9 - 1))).bind fun v20=>
        (vG F [v20.1,v20.2] [v16.1,v16.2]).bind fun r21=>
        ui F x1 x9 (xc F x1 k) (decide (r21≥0))
       else
        ui F x1 x9 (xc F x1 k) false
   else
    some true
theorem zhi (H:H32 D σ F) (x1:GR) :∀ (k:Nat) (x9:Int) (s:Nat→V),zr [(1,bG 1 x1),(2,jb false),(10,eP x1.2),(11,ji (x1.2.length:Int)),(12,ji x9)] s→xc F x1 k x9=some r→Run D σ (R32 r) (.run Qw [.lp Qw,.bk 0,.sq zeU]) s:=by
 intro k
 induction k with
 | zero=>intro x9 s _ h;exact nm h
 | succ k ih=>
   intro x9 s hs h
   rw [xc] at h
   obtain ⟨h1,h2,h10,h11,h12⟩:=hs
   refine .seq (rg (g2 12 11 (jb (decide (x9 < (x1.2.length:Int)))) h12 h11 fun h13=>gq (.nsq (.seq (zn h13 h (fun h=>?_) (fun h=>?_))))))
   · refine .skip (.nsq (.seq (.block (.seq (zw (zW ?_))))))
     refine ez [(1,_),(2,_),(4,_),(10,_),(11,_),(12,_)] ⟨za h1 rfl (zj rfl mIE),za h2 rfl mb,ze rfl,za h10 rfl me,za h11 rfl mi,za h12 rfl mi⟩ ?_
     rintro s ⟨h1,h2,h4,h10,h11,h12⟩
     refine gm h12 fun h14=>?_
     obtain ⟨v16,Ev16,h⟩:=zc h
     refine gv (.ref .sh 0 [] (.agg [ji v16.1,ji v16.2])) (yg (t:=.sh) (lo:=0) (xs:=x1.2) h10 h12 Ev16 rfl rfl) fun h15=>g1 15 (.agg [ji v16.1,ji v16.2]) h15 fun h16=>y9 h4 (gm h14 fun h3=>z5 (.agg [ji v16.1,ji v16.2]) (zB rfl rfl) (zB h16 rfl) (xo (by first | rfl | simp [V.toks,V.tokss,Enc.toks_enc,zY])) (gz [(1,bG 1 x1),(2,jb false),(3,ji x9),(4,.ref (.bx 4) 0 [] (.agg [ji v16.1,ji v16.2])),(10,eP x1.2),(11,ji (x1.2.length:Int)),(12,ji x9)] ⟨zd h1 (zH rfl rfl uIE),zd h2 rfl,zd h3 rfl,zd rfl rfl,zd h10 uE,zd h11 rfl,zd h12 rfl⟩ ?_))
     rintro s ⟨h1,h2,h3,h4,h10,h11,h12⟩
     refine .nsq (.seq (rg (g1 4 (.ref (.bx 4) 0 [0] (ji v16.1)) h4 fun h17=>g1 17 (ji v16.1) h17 fun h18=>g1 18 (jb (decide (v16.1 < 0))) h18 fun h19=>gm h19 fun h20=>zX h (fun hg4 h=>?_) (fun hg4 h=>?_))))
     · iterate 5 refine yq (ct h20 hg4) ?_
       refine g2 20 25 (jb true) (ct h20 hg4) (rf (.tup [])) fun h26=>gm h26 fun h27=>yq h27 ?_
       iterate 4 refine yq h27 ?_
       refine g2 27 32 (jb true) h27 (rf (.tup [])) fun h33=>gm h33 fun h34=>yq h34 ?_
       iterate 2 refine yq h34 ?_
       iterate 9 refine XO rfl ?_
       refine yq h34 (g2 34 47 (jb true) h34 (rf (.tup [])) fun h48=>gz [(1,_),(2,_),(10,_),(11,_),(12,_),(48,_)] ⟨h1,h2,h10,h11,h12,h48⟩ ?_)
       rintro s ⟨h1,h2,h10,h11,h12,h48⟩
       exact U5 H x1 x9 (xc F x1 k) ih true _ ⟨h1,h2,h10,h11,h12,h48⟩ h
     refine zp (ct h20 hg4) (g1 4 (.ref (.bx 4) 0 [0] (ji v16.1)) h4 fun h21=>zp (ct h20 hg4) (g1 21 (ji v16.1) h21 fun h22=>zp (ct h20 hg4) (g1 4 (.ref (.bx 4) 0 [1] (ji v16.2)) h4 fun h23=>zp (ct h20 hg4) (g1 23 (ji v16.2) h23 fun h24=>zp (ct h20 hg4) (g2 22 24 (jb (decide (v16.1≥v16.2))) h22 h24 fun h25=>g2 20 25 (jb (decide (v16.1≥v16.2))) (ct h20 hg4) h25 fun h26=>gm h26 fun h27=>zX h (fun hg11 h=>?_) (fun hg11 h=>?_))))))
     · iterate 5 refine yq (ct h27 hg11) ?_
       refine g2 27 32 (jb true) (ct h27 hg11) (rf (.tup [])) fun h33=>gm h33 fun h34=>yq h34 ?_
       iterate 2 refine yq h34 ?_
       iterate 9 refine XO rfl ?_
       refine yq h34 (g2 34 47 (jb true) h34 (rf (.tup [])) fun h48=>gz [(1,_),(2,_),(10,_),(11,_),(12,_),(48,_)] ⟨h1,h2,h10,h11,h12,h48⟩ ?_)
       rintro s ⟨h1,h2,h10,h11,h12,h48⟩
       exact U5 H x1 x9 (xc F x1 k) ih true _ ⟨h1,h2,h10,h11,h12,h48⟩ h
     refine zp (ct h27 hg11) (g1 4 (.ref (.bx 4) 0 [1] (ji v16.2)) h4 fun h28=>zp (ct h27 hg11) (g1 28 (ji v16.2) h28 fun h29=>zp (ct h27 hg11) (g1 1 (.ref (.bx 1) 0 [0] (ji x1.1)) h1 fun h30=>zp (ct h27 hg11) (g1 30 (ji x1.1) h30 fun h31=>zp (ct h27 hg11) (g2 29 31 (jb (decide (v16.2≥x1.1))) h29 h31 fun h32=>g2 27 32 (jb (decide (v16.2≥x1.1))) (ct h27 hg11) h32 fun h33=>gm h33 fun h34=>zX h (fun hg18 h=>?_) (fun hg18 h=>?_))))))
     · iterate 3 refine yq (ct h34 hg18) ?_
       iterate 9 refine XO rfl ?_
       refine yq (ct h34 hg18) (g2 34 47 (jb true) (ct h34 hg18) (rf (.tup [])) fun h48=>gz [(1,_),(2,_),(10,_),(11,_),(12,_),(48,_)] ⟨h1,h2,h10,h11,h12,h48⟩ ?_)
       rintro s ⟨h1,h2,h10,h11,h12,h48⟩
       exact U5 H x1 x9 (xc F x1 k) ih true _ ⟨h1,h2,h10,h11,h12,h48⟩ h
     refine zp (ct h34 hg18) (gm h3 fun h35=>zp (ct h34 hg18) (g1 35 (jb (decide (x9 > 0))) h35 fun h36=>zp (ct h34 hg18) (gm h36 fun h37=>zX h (fun hg21 h=>?_) (fun hg21 h=>?_))))
     · refine zp (ct h37 hg21) (g1 1 (.ref (.bx 1) 0 [1] (eP x1.2)) h1 fun h38=>zp (ct h37 hg21) (g1 38 (eP x1.2) h38 fun h39=>zp (ct h37 hg21) (gm h3 fun h40=>zp (ct h37 hg21) (g1 40 (ji (w64 (x9 - 1))) h40 fun h41=>?_))))
       obtain ⟨v20,Ev20,h⟩:=zc h
       refine zp (ct h37 hg21) (gv (.ref .sh 0 [] (.agg [ji v20.1,ji v20.2])) (yg (t:=.sh) (lo:=0) (xs:=x1.2) h39 h41 Ev20 rfl rfl) fun h42=>zp (ct h37 hg21) (g1 42 (eL [v20.1,v20.2]) h42 fun h43=>zp (ct h37 hg21) (g1 4 (zu (.bx 4) (.of ([v16.1,v16.2]:LI))) h4 fun h44=>?_)))
       obtain ⟨r21,Er21,h⟩:=zc h
       refine zp (ct h37 hg21) (gcF [Enc.enc ([v20.1,v20.2]:LI),Enc.enc ([v16.1,v16.2]:LI)] (zf h43 rfl (Enc.erase_enc ([v20.1,v20.2]:LI)) (zf h44 rfl (We (o:=.of [v16.1,v16.2])) zC)) (H.c56 _ _ _ Er21) H.g56 (zp (ct h37 hg21) (g1 45 (jb (decide (r21≥0))) (rf (ji r21)) fun h46=>zp (ct h34 hg18) (g2 37 46 (jb (decide (r21≥0))) (ct h37 hg21) h46 fun h47=>g2 34 47 (jb (decide (r21≥0))) (ct h34 hg18) h47 fun h48=>gz [(1,_),(2,_),(10,_),(11,_),(12,_),(48,_)] ⟨h1,h2,h10,h11,h12,h48⟩ ?_))))
       rintro s ⟨h1,h2,h10,h11,h12,h48⟩
       exact U5 H x1 x9 (xc F x1 k) ih (decide (r21≥0)) _ ⟨h1,h2,h10,h11,h12,h48⟩ h
     iterate 9 refine yq (ct h37 hg21) ?_
     refine zp (ct h34 hg18) (g2 37 46 (jb false) (ct h37 hg21) (rf (.tup [])) fun h47=>g2 34 47 (jb false) (ct h34 hg18) h47 fun h48=>gz [(1,_),(2,_),(10,_),(11,_),(12,_),(48,_)] ⟨h1,h2,h10,h11,h12,h48⟩ ?_)
     rintro s ⟨h1,h2,h10,h11,h12,h48⟩
     exact U5 H x1 x9 (xc F x1 k) ih false _ ⟨h1,h2,h10,h11,h12,h48⟩ h
   refine .exit (.esq (.elp (.ebk (.nsq (.seq (rg (g0 (jb true) fun h2=>gq (.nsq (.ret ?_)))))))))
   obtain rfl:=oi h
   exact rrA (zm h2) rfl
def vw (F:Nat) (x1:GR):Option Bool:=
 (Y4 F x1.1 0 8).bind fun r2=>
 bif (!r2) then
  some false
 else
  xc F x1 F 0
theorem t32 (H:H32 D σ F) (x1:GR) (s:Nat→V) (hs:zr [(0,gV x1)] s) (h:vw F x1=some r):Run D σ (R32 r) (.run A32 []) s:=by
 unfold vw at h
 have h0:=hs
 refine .seq (zw (zW ?_))
 refine ez [(0,_),(1,_)] ⟨za h0 rfl mIE,ze rfl⟩ ?_
 rintro s ⟨h0,h1⟩
 refine xn (gV x1) (zB h0 rfl) h1 rfl (g0 (jb false) fun h2=>gq (.nsq (.seq (.seq (rg (g1 1 (.ref (.bx 1) 0 [0] (ji x1.1)) (rf (bG 1 x1)) fun h5=>g1 5 (ji x1.1) h5 fun h6=>?_))))))
 obtain ⟨r2,Er2,h⟩:=zc h
 refine gcF [Enc.enc (x1.1:Int),Enc.enc (0:Int),Enc.enc (8:Int)] (zf h6 rfl rfl (zf (v:=ji 0) rfl rfl rfl (zf (v:=ji 8) rfl rfl rfl zC))) (H.c55 _ _ _ _ Er2) H.g55 (g1 7 (jb (!r2)) (rf (jb r2)) fun h8=>gq (.nsq (zn h8 h (fun h=>?_) (fun h=>?_))))
 · refine .seq (rg (g0 (jb false) fun h2=>gq (.nsq (.ret ?_))))
   obtain rfl:=oi h
   exact rrA (zm h2) rfl
 refine .skip (.nsq (.seq (.seq (rg (g1 1 (.ref (.bx 1) 0 [1] (eP x1.2)) (rf (bG 1 x1)) fun h9=>g1 9 (eP x1.2) h9 fun h10=>gl x1.2 h10 fun h11=>g0 (ji 0) fun h12=>gq (.nsq (.block (.loop ?_))))))))
 exact zhi H x1 F 0 _ ⟨rfl,h2,h10,h11,h12⟩ h
end
def e32 (F:Nat):Ent:=ent 32 (fun (x:(GR×Unit))=>vw F x.1) (fun (r:Bool)=>(Enc.enc (r:Bool))) 0 false []
abbrev C32 (D:List V→Option V) (F:Nat):Prop:=∀ (x0:GR) r,vw F x0=some r→D [Enc.enc x0]=some (Enc.enc (r:Bool))
theorem p32 {F:Nat}:C32 (e32 F).den F:=fun x0 _ h=>zS (x0,()) h
theorem o32 (hF:zG Try.prog D σ) (H:H32 D σ F):(e32 F).Ok Try.prog:=okZ (f:=32) Try.func32 fun ⟨x0,_⟩ y hy=>cR hF Try.func32 c32 (t32 H x0 _ rfl hy)
def zsG:AC:=(rr [jv 28 (.fld (.t 3) 0 0),jv 29 (.load .p (.t 28)),jv 30 (.idxA (.t 5) (jn 1) 2 1),jl 31 30,jv 32 (.idx (.t 29) (.t 31) 1),jl 33 32,jv 34 (.idxA (.t 5) (jn 0) 2 1),jl 35 34,jv 36 (.bin .shl (jn 1) (.t 35)),jv 37 (.bin .or (.t 33) (.t 36)),jv 38 (.idx (.t 29) (.t 31) 1),jz (.store .s (.t 38) (.t 37))])
def zqp:AC:=(.seq (rr [jv 17 (.fld (.t 3) 0 0),jv 18 (.load .p (.t 17)),jv 19 (.idxA (.t 5) (jn 0) 2 1),jl 20 19,jv 21 (.idx (.t 18) (.t 20) 1),jl 22 21,jv 23 (.idxA (.t 5) (jn 1) 2 1),jl 24 23,jv 25 (.bin .shl (jn 1) (.t 24)),jv 26 (.bin .or (.t 22) (.t 25)),jv 27 (.idx (.t 18) (.t 20) 1),jz (.store .s (.t 27) (.t 26))]) zsG)
def zsW:AC:=(rr [jv 39 (.bin .add (.t 13) (jn 1)),jm 13 39])
def ztJ:AC:=(.seq (.block 1 (.seq (.reg [.clr [5]] [jv 15 (.idx (.t 11) (.t 13) 2),jv 16 (.load (.ag [.s,.s]) (.t 15)),jx 5 (.alloc (.agg [i0,i0])),jz (.store (.ag [.s,.s]) (.t 5) (.t 16))] []) zqp)) zsW)
def zqa:AC:=(.seq (.cond (.t 14) .skip (.exit 0)) ztJ)
def zjv:AC:=(.seq (rr [jv 14 (.bin .lss (.t 13) (.t 12))]) zqa)
def zkV:AC:=(.seq (rr [jv 40 (.load (.ag [.p]) (.t 3)),jz (.store (.ag [.p]) (.t 2) (.t 40))]) .ret)
def znP:AC:=(.block 0 (.loop zjv))
def zt0:AC:=(.seq (.seq (rr [jv 10 (.fld (.t 1) 1 1),jv 11 (.load .p (.t 10)),jk 12 11,jv 13 (.mov (jn 0))]) znP) zkV)
def zqf:AC:=(.seq (.reg [.clr [8,3]] [jv 6 (.fld (.t 1) 0 0),jl 7 6,jx 8 (.mk (.t 7) i0 i0),jv 9 (.bld (.agg [.sl .nl .s 0 []]) [(0,0,.t 8)]),jx 3 (.alloc (.agg [.sl .nl .s 0 []])),jz (.store (.ag [.p]) (.t 3) (.t 9))] []) zt0)
def A33:AC:=(.seq (.reg [.clr [1,2]] [jx 1 (.box (.t 0)),jx 2 (.alloc (.agg [.sl .nl .s 0 []]))] []) zqf)
def zvu:List An:=[⟨0,[.clr [1,2]],[],[],[]⟩,⟨1,[.clr [8,3]],[],[],[]⟩,⟨4,[.clr [5]],[],[],[]⟩]
theorem c33:cq Try.prog Try.f33 zvu=some A33:=by kernel_rfl
structure H33 (D:Den) (σ:Sig) (F:Nat):Prop where
 mk ::
abbrev R33 (r:(S1 LI)):(Nat→V)→Prop:=RR Try.prog [.cell 2 57] 0 false (Enc.enc (r:(S1 LI)))
section
variable {r:(S1 LI)}
def Yr (F:Nat) (x1:GR) :Nat→LI→Int→Option (S1 LI)
 | 0,_,_=>none
 | k + 1,x10,x11=>
   bif decide (x11 < (x1.2.length:Int)) then
    (idx x1.2 x11).bind fun v19=>
    (idx x10 v19.1).bind fun v20=>
    (Wc .i64 1 v19.2).bind fun q21=>
    (idx x10 v19.1).bind fun v22=>
    (idx (x10.set v19.1.toNat (ior .i64 v20 q21)) v19.2).bind fun v23=>
    (Wc .i64 1 v19.1).bind fun q24=>
    (idx (x10.set v19.1.toNat (ior .i64 v20 q21)) v19.2).bind fun v25=>
    (Yr F x1 k) ((x10.set v19.1.toNat (ior .i64 v20 q21)).set v19.2.toNat (ior .i64 v23 q24)) (w64 (x11 + 1))
   else
    some (S1.mk x10)
theorem zhJ (H:H33 D σ F) (x1:GR) :∀ (k:Nat) (x10:LI) (x11:Int) (s:Nat→V),zr [(2,.ref (.bx 2) 0 [] (.agg [nI])),(3,.ref (.bx 3) 0 [] (.agg [oI 8 [] (.of x10)])),(11,eP x1.2),(12,ji (x1.2.length:Int)),(13,ji x11)] s→Yr F x1 k x10 x11=some r→Run D σ (R33 r) (.run zjv [.lp zjv,.bk 0,.sq zkV]) s:=by
 intro k
 induction k with
 | zero=>intro x10 x11 s _ h;exact nm h
 | succ k ih=>
   intro x10 x11 s hs h
   rw [Yr] at h
   obtain ⟨h2,h3,h11,h12,h13⟩:=hs
   refine .seq (rg (g2 13 12 (jb (decide (x11 < (x1.2.length:Int)))) h13 h12 fun h14=>gq (.nsq (.seq (zn h14 h (fun h=>?_) (fun h=>?_))))))
   · refine .skip (.nsq (.seq (.block (.seq (zw (zW ?_))))))
     refine ez [(2,_),(3,_),(5,_),(11,_),(12,_),(13,_)] ⟨za h2 rfl (zj rfl (zM (zg rfl zx))),za h3 rfl (zj rfl (zM (zg (zl (r:=8) (p:=[]) rfl rfl) zx))),ze rfl,za h11 rfl me,za h12 rfl mi,za h13 rfl mi⟩ ?_
     rintro s ⟨h2,h3,h5,h11,h12,h13⟩
     obtain ⟨v19,Ev19,h⟩:=zc h
     refine gv (.ref .sh 0 [] (.agg [ji v19.1,ji v19.2])) (yg (t:=.sh) (lo:=0) (xs:=x1.2) h11 h13 Ev19 rfl rfl) fun h15=>g1 15 (.agg [ji v19.1,ji v19.2]) h15 fun h16=>y9 h5 (z5 (.agg [ji v19.1,ji v19.2]) (zB rfl rfl) (zB h16 rfl) (xo (by first | rfl | simp [V.toks,V.tokss,Enc.toks_enc,zY])) ?_)
     refine gz [(2,.ref (.bx 2) 0 [] (.agg [nI])),(3,.ref (.bx 3) 0 [] (.agg [oI 8 [] (.of x10)])),(5,.ref (.bx 5) 0 [] (.agg [ji v19.1,ji v19.2])),(11,eP x1.2),(12,ji (x1.2.length:Int)),(13,ji x11)] ⟨zd h2 (zH rfl rfl (yJ (zF rfl rfl))),zd h3 (zH rfl rfl (yJ (zF (wm rfl rfl) rfl))),zd rfl rfl,zd h11 uE,zd h12 rfl,zd h13 rfl⟩ ?_
     rintro s ⟨h2,h3,h5,h11,h12,h13⟩
     refine .nsq (.seq (rg (g1 3 (.ref (.bx 3) 0 [0] (oI 8 [] (.of x10))) h3 fun h17=>g1 17 (oI 8 [] (.of x10)) h17 fun h18=>g1 5 (.ref (.bx 5) 0 [0] (ji v19.1)) h5 fun h19=>g1 19 (ji v19.1) h19 fun h20=>?_)))
     obtain ⟨v20,Ev20,h⟩:=zc h
     refine gv (.ref (.at 8 []) v19.1.toNat [] (ji v20)) (Yg (o:=.of x10) h18 h20 Ev20 rfl) fun h21=>g1 21 (ji v20) h21 fun h22=>g1 5 (.ref (.bx 5) 0 [1] (ji v19.2)) h5 fun h23=>g1 23 (ji v19.2) h23 fun h24=>?_
     obtain ⟨q21,Eq21,h⟩:=zc h
     refine gv (ji q21) (Y9 rfl h24 Eq21) fun h25=>g2 22 25 (ji (ior .i64 v20 q21)) h22 h25 fun h26=>?_
     obtain ⟨v22,Ev22,h⟩:=zc h
     refine gv (.ref (.at 8 []) v19.1.toNat [] (ji v22)) (Yg (o:=.of x10) h18 h20 Ev22 rfl) fun h27=>z5 (ji (ior .i64 v20 q21)) (zB h27 rfl) (zB h26 rfl) (xo (by first | rfl | simp [V.toks,V.tokss,Enc.toks_enc,zY])) (gz [(2,.ref (.bx 2) 0 [] (.agg [nI])),(3,.ref (.bx 3) 0 [] (.agg [oI 8 [] (.of (x10.set v19.1.toNat (ior .i64 v20 q21)))])),(5,.ref (.bx 5) 0 [] (.agg [ji v19.1,ji v19.2])),(11,eP x1.2),(12,ji (x1.2.length:Int)),(13,ji x11)] ⟨zd h2 (zH rfl rfl (yJ (zF rfl rfl))),zd h3 (zH rfl rfl (yJ (zF Kz rfl))),zd h5 rfl,zd h11 uE,zd h12 rfl,zd h13 rfl⟩ ?_)
     rintro s ⟨h2,h3,h5,h11,h12,h13⟩
     refine .nsq (rg (g1 3 (.ref (.bx 3) 0 [0] (oI 8 [] (.of (x10.set v19.1.toNat (ior .i64 v20 q21))))) h3 fun h28=>g1 28 (oI 8 [] (.of (x10.set v19.1.toNat (ior .i64 v20 q21)))) h28 fun h29=>g1 5 (.ref (.bx 5) 0 [1] (ji v19.2)) h5 fun h30=>g1 30 (ji v19.2) h30 fun h31=>?_))
     obtain ⟨v23,Ev23,h⟩:=zc h
     refine gv (.ref (.at 8 []) v19.2.toNat [] (ji v23)) (Yg (o:=.of (x10.set v19.1.toNat (ior .i64 v20 q21))) h29 h31 Ev23 rfl) fun h32=>g1 32 (ji v23) h32 fun h33=>g1 5 (.ref (.bx 5) 0 [0] (ji v19.1)) h5 fun h34=>g1 34 (ji v19.1) h34 fun h35=>?_
     obtain ⟨q24,Eq24,h⟩:=zc h
     refine gv (ji q24) (Y9 rfl h35 Eq24) fun h36=>g2 33 36 (ji (ior .i64 v23 q24)) h33 h36 fun h37=>?_
     obtain ⟨v25,Ev25,h⟩:=zc h
     refine gv (.ref (.at 8 []) v19.2.toNat [] (ji v25)) (Yg (o:=.of (x10.set v19.1.toNat (ior .i64 v20 q21))) h29 h31 Ev25 rfl) fun h38=>z5 (ji (ior .i64 v23 q24)) (zB h38 rfl) (zB h37 rfl) (xo (by first | rfl | simp [V.toks,V.tokss,Enc.toks_enc,zY])) ?_
     refine gz [(2,.ref (.bx 2) 0 [] (.agg [nI])),(3,.ref (.bx 3) 0 [] (.agg [oI 8 [] (.of ((x10.set v19.1.toNat (ior .i64 v20 q21)).set v19.2.toNat (ior .i64 v23 q24)))])),(11,eP x1.2),(12,ji (x1.2.length:Int)),(13,ji x11)] ⟨zd h2 (zH rfl rfl (yJ (zF rfl rfl))),zd h3 (zH rfl rfl (yJ (zF Kz rfl))),zd h11 uE,zd h12 rfl,zd h13 rfl⟩ ?_
     rintro s ⟨h2,h3,h11,h12,h13⟩
     refine .nbk (.nsq (rg (g1 13 (ji (w64 (x11 + 1))) h13 fun h39=>gm h39 fun h13=>gq (.nlp ?_))))
     exact ih ((x10.set v19.1.toNat (ior .i64 v20 q21)).set v19.2.toNat (ior .i64 v23 q24)) (w64 (x11 + 1)) _ ⟨h2,h3,h11,h12,h13⟩ h
   refine .exit (.esq (.elp (.ebk (.nsq (.seq (rg (g1 3 (.agg [oI 8 [] (.of x10)]) h3 fun h40=>z5 (.agg [oI 8 [] (.of x10)]) (zB h2 rfl) (zB h40 rfl) (xo (by first | rfl | simp [V.toks,V.tokss,Enc.toks_enc,zY])) (gz [(2,.ref (.bx 2) 0 [] (.agg [oI 8 [] (.of x10)]))] (zd h2 rfl) ?_))))))))
   rintro s h2
   refine .nsq (.ret ?_)
   obtain rfl:=oi h
   exact rrA (xZ h2 (by kernel_rfl)) (vC (zfI (z7 (wj (o:=.of x10)) xJ)) (Kv (yN (vB rfl) vr)))
def ZQ (F:Nat) (x1:GR):Option (S1 LI):=
 (mkN x1.1 (0:Int)).bind fun mk2=>
 Yr F x1 F mk2 0
theorem t33 (H:H33 D σ F) (x1:GR) (s:Nat→V) (hs:zr [(0,gV x1)] s) (h:ZQ F x1=some r):Run D σ (R33 r) (.run A33 []) s:=by
 unfold ZQ at h
 have h0:=hs
 refine .seq (zw (zW ?_))
 refine ez [(0,_),(1,_),(2,_)] ⟨za h0 rfl mIE,ze rfl,ze rfl⟩ ?_
 rintro s ⟨h0,h1,h2⟩
 refine xn (gV x1) (zB h0 rfl) h1 rfl (y9 h2 (gq (.nsq (.seq (zw (zW ?_))))))
 refine ez [(1,_),(2,_),(3,_),(8,_)] ⟨za rfl rfl (zj rfl mIE),za rfl rfl (zj rfl (zM (zg rfl zx))),ze rfl,ze rfl⟩ ?_
 rintro s ⟨h1,h2,h3,h8⟩
 refine g1 1 (.ref (.bx 1) 0 [0] (ji x1.1)) h1 fun h6=>g1 6 (ji x1.1) h6 fun h7=>?_
 obtain ⟨mk2,Emk2,h⟩:=zc h
 refine znc (0:Int) h7 rfl h8 Emk2 (g1 8 (.agg [oI 8 [] (.of mk2)]) (rf (oI 8 [] (.of mk2))) fun h9=>y9 h3 (z5 (.agg [oI 8 [] (.of mk2)]) (zB rfl rfl) (zB h9 rfl) (xo (by first | rfl | simp [V.toks,V.tokss,Enc.toks_enc,zY])) (gz [(1,bG 1 x1),(2,.ref (.bx 2) 0 [] (.agg [nI])),(3,.ref (.bx 3) 0 [] (.agg [oI 8 [] (.of mk2)]))] ⟨zd h1 (zH rfl rfl uIE),zd h2 (zH rfl rfl (yJ (zF rfl rfl))),zd rfl rfl⟩ ?_)))
 rintro s ⟨h1,h2,h3⟩
 refine .nsq (.seq (.seq (rg (g1 1 (.ref (.bx 1) 0 [1] (eP x1.2)) h1 fun h10=>g1 10 (eP x1.2) h10 fun h11=>gl x1.2 h11 fun h12=>g0 (ji 0) fun h13=>gq (.nsq (.block (.loop ?_)))))))
 exact zhJ H x1 F mk2 0 _ ⟨h2,h3,h11,h12,h13⟩ h
end
def e33 (F:Nat):Ent:=ent 33 (fun (x:(GR×Unit))=>ZQ F x.1) (fun (r:(S1 LI))=>(Enc.enc (r:(S1 LI)))) 0 false []
abbrev C33 (D:List V→Option V) (F:Nat):Prop:=∀ (x0:GR) r,ZQ F x0=some r→D [Enc.enc x0]=some (Enc.enc (r:(S1 LI)))
theorem p33 {F:Nat}:C33 (e33 F).den F:=fun x0 _ h=>zS (x0,()) h
theorem o33 (hF:zG Try.prog D σ) (H:H33 D σ F):(e33 F).Ok Try.prog:=okZ (f:=33) Try.func33 fun ⟨x0,_⟩ y hy=>cR hF Try.func33 c33 (t33 H x0 _ rfl hy)
def zso:AC:=(.seq (rr [jv 3 (.fld (.t 1) 0 0),jv 4 (.load .p (.t 3)),jk 5 4,jv 6 (.bin .shl (jn 1) (.t 5)),jv 7 (.bin .sub (.t 6) (jn 1)),jm 2 7]) .ret)
def A57:AC:=(.seq (.reg [.clr [1]] [jx 1 (.box (.t 0)),jv 2 (.mov (jn 0))] []) zso)
def zuS:List An:=[⟨0,[.clr [1]],[],[],[]⟩]
theorem c57:cq Try.prog Try.f57 zuS=some A57:=by kernel_rfl
structure H57 (D:Den) (σ:Sig) (F:Nat):Prop where
 mk ::
abbrev R57 (r:Int):(Nat→V)→Prop:=RR Try.prog [.tmp 2] 0 false (Enc.enc (r:Int))
section
variable {r:Int}
def uI (F:Nat) (x1:(S1 LI)):Option Int:=
 (Wc .i64 1 (x1.a.length:Int)).bind fun q2=>
 some (w64 (q2 - 1))
theorem t57 (H:H57 D σ F) (x1:(S1 LI)) (s:Nat→V) (hs:zr [(0,.agg [eL x1.a])] s) (h:uI F x1=some r):Run D σ (R57 r) (.run A57 []) s:=by
 unfold uI at h
 have h0:=hs
 refine .seq (zw (zW ?_))
 refine ez [(0,_),(1,_)] ⟨za h0 rfl (zM (zg me zx)),ze rfl⟩ ?_
 rintro s ⟨h0,h1⟩
 refine xn (.agg [eL x1.a]) (zB h0 rfl) h1 rfl (g0 (ji 0) fun h2=>gq (.nsq (.seq (rg (g1 1 (.ref (.bx 1) 0 [0] (eL x1.a)) (rf (.ref (.bx 1) 0 [] (.agg [eL x1.a]))) fun h3=>g1 3 (eL x1.a) h3 fun h4=>gl x1.a h4 fun h5=>?_)))))
 obtain ⟨q2,Eq2,h⟩:=zc h
 refine gv (ji q2) (Y9 rfl h5 Eq2) fun h6=>g1 6 (ji (w64 (q2 - 1))) h6 fun h7=>gm h7 fun h2=>gq (.nsq (.ret ?_))
 obtain rfl:=oi h
 exact rrA (zm h2) rfl
end
def e57 (F:Nat):Ent:=ent 57 (fun (x:((S1 LI)×Unit))=>uI F x.1) (fun (r:Int)=>(Enc.enc (r:Int))) 0 false []
abbrev C57 (D:List V→Option V) (F:Nat):Prop:=∀ (x0:(S1 LI)) r,uI F x0=some r→D [Enc.enc x0]=some (Enc.enc (r:Int))
theorem p57 {F:Nat}:C57 (e57 F).den F:=fun x0 _ h=>zS (x0,()) h
theorem o57 (hF:zG Try.prog D σ) (H:H57 D σ F):(e57 F).Ok Try.prog:=okZ (f:=57) Try.func57 fun ⟨x0,_⟩ y hy=>cR hF Try.func57 c57 (t57 H x0 _ rfl hy)
def zp6:AC:=(.seq (rr [jv 3 (.fld (.t 1) 0 0),jv 4 (.load .p (.t 3)),jk 5 4,jm 2 5]) .ret)
def A76:AC:=(.seq (.reg [.clr [1]] [jx 1 (.box (.t 0)),jv 2 (.mov (jn 0))] []) zp6)
def zwe:List An:=[⟨0,[.clr [1]],[],[],[]⟩]
theorem c76:cq Try.prog Try.f76 zwe=some A76:=by kernel_rfl
structure H76 (D:Den) (σ:Sig) (F:Nat):Prop where
 mk ::
abbrev R76 (r:Int):(Nat→V)→Prop:=RR Try.prog [.tmp 2] 0 false (Enc.enc (r:Int))
section
variable {r:Int}
def Xq (F:Nat) (x1:(S1 LI)):Option Int:=
 some (x1.a.length:Int)
theorem t76 (H:H76 D σ F) (x1:(S1 LI)) (s:Nat→V) (hs:zr [(0,.agg [eL x1.a])] s) (h:Xq F x1=some r):Run D σ (R76 r) (.run A76 []) s:=by
 unfold Xq at h
 have h0:=hs
 refine .seq (zw (zW ?_))
 refine ez [(0,_),(1,_)] ⟨za h0 rfl (zM (zg me zx)),ze rfl⟩ ?_
 rintro s ⟨h0,h1⟩
 refine xn (.agg [eL x1.a]) (zB h0 rfl) h1 rfl (g0 (ji 0) fun h2=>gq (.nsq (.seq (rg (g1 1 (.ref (.bx 1) 0 [0] (eL x1.a)) (rf (.ref (.bx 1) 0 [] (.agg [eL x1.a]))) fun h3=>g1 3 (eL x1.a) h3 fun h4=>gl x1.a h4 fun h5=>gm h5 fun h2=>gq (.nsq (.ret ?_)))))))
 obtain rfl:=oi h
 exact rrA (zm h2) rfl
end
def e76 (F:Nat):Ent:=ent 76 (fun (x:((S1 LI)×Unit))=>Xq F x.1) (fun (r:Int)=>(Enc.enc (r:Int))) 0 false []
abbrev C76 (D:List V→Option V) (F:Nat):Prop:=∀ (x0:(S1 LI)) r,Xq F x0=some r→D [Enc.enc x0]=some (Enc.enc (r:Int))
theorem p76 {F:Nat}:C76 (e76 F).den F:=fun x0 _ h=>zS (x0,()) h
theorem o76 (hF:zG Try.prog D σ) (H:H76 D σ F):(e76 F).Ok Try.prog:=okZ (f:=76) Try.func76 fun ⟨x0,_⟩ y hy=>cR hF Try.func76 c76 (t76 H x0 _ rfl hy)
def zqM:AC:=(.cond (.t 21) (rr [jm 22 5,jm 23 7,jv 24 (.bin .or (.t 22) (.t 23)),jm 5 24]) .skip)
def zrC:AC:=(.seq (rr [jm 17 1,jm 18 6,jv 19 (.bin .shr (.t 17) (.t 18)),jv 20 (.bin .and (.t 19) (jn 1)),jv 21 (.bin .eql (.t 20) (jn 1))]) zqM)
def zlv:AC:=(rr [jv 25 (.bin .add (.t 12) (jn 1)),jm 12 25])
def zuf:AC:=(.seq (.block 1 (.seq (rr [jm 14 12,jv 15 (.idx (.t 10) (.t 12) 1),jl 16 15,jm 6 14,jm 7 16]) zrC)) zlv)
def ztf:AC:=(.seq (.cond (.t 13) .skip (.exit 0)) zuf)
def NW:AC:=(.seq (rr [jv 13 (.bin .lss (.t 12) (.t 11))]) ztf)
def zfh:AC:=(.seq (rr [jm 26 5,jm 4 26]) .ret)
def zmC:AC:=(.block 0 (.loop NW))
def zqh:AC:=(.seq (.seq (rr [jv 9 (.fld (.t 2) 0 0),jv 10 (.load .p (.t 9)),jk 11 10,jv 12 (.mov (jn 0))]) zmC) zfh)
def zr9:AC:=(.seq (rr [jm 8 1,jm 5 8]) zqh)
def A77:AC:=(.seq (.reg [.clr [2]] [jx 2 (.box (.t 0)),jv 4 (.mov (jn 0))] []) zr9)
def zvr:List An:=[⟨0,[.clr [2]],[],[],[]⟩]
theorem c77:cq Try.prog Try.f77 zvr=some A77:=by kernel_rfl
structure H77 (D:Den) (σ:Sig) (F:Nat):Prop where
 mk ::
abbrev R77 (r:Int):(Nat→V)→Prop:=RR Try.prog [.tmp 4] 0 false (Enc.enc (r:Int))
section
variable {r:Int}
def u7 (F:Nat) (x2:Int) (x1:(S1 LI)) (x7:Int) (c1:Int→Int→Option Int) (x13:Int):Option Int:=
 c1 x13 (w64 (x7 + 1))
theorem zcG (H:H77 D σ F) (x2:Int) (x1:(S1 LI)) (x7:Int) (c1:Int→Int→Option Int) (Hc1:∀ (x6:Int) (x7:Int) (s:Nat→V),zr [(1,ji x2),(4,ji 0),(5,ji x6),(10,eL x1.a),(11,ji (x1.a.length:Int)),(12,ji x7)] s→c1 x6 x7=some r→Run D σ (R77 r) (.run NW [.lp NW,.bk 0,.sq zfh]) s) (x13:Int) (s:Nat→V) (hs:zr [(1,ji x2),(4,ji 0),(5,ji x13),(10,eL x1.a),(11,ji (x1.a.length:Int)),(12,ji x7)] s) (h:u7 F x2 x1 x7 c1 x13=some r):Run D σ (R77 r) (.nrm [.bk 1,.sq zlv,.lp NW,.bk 0,.sq zfh]) s:=by
 unfold u7 at h
 obtain ⟨h1,h4,h5,h10,h11,h12⟩:=hs
 refine .nbk (.nsq (rg (g1 12 (ji (w64 (x7 + 1))) h12 fun h25=>gm h25 fun h12=>gq (.nlp ?_))))
 exact Hc1 x13 (w64 (x7 + 1)) _ ⟨h1,h4,h5,h10,h11,h12⟩ h
def xG (F:Nat) (x2:Int) (x1:(S1 LI)) :Nat→Int→Int→Option Int
 | 0,_,_=>none
 | k + 1,x6,x7=>
   bif decide (x7 < (x1.a.length:Int)) then
    (idx x1.a x7).bind fun v11=>
    (U4 .i64 x2 x7).bind fun q12=>
    bif ((yO .i64 q12 1) == 1) then
     u7 F x2 x1 x7 (xG F x2 x1 k) (ior .i64 x6 v11)
    else
     u7 F x2 x1 x7 (xG F x2 x1 k) x6
   else
    some x6
theorem zh9 (H:H77 D σ F) (x2:Int) (x1:(S1 LI)) :∀ (k:Nat) (x6:Int) (x7:Int) (s:Nat→V),zr [(1,ji x2),(4,ji 0),(5,ji x6),(10,eL x1.a),(11,ji (x1.a.length:Int)),(12,ji x7)] s→xG F x2 x1 k x6 x7=some r→Run D σ (R77 r) (.run NW [.lp NW,.bk 0,.sq zfh]) s:=by
 intro k
 induction k with
 | zero=>intro x6 x7 s _ h;exact nm h
 | succ k ih=>
   intro x6 x7 s hs h
   rw [xG] at h
   obtain ⟨h1,h4,h5,h10,h11,h12⟩:=hs
   refine .seq (rg (g2 12 11 (jb (decide (x7 < (x1.a.length:Int)))) h12 h11 fun h13=>gq (.nsq (.seq (zn h13 h (fun h=>?_) (fun h=>?_))))))
   · refine .skip (.nsq (.seq (.block (.seq (rg (gm h12 fun h14=>?_))))))
     obtain ⟨v11,Ev11,h⟩:=zc h
     refine gv (.ref .sh 0 [] (ji v11)) (yg (t:=.sh) (lo:=0) (xs:=x1.a) h10 h12 Ev11 rfl rfl) fun h15=>g1 15 (ji v11) h15 fun h16=>gm h14 fun h6=>gm h16 fun h7=>gq (.nsq (.seq (rg (gm h1 fun h17=>gm h6 fun h18=>?_))))
     obtain ⟨q12,Eq12,h⟩:=zc h
     refine gv (ji q12) (XP h17 h18 Eq12) fun h19=>g1 19 (ji (yO .i64 q12 1)) h19 fun h20=>g1 20 (jb ((yO .i64 q12 1) == 1)) h20 fun h21=>gq (.nsq (zn h21 h (fun h=>?_) (fun h=>?_)))
     · refine rg (gm h5 fun h22=>gm h7 fun h23=>g2 22 23 (ji (ior .i64 x6 v11)) h22 h23 fun h24=>gm h24 fun h5=>gq ?_)
       exact zcG H x2 x1 x7 (xG F x2 x1 k) ih (ior .i64 x6 v11) _ ⟨h1,h4,h5,h10,h11,h12⟩ h
     refine .skip ?_
     exact zcG H x2 x1 x7 (xG F x2 x1 k) ih x6 _ ⟨h1,h4,h5,h10,h11,h12⟩ h
   refine .exit (.esq (.elp (.ebk (.nsq (.seq (rg (gm h5 fun h26=>gm h26 fun h4=>gq (.nsq (.ret ?_)))))))))
   obtain rfl:=oi h
   exact rrA (zm h4) rfl
def uV (F:Nat) (x1:(S1 LI)) (x2:Int):Option Int:=
 xG F x2 x1 F x2 0
theorem t77 (H:H77 D σ F) (x1:(S1 LI)) (x2:Int) (s:Nat→V) (hs:zr [(0,.agg [eL x1.a]),(1,ji x2)] s) (h:uV F x1 x2=some r):Run D σ (R77 r) (.run A77 []) s:=by
 unfold uV at h
 obtain ⟨h0,h1⟩:=hs
 refine .seq (zw (zW ?_))
 refine ez [(0,_),(1,_),(2,_)] ⟨za h0 rfl (zM (zg me zx)),za h1 rfl mi,ze rfl⟩ ?_
 rintro s ⟨h0,h1,h2⟩
 refine xn (.agg [eL x1.a]) (zB h0 rfl) h2 rfl (g0 (ji 0) fun h4=>gq (.nsq (.seq (rg (gm h1 fun h8=>gm h8 fun h5=>gq (.nsq (.seq (.seq (rg (g1 2 (.ref (.bx 2) 0 [0] (eL x1.a)) (rf (.ref (.bx 2) 0 [] (.agg [eL x1.a]))) fun h9=>g1 9 (eL x1.a) h9 fun h10=>gl x1.a h10 fun h11=>g0 (ji 0) fun h12=>gq (.nsq (.block (.loop ?_)))))))))))))
 exact zh9 H x2 x1 F x2 0 _ ⟨h1,h4,h5,h10,h11,h12⟩ h
end
def e77 (F:Nat):Ent:=ent 77 (fun (x:((S1 LI)×Int×Unit))=>uV F x.1 x.2.1) (fun (r:Int)=>(Enc.enc (r:Int))) 0 false []
abbrev C77 (D:List V→Option V) (F:Nat):Prop:=∀ (x0:(S1 LI)) (x1:Int) r,uV F x0 x1=some r→D [Enc.enc x0,Enc.enc x1]=some (Enc.enc (r:Int))
theorem p77 {F:Nat}:C77 (e77 F).den F:=fun x0 x1 _ h=>zS (x0,x1,()) h
theorem o77 (hF:zG Try.prog D σ) (H:H77 D σ F):(e77 F).Ok Try.prog:=okZ (f:=77) Try.func77 fun ⟨x0,x1,_⟩ y hy=>cR hF Try.func77 c77 (t77 H x0 x1 _ ⟨rfl,rfl⟩ hy)
def zpM:AC:=(.cond (.t 55) (.seq (rr [jv 56 (.load (.ag [.s,.s]) (.t 4)),jz (.store (.ag [.s,.s]) (.t 6) (.t 56)),jv 7 (.mov kt)]) .ret) .skip)
def zp8:AC:=(rr [jm 57 9,jv 58 (.fld (.t 4) 1 1),jz (.store .s (.t 58) (.t 57))])
def zty:AC:=(.seq (.seq (rr [jm 52 9,jv 53 (.fld (.t 4) 1 1),jl 54 53,jv 55 (.bin .eql (.t 52) (.t 54))]) zpM) zp8)
def zjN:AC:=(.block 1 (.seq (rr [jv 45 (.load (.ag [.p]) (.t 3)),jv 46 (.fld (.t 4) 1 1),jl 47 46,jx 48 (.call (jf 77) [.t 45,.t 47]),jv 49 (.fld (.t 4) 0 0),jl 50 49,jv 51 (.bin .andNot (.t 48) (.t 50)),jm 9 51]) zty))
def zlp:AC:=(.cond (.t 31) (.seq (rr [jv 32 (.load (.ag [.s,.s]) (.t 4)),jz (.store (.ag [.s,.s]) (.t 6) (.t 32)),jv 7 (.mov kf)]) .ret) .skip)
def zoK:AC:=(.block 0 (.loop zjN))
def zsB:AC:=(.seq (rr [jv 39 (.fld (.t 4) 1 1),jl 40 39,jv 41 (.fld (.t 4) 0 0),jl 42 41,jv 43 (.bin .andNot (.t 40) (.t 42)),jv 44 (.fld (.t 4) 1 1),jz (.store .s (.t 44) (.t 43))]) zoK)
def zlT:AC:=(.seq (rr [jv 33 (.fld (.t 4) 0 0),jl 34 33,jm 35 8,jv 36 (.bin .shl (jn 1) (.t 35)),jv 37 (.bin .xor (.t 34) (.t 36)),jv 38 (.fld (.t 4) 0 0),jz (.store .s (.t 38) (.t 37))]) zsB)
def zln:AC:=(.seq (.seq (rr [jm 15 8,jv 16 (.load (.ag [.p]) (.t 3)),jx 17 (.call (jf 76) [.t 16]),jv 18 (.bin .sub (.t 17) (jn 1)),jx 19 (.call (jf 55) [.t 15,jn 0,.t 18]),jv 20 (.un .not (.t 19)),jm 21 20,jg 22 21 false (.fld (.t 4) 0 0),jg 23 21 false (.load .s (.t 22)),jg 24 21 false (.mov (.t 8)),jg 25 21 false (.bin .shr (.t 23) (.t 24)),jg 26 21 false (.bin .and (.t 25) (jn 1)),jg 27 21 false (.bin .eql (.t 26) (jn 1)),jg 28 21 false (.mov (.t 2)),jg 29 21 false (.bin .lss (.t 28) (jn 0)),jg 30 21 false (.beq true (.t 27) (.t 29)),jv 31 (.pick (.t 21) kt (.t 30))]) zlp) zlT)
def zmf:AC:=(.cond (.t 12) (rr [jm 13 2,jv 14 (.bin .sub (jn (-1)) (.t 13)),jm 8 14]) .skip)
def znV:AC:=(.seq (.seq (rr [jm 11 2,jv 12 (.bin .lss (.t 11) (jn 0))]) zmf) zln)
def zm2:AC:=(.seq (rr [jm 10 2,jm 8 10]) znV)
def A58:AC:=(.seq (.reg [.clr [3,4,6]] [jx 3 (.box (.t 0)),jx 4 (.box (.t 1)),jx 6 (.alloc (.agg [i0,i0])),jv 7 (.mov kf)] []) zm2)
def zvQ:List An:=[⟨0,[.clr [3,4,6]],[],[],[]⟩]
theorem c58:cq Try.prog Try.f58 zvQ=some A58:=by kernel_rfl
structure H58 (D:Den) (σ:Sig) (F:Nat):Prop where
 c76:C76 (D 76) F
 g76:σ 76=some (0,false)
 c55:C55 (D 55) F
 g55:σ 55=some (0,false)
 c77:C77 (D 77) F
 g77:σ 77=some (0,false)
abbrev R58 (r:((Int×Int)×Bool)):(Nat→V)→Prop:=RR Try.prog [.cell 6 47,.tmp 7] 0 false (.tup [Enc.enc (r.1:(Int×Int)),Enc.enc (r.2:Bool)])
section
variable {r:((Int×Int)×Bool)}
def vy (F:Nat) (x1:(S1 LI)) (x2:(Int×Int)) (q9:Int) :Nat→Int→Option ((Int×Int)×Bool)
 | 0,_=>none
 | k + 1,x11=>
   (uV F x1 x11).bind fun r13=>
   bif ((yS .i64 r13 (Yo .i64 x2.1 q9)) == x11) then
    some ((Yo .i64 x2.1 q9,x11),true)
   else
    (vy F x1 x2 q9 k) (yS .i64 r13 (Yo .i64 x2.1 q9))
theorem zjP (H:H58 D σ F) (x1:(S1 LI)) (x2:(Int×Int)) (q9:Int) :∀ (k:Nat) (x11:Int) (s:Nat→V),zr [(3,.ref (.bx 3) 0 [] (.agg [eL x1.a])),(4,.ref (.bx 4) 0 [] (.agg [ji (Yo .i64 x2.1 q9),ji x11])),(6,.ref (.bx 6) 0 [] (.agg [ji 0,ji 0])),(7,jb false)] s→vy F x1 x2 q9 k x11=some r→Run D σ (R58 r) (.run zjN [.lp zjN,.bk 0]) s:=by
 intro k
 induction k with
 | zero=>intro x11 s _ h;exact nm h
 | succ k ih=>
   intro x11 s hs h
   rw [vy] at h
   obtain ⟨h3,h4,h6,h7⟩:=hs
   refine .block (.seq (rg (g1 3 (.agg [eL x1.a]) h3 fun h45=>g1 4 (.ref (.bx 4) 0 [1] (ji x11)) h4 fun h46=>g1 46 (ji x11) h46 fun h47=>?_)))
   obtain ⟨r13,Er13,h⟩:=zc h
   refine gcF [Enc.enc (x1:(S1 LI)),Enc.enc (x11:Int)] (zf h45 rfl (Enc.erase_enc (x1:(S1 LI))) (zf h47 rfl rfl zC)) (H.c77 _ _ _ Er13) H.g77 (g1 4 (.ref (.bx 4) 0 [0] (ji (Yo .i64 x2.1 q9))) h4 fun h49=>g1 49 (ji (Yo .i64 x2.1 q9)) h49 fun h50=>g2 48 50 (ji (yS .i64 r13 (Yo .i64 x2.1 q9))) (rf (ji r13)) h50 fun h51=>gm h51 fun h9=>gq (.nsq (.seq (.seq (rg (gm h9 fun h52=>g1 4 (.ref (.bx 4) 0 [1] (ji x11)) h4 fun h53=>g1 53 (ji x11) h53 fun h54=>g2 52 54 (jb ((yS .i64 r13 (Yo .i64 x2.1 q9)) == x11)) h52 h54 fun h55=>gq (.nsq (zn h55 h (fun h=>?_) (fun h=>?_)))))))))
   · refine .seq (rg (g1 4 (.agg [ji (Yo .i64 x2.1 q9),ji x11]) h4 fun h56=>z5 (.agg [ji (Yo .i64 x2.1 q9),ji x11]) (zB h6 rfl) (zB h56 rfl) (xo (by first | rfl | simp [V.toks,V.tokss,Enc.toks_enc,zY])) (g0 (jb true) fun h7=>gz [(3,.ref (.bx 3) 0 [] (.agg [eL x1.a])),(4,.ref (.bx 4) 0 [] (.agg [ji (Yo .i64 x2.1 q9),ji x11])),(6,.ref (.bx 6) 0 [] (.agg [ji (Yo .i64 x2.1 q9),ji x11])),(7,_),(9,ji (yS .i64 r13 (Yo .i64 x2.1 q9)))] ⟨zd h3 (zH rfl rfl (yJ (zF uE rfl))),zd h4 rfl,zd h6 rfl,h7,zd h9 rfl⟩ ?_)))
     rintro s ⟨h3,h4,h6,h7,h9⟩
     refine .nsq (.ret ?_)
     obtain rfl:=oi h
     exact rrB (xZ h6 (by kernel_rfl)) (zm h7) rfl
   refine .skip (.nsq (rg (gm h9 fun h57=>g1 4 (.ref (.bx 4) 0 [1] (ji x11)) h4 fun h58=>z5 (ji (yS .i64 r13 (Yo .i64 x2.1 q9))) (zB h58 rfl) (zB h57 rfl) (xo (by first | rfl | simp [V.toks,V.tokss,Enc.toks_enc,zY])) (gz [(3,.ref (.bx 3) 0 [] (.agg [eL x1.a])),(4,.ref (.bx 4) 0 [] (.agg [ji (Yo .i64 x2.1 q9),ji (yS .i64 r13 (Yo .i64 x2.1 q9))])),(6,.ref (.bx 6) 0 [] (.agg [ji 0,ji 0])),(7,jb false)] ⟨zd h3 (zH rfl rfl (yJ (zF uE rfl))),zd h4 rfl,zd h6 rfl,zd h7 rfl⟩ ?_))))
   rintro s ⟨h3,h4,h6,h7⟩
   refine .nbk (.nlp ?_)
   exact ih (yS .i64 r13 (Yo .i64 x2.1 q9)) _ ⟨h3,h4,h6,h7⟩ h
def Zv (F:Nat) (x1:(S1 LI)) (x2:(Int×Int)) (x4:Int)  (x8:Bool):Option ((Int×Int)×Bool):=
 bif x8 then
  some (x2,false)
 else
  (Wc .i64 1 x4).bind fun q9=>
  vy F x1 x2 q9 F (yS .i64 x2.2 (Yo .i64 x2.1 q9))
theorem zb7 (H:H58 D σ F) (x1:(S1 LI)) (x2:(Int×Int)) (x4:Int)  (x8:Bool) (s:Nat→V) (hs:zr [(3,.ref (.bx 3) 0 [] (.agg [eL x1.a])),(4,.ref (.bx 4) 0 [] (.agg [ji x2.1,ji x2.2])),(6,.ref (.bx 6) 0 [] (.agg [ji 0,ji 0])),(7,jb false),(8,ji x4),(31,jb x8)] s) (h:Zv F x1 x2 x4  x8=some r):Run D σ (R58 r) (.nrm [.sq zlp,.sq zlT]) s:=by
 unfold Zv at h
 obtain ⟨h3,h4,h6,h7,h8,h31⟩:=hs
 refine .nsq (zn h31 h (fun h=>?_) (fun h=>?_))
 · refine .seq (rg (g1 4 (.agg [ji x2.1,ji x2.2]) h4 fun h32=>z5 (.agg [ji x2.1,ji x2.2]) (zB h6 rfl) (zB h32 rfl) (xo (by first | rfl | simp [V.toks,V.tokss,Enc.toks_enc,zY])) (g0 (jb false) fun h7=>gz [(3,.ref (.bx 3) 0 [] (.agg [eL x1.a])),(4,.ref (.bx 4) 0 [] (.agg [ji x2.1,ji x2.2])),(6,.ref (.bx 6) 0 [] (.agg [ji x2.1,ji x2.2])),(7,_),(8,ji x4)] ⟨zd h3 (zH rfl rfl (yJ (zF uE rfl))),zd h4 rfl,zd h6 rfl,h7,zd h8 rfl⟩ ?_)))
   rintro s ⟨h3,h4,h6,h7,h8⟩
   refine .nsq (.ret ?_)
   obtain rfl:=oi h
   exact rrB (xZ h6 (by kernel_rfl)) (zm h7) rfl
 refine .skip (.nsq (.seq (rg (g1 4 (.ref (.bx 4) 0 [0] (ji x2.1)) h4 fun h33=>g1 33 (ji x2.1) h33 fun h34=>gm h8 fun h35=>?_))))
 obtain ⟨q9,Eq9,h⟩:=zc h
 refine gv (ji q9) (Y9 rfl h35 Eq9) fun h36=>g2 34 36 (ji (Yo .i64 x2.1 q9)) h34 h36 fun h37=>g1 4 (.ref (.bx 4) 0 [0] (ji x2.1)) h4 fun h38=>z5 (ji (Yo .i64 x2.1 q9)) (zB h38 rfl) (zB h37 rfl) (xo (by first | rfl | simp [V.toks,V.tokss,Enc.toks_enc,zY])) (gz [(3,.ref (.bx 3) 0 [] (.agg [eL x1.a])),(4,.ref (.bx 4) 0 [] (.agg [ji (Yo .i64 x2.1 q9),ji x2.2])),(6,.ref (.bx 6) 0 [] (.agg [ji 0,ji 0])),(7,jb false)] ⟨zd h3 (zH rfl rfl (yJ (zF uE rfl))),zd h4 rfl,zd h6 rfl,zd h7 rfl⟩ ?_)
 rintro s ⟨h3,h4,h6,h7⟩
 refine .nsq (.seq (rg (g1 4 (.ref (.bx 4) 0 [1] (ji x2.2)) h4 fun h39=>g1 39 (ji x2.2) h39 fun h40=>g1 4 (.ref (.bx 4) 0 [0] (ji (Yo .i64 x2.1 q9))) h4 fun h41=>g1 41 (ji (Yo .i64 x2.1 q9)) h41 fun h42=>g2 40 42 (ji (yS .i64 x2.2 (Yo .i64 x2.1 q9))) h40 h42 fun h43=>g1 4 (.ref (.bx 4) 0 [1] (ji x2.2)) h4 fun h44=>z5 (ji (yS .i64 x2.2 (Yo .i64 x2.1 q9))) (zB h44 rfl) (zB h43 rfl) (xo (by first | rfl | simp [V.toks,V.tokss,Enc.toks_enc,zY])) ?_)))
 refine gz [(3,.ref (.bx 3) 0 [] (.agg [eL x1.a])),(4,.ref (.bx 4) 0 [] (.agg [ji (Yo .i64 x2.1 q9),ji (yS .i64 x2.2 (Yo .i64 x2.1 q9))])),(6,.ref (.bx 6) 0 [] (.agg [ji 0,ji 0])),(7,jb false)] ⟨zd h3 (zH rfl rfl (yJ (zF uE rfl))),zd h4 rfl,zd h6 rfl,zd h7 rfl⟩ ?_
 rintro s ⟨h3,h4,h6,h7⟩
 refine .nsq (.block (.loop ?_))
 exact zjP H x1 x2 q9 F (yS .i64 x2.2 (Yo .i64 x2.1 q9)) _ ⟨h3,h4,h6,h7⟩ h
def uG (F:Nat) (x3:Int) (x1:(S1 LI)) (x2:(Int×Int))  (x4:Int):Option ((Int×Int)×Bool):=
 (Xq F x1).bind fun r14=>
 (Y4 F x4 0 (w64 (r14 - 1))).bind fun r15=>
 bif (!r15) then
  Zv F x1 x2 x4 true
 else
  (U4 .i64 x2.1 x4).bind fun q16=>
  Zv F x1 x2 x4 (((yO .i64 q16 1) == 1) != (decide (x3 < 0)))
theorem zc4 (H:H58 D σ F) (x3:Int) (x1:(S1 LI)) (x2:(Int×Int))  (x4:Int) (s:Nat→V) (hs:zr [(2,ji x3),(3,.ref (.bx 3) 0 [] (.agg [eL x1.a])),(4,.ref (.bx 4) 0 [] (.agg [ji x2.1,ji x2.2])),(6,.ref (.bx 6) 0 [] (.agg [ji 0,ji 0])),(7,jb false),(8,ji x4)] s) (h:uG F x3 x1 x2  x4=some r):Run D σ (R58 r) (.nrm [.sq zln]) s:=by
 unfold uG at h
 obtain ⟨h2,h3,h4,h6,h7,h8⟩:=hs
 refine .nsq (.seq (.seq (rg (gm h8 fun h15=>g1 3 (.agg [eL x1.a]) h3 fun h16=>?_))))
 obtain ⟨r14,Er14,h⟩:=zc h
 refine gcF [Enc.enc (x1:(S1 LI))] (zf h16 rfl (Enc.erase_enc (x1:(S1 LI))) zC) (H.c76 _ _ Er14) H.g76 (g1 17 (ji (w64 (r14 - 1))) (rf (ji r14)) fun h18=>?_)
 obtain ⟨r15,Er15,h⟩:=zc h
 refine gcF [Enc.enc (x4:Int),Enc.enc (0:Int),Enc.enc (w64 (r14 - 1):Int)] (zf h15 rfl rfl (zf (v:=ji 0) rfl rfl rfl (zf h18 rfl rfl zC))) (H.c55 _ _ _ _ Er15) H.g55 (g1 19 (jb (!r15)) (rf (jb r15)) fun h20=>gm h20 fun h21=>zX h (fun hg7 h=>?_) (fun hg7 h=>?_))
 · iterate 9 refine yq (ct h21 hg7) ?_
   refine g2 21 30 (jb true) (ct h21 hg7) (rf (.tup [])) fun h31=>gq ?_
   exact zb7 H x1 x2 x4 true _ ⟨h3,h4,h6,h7,h8,h31⟩ h
 refine zp (ct h21 hg7) (g1 4 (.ref (.bx 4) 0 [0] (ji x2.1)) h4 fun h22=>zp (ct h21 hg7) (g1 22 (ji x2.1) h22 fun h23=>zp (ct h21 hg7) (gm h8 fun h24=>?_)))
 obtain ⟨q16,Eq16,h⟩:=zc h
 refine zp (ct h21 hg7) (gv (ji q16) (XP h23 h24 Eq16) fun h25=>zp (ct h21 hg7) (g1 25 (ji (yO .i64 q16 1)) h25 fun h26=>zp (ct h21 hg7) (g1 26 (jb ((yO .i64 q16 1) == 1)) h26 fun h27=>zp (ct h21 hg7) (gm h2 fun h28=>zp (ct h21 hg7) (g1 28 (jb (decide (x3 < 0))) h28 fun h29=>zp (ct h21 hg7) (g2 27 29 (jb (((yO .i64 q16 1) == 1) != (decide (x3 < 0)))) h27 h29 fun h30=>g2 21 30 (jb (((yO .i64 q16 1) == 1) != (decide (x3 < 0)))) (ct h21 hg7) h30 fun h31=>gq ?_))))))
 exact zb7 H x1 x2 x4 (((yO .i64 q16 1) == 1) != (decide (x3 < 0))) _ ⟨h3,h4,h6,h7,h8,h31⟩ h
def uS (F:Nat) (x1:(S1 LI)) (x2:(Int×Int)) (x3:Int):Option ((Int×Int)×Bool):=
 bif decide (x3 < 0) then
  uG F x3 x1 x2 (w64 ((-1) - x3))
 else
  uG F x3 x1 x2 x3
theorem t58 (H:H58 D σ F) (x1:(S1 LI)) (x2:(Int×Int)) (x3:Int) (s:Nat→V) (hs:zr [(0,.agg [eL x1.a]),(1,.agg [ji x2.1,ji x2.2]),(2,ji x3)] s) (h:uS F x1 x2 x3=some r):Run D σ (R58 r) (.run A58 []) s:=by
 unfold uS at h
 obtain ⟨h0,h1,h2⟩:=hs
 refine .seq (zw (zW ?_))
 refine ez [(0,_),(1,_),(2,_),(3,_),(4,_),(6,_)] ⟨za h0 rfl (zM (zg me zx)),za h1 rfl mII,za h2 rfl mi,ze rfl,ze rfl,ze rfl⟩ ?_
 rintro s ⟨h0,h1,h2,h3,h4,h6⟩
 refine xn (.agg [eL x1.a]) (zB h0 rfl) h3 rfl (xn (.agg [ji x2.1,ji x2.2]) (zB h1 rfl) h4 rfl (y9 h6 (g0 (jb false) fun h7=>gq (.nsq (.seq (rg (gm h2 fun h10=>gm h10 fun h8=>gq (.nsq (.seq (.seq (rg (gm h2 fun h11=>g1 11 (jb (decide (x3 < 0))) h11 fun h12=>gq (.nsq (zn h12 h (fun h=>?_) (fun h=>?_)))))))))))))))
 · refine rg (gm h2 fun h13=>g1 13 (ji (w64 ((-1) - x3))) h13 fun h14=>gm h14 fun h8=>gq ?_)
   exact zc4 H x3 x1 x2 (w64 ((-1) - x3)) _ ⟨h2,rfl,rfl,rfl,h7,h8⟩ h
 refine .skip ?_
 exact zc4 H x3 x1 x2 x3 _ ⟨h2,rfl,rfl,rfl,h7,h8⟩ h
end
def e58 (F:Nat):Ent:=ent 58 (fun (x:((S1 LI)×(Int×Int)×Int×Unit))=>uS F x.1 x.2.1 x.2.2.1) (fun (r:((Int×Int)×Bool))=>(.tup [Enc.enc (r.1:(Int×Int)),Enc.enc (r.2:Bool)])) 0 false []
abbrev C58 (D:List V→Option V) (F:Nat):Prop:=∀ (x0:(S1 LI)) (x1:(Int×Int)) (x2:Int) r,uS F x0 x1 x2=some r→D [Enc.enc x0,Enc.enc x1,Enc.enc x2]=some (.tup [Enc.enc (r.1:(Int×Int)),Enc.enc (r.2:Bool)])
theorem p58 {F:Nat}:C58 (e58 F).den F:=fun x0 x1 x2 _ h=>zS (x0,x1,x2,()) h
theorem o58 (hF:zG Try.prog D σ) (H:H58 D σ F):(e58 F).Ok Try.prog:=okZ (f:=58) Try.func58 fun ⟨x0,x1,x2,_⟩ y hy=>cR hF Try.func58 c58 (t58 H x0 x1 x2 _ ⟨rfl,rfl,rfl⟩ hy)
def zrX:AC:=(.cond (.t 36) (.seq (rr [jv 4 (.mov (.k (.sl .nl (.ag [.s,.s]) 0 []))),jv 5 (.mov kf)]) .ret) .skip)
def zpT:AC:=(.reg [.clr [39,40]] [jm 37 6,jv 38 (.load (.ag [.s,.s]) (.t 9)),jx 39 (.lit (.agg [i0,i0]) 1 [(0,0,.t 38)]),jx 40 (.app (.ag [.s,.s]) (.t 37) (.t 39)),jm 6 40] [.home 40 6])
def zrn:AC:=(.seq (.seq (rr [jm 35 10,jv 36 (.un .not (.t 35))]) zrX) zpT)
def zsw:AC:=(.seq (.reg [.clr [9]] [jv 26 (.load (.ag [.p]) (.t 2)),jm 27 6,jm 28 7,jv 29 (.idx (.t 27) (.t 28) 2),jv 30 (.load (.ag [.s,.s]) (.t 29)),jm 31 8,jx 32 (.call (jf 58) [.t 26,.t 30,.t 31]),jm 25 32,jv 33 (.ext (.t 25) 0),jv 34 (.extS (.t 25) 1),jx 9 (.alloc (.agg [i0,i0])),jz (.store (.ag [.s,.s]) (.t 9) (.t 33)),jm 10 34] []) zrn)
def zpI:AC:=(rr [jv 41 (.bin .add (.t 20) (jn 1)),jm 20 41])
def zpS:AC:=(.seq (.block 1 (.seq (rr [jm 22 20,jv 23 (.idx (.t 18) (.t 20) 1),jl 24 23,jm 7 22,jm 8 24]) zsw)) zpI)
def zqE:AC:=(.seq (.cond (.t 21) .skip (.exit 0)) zpS)
def zjC:AC:=(.seq (rr [jv 21 (.bin .lss (.t 20) (.t 19))]) zqE)
def zlA:AC:=(.seq (.reg [] [jm 42 6,jm 4 42,jv 5 (.mov kt)] [.home 6 4]) .ret)
def zoq:AC:=(.cond (.t 13) (.seq (rr [jv 4 (.mov (.k (.sl .nl (.ag [.s,.s]) 0 []))),jv 5 (.mov kf)]) .ret) .skip)
def zmw:AC:=(.block 0 (.loop zjC))
def zmD:AC:=(.seq (.seq (rr [jm 18 1,jk 19 18,jv 20 (.mov (jn 0))]) zmw) zlA)
def zoa:AC:=(.seq (.reg [.clr [17]] [jv 14 (.load (.ag [.p]) (.t 2)),jx 15 (.call (jf 57) [.t 14]),jv 16 (.bld (.agg [i0,i0]) [(0,0,jn 0),(1,1,.t 15)]),jx 17 (.lit (.agg [i0,i0]) 1 [(0,0,.t 16)]),jm 6 17] [.home 17 6]) zmD)
def zmp:AC:=(.seq (.seq (rr [jm 11 1,jk 12 11,jv 13 (.bin .gtr (.t 12) (jn 40))]) zoq) zoa)
def A34:AC:=(.seq (.reg [.clr [2]] [jx 2 (.box (.t 0)),jv 4 (.mov (.k (.sl .nl (.ag [.s,.s]) 0 []))),jv 5 (.mov kf)] []) zmp)
def zuR:List An:=[⟨0,[.clr [2]],[],[],[]⟩,⟨3,[.clr [17]],[],[],[.home 17 6]⟩,⟨7,[.clr [9]],[],[],[]⟩,⟨10,[.clr [39,40]],[],[],[.home 40 6]⟩,⟨12,[],[],[],[.home 6 4]⟩]
theorem c34:cq Try.prog Try.f34 zuR=some A34:=by kernel_rfl
structure H34 (D:Den) (σ:Sig) (F:Nat):Prop where
 c57:C57 (D 57) F
 g57:σ 57=some (0,false)
 c58:C58 (D 58) F
 g58:σ 58=some (0,false)
abbrev R34 (r:(TP×Bool)):(Nat→V)→Prop:=RR Try.prog [.tmp 4,.tmp 5] 0 false (.tup [eP r.1,Enc.enc (r.2:Bool)])
section
variable {r:(TP×Bool)}
def xr (F:Nat) (x1:(S1 LI)) (x2:LI) :Nat→TP→Int→Option (TP×Bool)
 | 0,_,_=>none
 | k + 1,x8,x9=>
   bif decide (x9 < (x2.length:Int)) then
    (idx x2 x9).bind fun v14=>
    (idx x8 x9).bind fun v15=>
    (uS F x1 v15 v14).bind fun r16=>
    bif (!r16.2) then
     some ([],false)
    else
     (vz x8 [r16.1]).bind fun ap17=>
     (xr F x1 x2 k) ap17 (w64 (x9 + 1))
   else
    some (x8,true)
theorem ziq (H:H34 D σ F) (x1:(S1 LI)) (x2:LI) :∀ (k:Nat) (x8:TP) (x9:Int) (s:Nat→V),zr [(2,.ref (.bx 2) 0 [] (.agg [eL x1.a])),(4,nP),(5,jb false),(6,zu (.at 6 []) (.of (x8:TP))),(18,eL x2),(19,ji (x2.length:Int)),(20,ji x9)] s→xr F x1 x2 k x8 x9=some r→Run D σ (R34 r) (.run zjC [.lp zjC,.bk 0,.sq zlA]) s:=by
 intro k
 induction k with
 | zero=>intro x8 x9 s _ h;exact nm h
 | succ k ih=>
   intro x8 x9 s hs h
   rw [xr] at h
   obtain ⟨h2,h4,h5,h6,h18,h19,h20⟩:=hs
   refine .seq (rg (g2 20 19 (jb (decide (x9 < (x2.length:Int)))) h20 h19 fun h21=>gq (.nsq (.seq (zn h21 h (fun h=>?_) (fun h=>?_))))))
   · refine .skip (.nsq (.seq (.block (.seq (rg (gm h20 fun h22=>?_))))))
     obtain ⟨v14,Ev14,h⟩:=zc h
     refine gv (.ref .sh 0 [] (ji v14)) (yg (t:=.sh) (lo:=0) (xs:=x2) h18 h20 Ev14 rfl rfl) fun h23=>g1 23 (ji v14) h23 fun h24=>gm h22 fun h7=>gm h24 fun h8=>gq (.nsq (.seq (zw (zW ?_))))
     refine ez [(2,_),(4,_),(5,_),(6,_),(7,_),(8,_),(9,_),(18,_),(19,_),(20,_)] ⟨za h2 rfl (zj rfl (zM (zg me zx))),za h4 rfl rfl,za h5 rfl mb,za h6 rfl (zl (r:=6) (p:=[]) rfl rfl),za h7 rfl mi,za h8 rfl mi,ze rfl,za h18 rfl me,za h19 rfl mi,za h20 rfl mi⟩ ?_
     rintro s ⟨h2,h4,h5,h6,h7,h8,h9,h18,h19,h20⟩
     refine g1 2 (.agg [eL x1.a]) h2 fun h26=>gm h6 fun h27=>gm h7 fun h28=>?_
     obtain ⟨v15,Ev15,h⟩:=zc h
     refine gv (.ref (.at 6 []) x9.toNat [] (.agg [ji v15.1,ji v15.2])) (Yg (o:=.of x8) h27 h28 Ev15 rfl) fun h29=>g1 29 (.agg [ji v15.1,ji v15.2]) h29 fun h30=>gm h8 fun h31=>?_
     obtain ⟨r16,Er16,h⟩:=zc h
     refine gcF [Enc.enc (x1:(S1 LI)),Enc.enc (v15:(Int×Int)),Enc.enc (v14:Int)] (zf h26 rfl (Enc.erase_enc (x1:(S1 LI))) (zf h30 rfl (Enc.erase_enc (v15:(Int×Int))) (zf h31 rfl rfl zC))) (H.c58 _ _ _ _ Er16) H.g58 (gm (rf (.tup [.agg [ji r16.1.1,ji r16.1.2],jb r16.2])) fun h25=>g1 25 (.agg [ji r16.1.1,ji r16.1.2]) h25 fun h33=>g1 25 (jb r16.2) h25 fun h34=>y9 h9 (z5 (.agg [ji r16.1.1,ji r16.1.2]) (zB rfl rfl) (zB h33 rfl) (xo (by first | rfl | simp [V.toks,V.tokss,Enc.toks_enc,zY])) (gm (zd h34 rfl) fun h10=>?_)))
     refine gz [(2,.ref (.bx 2) 0 [] (.agg [eL x1.a])),(4,nP),(5,jb false),(6,zu (.at 6 []) (.of (x8:TP))),(9,.ref (.bx 9) 0 [] (.agg [ji r16.1.1,ji r16.1.2])),(10,_),(18,eL x2),(19,ji (x2.length:Int)),(20,ji x9)] ⟨zd h2 (zH rfl rfl (yJ (zF uE rfl))),zd h4 rfl,zd h5 rfl,zd h6 (wm rfl rfl),zd rfl rfl,h10,zd h18 uE,zd h19 rfl,zd h20 rfl⟩ ?_
     rintro s ⟨h2,h4,h5,h6,h9,h10,h18,h19,h20⟩
     refine .nsq (.seq (.seq (rg (gm h10 fun h35=>g1 35 (jb (!r16.2)) h35 fun h36=>gq (.nsq (zn h36 h (fun h=>?_) (fun h=>?_)))))))
     · refine .seq (rg (g0 nP fun h4=>g0 (jb false) fun h5=>gq (.nsq (.ret ?_))))
       obtain rfl:=oi h
       exact rrB (zm h4) (zm h5) (vC (w6 (z7 (wj (o:=(.nil:NL (Int×Int))) (t:=.nl)) (z7 (xd (x:=(false:Bool))) xJ))) (Y0 (yN KN (yN rfl vr))))
     refine .skip (.nsq (zw (zW ?_)))
     refine ez [(2,_),(4,_),(5,_),(6,_),(9,_),(18,_),(19,_),(20,_),(39,_),(40,_)] ⟨za h2 rfl (zj rfl (zM (zg me zx))),za h4 rfl rfl,za h5 rfl mb,za h6 rfl (zl (r:=6) (p:=[]) rfl rfl),za h9 rfl (zj rfl mII),za h18 rfl me,za h19 rfl mi,za h20 rfl mi,ze rfl,ze rfl⟩ ?_
     rintro s ⟨h2,h4,h5,h6,h9,h18,h19,h20,h39,h40⟩
     refine gm h6 fun h37=>g1 9 (.agg [ji r16.1.1,ji r16.1.2]) h9 fun h38=>xb [(38,.agg [ji r16.1.1,ji r16.1.2])] [Enc.enc (r16.1:(Int×Int))] h38 rfl rfl h39 ?_
     obtain ⟨ap17,Eap17,h⟩:=zc h
     refine Z0 (q:=6) (p:=[]) (o:=.of (x8:TP)) (ys:=([r16.1]:TP)) (t2:=.at 39 []) (lo2:=0) h37 rfl rfl h40 (vK (o:=.of (x8:TP)) Eap17 trivial) (fun s14 ha14=>gm (rf (zu (.at 40 []) (.of (ap17:TP)))) fun h6=>yK (yo (r:=40) (x:=6) (v:=_) h6 rfl (fun s15 hz15=>?_)))
     refine ez [(2,.ref (.bx 2) 0 [] (.agg [eL x1.a])),(4,nP),(5,jb false),(6,zu (.at 6 []) (.of (ap17:TP))),(18,eL x2),(19,ji (x2.length:Int)),(20,ji x9)] ⟨hz15 2 _ _ (show s14 2=(.ref (.bx 2) 0 [] (.agg [eL x1.a])) from zy ha14 h2 (zj rfl (zM (zg me zx)))) (zj rfl (zM (zg me zx))),hz15 4 _ nP (show s14 4=nP from zy ha14 h4 rfl) rfl,hz15 5 _ _ (show s14 5=(jb false) from zy ha14 h5 mb) mb,hz15 6 _ _ h6 (zl (r:=40) (p:=[]) rfl rfl),hz15 18 _ _ (show s14 18=(eL x2) from zy ha14 h18 me) me,hz15 19 _ _ (show s14 19=(ji (x2.length:Int)) from zy ha14 h19 mi) mi,hz15 20 _ _ (show s14 20=(ji x9) from zy ha14 h20 mi) mi⟩ ?_
     rintro s ⟨h2,h4,h5,h6,h18,h19,h20⟩
     refine .nbk (.nsq (rg (g1 20 (ji (w64 (x9 + 1))) h20 fun h41=>gm h41 fun h20=>gq (.nlp ?_))))
     exact ih ap17 (w64 (x9 + 1)) _ ⟨h2,h4,h5,h6,h18,h19,h20⟩ h
   refine .exit (.esq (.elp (.ebk (.nsq (.seq (rg (gm h6 fun h42=>gm h42 fun h4=>g0 (jb true) fun h5=>yK (yo (r:=6) (x:=4) (v:=_) h4 rfl (fun s16 hz16=>?_)))))))))
   refine ez [(4,zu (.at 4 []) (.of (x8:TP))),(5,jb true)] ⟨hz16 4 _ _ h4 (zl (r:=6) (p:=[]) rfl rfl),hz16 5 _ _ h5 mb⟩ ?_
   rintro s ⟨h4,h5⟩
   refine .nsq (.ret ?_)
   obtain rfl:=oi h
   exact rrB (zm h4) (zm h5) (vC (w6 (z7 (wj (o:=.of x8)) (z7 (xd (x:=(true:Bool))) xJ))) (Y0 (yN (vB rfl) (yN rfl vr))))
def xX (F:Nat) (x1:(S1 LI)) (x2:LI):Option (TP×Bool):=
 bif decide ((x2.length:Int) > 40) then
  some ([],false)
 else
  (uI F x1).bind fun r3=>
  xr F x1 x2 F [(0,r3)] 0
theorem t34 (H:H34 D σ F) (x1:(S1 LI)) (x2:LI) (s:Nat→V) (hs:zr [(0,.agg [eL x1.a]),(1,eL x2)] s) (h:xX F x1 x2=some r):Run D σ (R34 r) (.run A34 []) s:=by
 unfold xX at h
 obtain ⟨h0,h1⟩:=hs
 refine .seq (zw (zW ?_))
 refine ez [(0,_),(1,_),(2,_)] ⟨za h0 rfl (zM (zg me zx)),za h1 rfl me,ze rfl⟩ ?_
 rintro s ⟨h0,h1,h2⟩
 refine xn (.agg [eL x1.a]) (zB h0 rfl) h2 rfl (g0 nP fun h4=>g0 (jb false) fun h5=>gq (.nsq (.seq (.seq (rg (gm h1 fun h11=>gl x2 h11 fun h12=>g1 12 (jb (decide ((x2.length:Int) > 40))) h12 fun h13=>gq (.nsq (zn h13 h (fun h=>?_) (fun h=>?_)))))))))
 · refine .seq (rg (g0 nP fun h4=>g0 (jb false) fun h5=>gq (.nsq (.ret ?_))))
   obtain rfl:=oi h
   exact rrB (zm h4) (zm h5) (vC (w6 (z7 (wj (o:=(.nil:NL (Int×Int))) (t:=.nl)) (z7 (xd (x:=(false:Bool))) xJ))) (Y0 (yN KN (yN rfl vr))))
 refine .skip (.nsq (.seq (zw (zW ?_))))
 refine ez [(1,_),(2,_),(4,_),(5,_),(17,_)] ⟨za h1 rfl me,za rfl rfl (zj rfl (zM (zg me zx))),za h4 rfl rfl,za h5 rfl mb,ze rfl⟩ ?_
 rintro s ⟨h1,h2,h4,h5,h17⟩
 refine g1 2 (.agg [eL x1.a]) h2 fun h14=>?_
 obtain ⟨r3,Er3,h⟩:=zc h
 refine gcF [Enc.enc (x1:(S1 LI))] (zf h14 rfl (Enc.erase_enc (x1:(S1 LI))) zC) (H.c57 _ _ Er3) H.g57 (g1 15 (.agg [ji 0,ji r3]) (rf (ji r3)) fun h16=>xb [(16,.agg [ji 0,ji r3])] [Enc.enc ((0,r3):(Int×Int))] h16 rfl rfl h17 (gm (rf (zu (.at 17 []) (.of ([(0,r3)]:TP)))) fun h6=>yK (yo (r:=17) (x:=6) (v:=_) h6 rfl (fun s3 hz3=>?_))))
 refine ez [(1,eL x2),(2,.ref (.bx 2) 0 [] (.agg [eL x1.a])),(4,nP),(5,jb false),(6,zu (.at 6 []) (.of ([(0,r3)]:TP)))] ⟨hz3 1 _ _ h1 me,hz3 2 _ _ h2 (zj rfl (zM (zg me zx))),hz3 4 _ _ h4 rfl,hz3 5 _ _ h5 mb,hz3 6 _ _ h6 (zl (r:=17) (p:=[]) rfl rfl)⟩ ?_
 rintro s ⟨h1,h2,h4,h5,h6⟩
 refine .nsq (.seq (.seq (rg (gm h1 fun h18=>gl x2 h18 fun h19=>g0 (ji 0) fun h20=>gq (.nsq (.block (.loop ?_)))))))
 exact ziq H x1 x2 F [(0,r3)] 0 _ ⟨h2,h4,h5,h6,h18,h19,h20⟩ h
end
def e34 (F:Nat):Ent:=ent 34 (fun (x:((S1 LI)×LI×Unit))=>xX F x.1 x.2.1) (fun (r:(TP×Bool))=>(.tup [eP r.1,Enc.enc (r.2:Bool)])) 0 false []
abbrev C34 (D:List V→Option V) (F:Nat):Prop:=∀ (x0:(S1 LI)) (x1:LI) r,xX F x0 x1=some r→D [Enc.enc x0,Enc.enc x1]=some (.tup [eP r.1,Enc.enc (r.2:Bool)])
theorem p34 {F:Nat}:C34 (e34 F).den F:=fun x0 x1 _ h=>zS (x0,x1,()) h
theorem o34 (hF:zG Try.prog D σ) (H:H34 D σ F):(e34 F).Ok Try.prog:=okZ (f:=34) Try.func34 fun ⟨x0,x1,_⟩ y hy=>cR hF Try.func34 c34 (t34 H x0 x1 _ ⟨rfl,rfl⟩ hy)
def zsL:AC:=(.cond (.t 8) (.seq (rr [jv 4 (.mov (.k (.sl .nl (.ag [.s,.s]) 0 []))),jv 5 (.mov kf)]) .ret) .skip)
def zse:AC:=(.seq (rr [jv 9 (.load (.ag [.s,.p]) (.t 2)),jx 10 (.call (jf 33) [.t 9]),jm 11 1,jx 12 (.call (jf 34) [.t 10,.t 11]),jv 13 (.ext (.t 12) 0),jv 14 (.extS (.t 12) 1),jm 4 13,jm 5 14]) .ret)
def zo4:AC:=(.seq (.seq (rr [jv 6 (.load (.ag [.s,.p]) (.t 2)),jx 7 (.call (jf 32) [.t 6]),jv 8 (.un .not (.t 7))]) zsL) zse)
def A26:AC:=(.seq (.reg [.clr [2]] [jx 2 (.box (.t 0)),jv 4 (.mov (.k (.sl .nl (.ag [.s,.s]) 0 []))),jv 5 (.mov kf)] []) zo4)
def zuY:List An:=[⟨0,[.clr [2]],[],[],[]⟩]
theorem c26:cq Try.prog Try.f26 zuY=some A26:=by kernel_rfl
structure H26 (D:Den) (σ:Sig) (F:Nat):Prop where
 c32:C32 (D 32) F
 g32:σ 32=some (0,false)
 c33:C33 (D 33) F
 g33:σ 33=some (0,false)
 c34:C34 (D 34) F
 g34:σ 34=some (0,false)
abbrev R26 (r:(TP×Bool)):(Nat→V)→Prop:=RR Try.prog [.tmp 4,.tmp 5] 0 true (.tup [eP r.1,Enc.enc (r.2:Bool)])
section
variable {r:(TP×Bool)}
def wo (F:Nat) (x1:GR) (x2:LI):Option (TP×Bool):=
 (vw F x1).bind fun r3=>
 bif (!r3) then
  some ([],false)
 else
  (ZQ F x1).bind fun r4=>
  (xX F r4 x2).bind fun r5=>
  some (r5.1,r5.2)
theorem t26 (H:H26 D σ F) (x1:GR) (x2:LI) (s:Nat→V) (hs:zr [(0,gV x1),(1,eL x2)] s) (h:wo F x1 x2=some r):Run D σ (R26 r) (.run A26 []) s:=by
 unfold wo at h
 obtain ⟨h0,h1⟩:=hs
 refine .seq (zw (zW ?_))
 refine ez [(0,_),(1,_),(2,_)] ⟨za h0 rfl mIE,za h1 rfl me,ze rfl⟩ ?_
 rintro s ⟨h0,h1,h2⟩
 refine xn (gV x1) (zB h0 rfl) h2 rfl (g0 nP fun h4=>g0 (jb false) fun h5=>gq (.nsq (.seq (.seq (rg (g1 2 (gV x1) (rf (bG 2 x1)) fun h6=>?_))))))
 obtain ⟨r3,Er3,h⟩:=zc h
 refine gcF [Enc.enc (x1:GR)] (zf h6 rfl (Enc.erase_enc (x1:GR)) zC) (H.c32 _ _ Er3) H.g32 (g1 7 (jb (!r3)) (rf (jb r3)) fun h8=>gq (.nsq (zn h8 h (fun h=>?_) (fun h=>?_))))
 · refine .seq (rg (g0 nP fun h4=>g0 (jb false) fun h5=>gq (.nsq (.ret ?_))))
   obtain rfl:=oi h
   exact rrB (zm h4) (zm h5) (xV (w6 (z7 (wj (o:=(.nil:NL (Int×Int))) (t:=.nl)) (z7 (xd (x:=(false:Bool))) xJ))))
 refine .skip (.nsq (.seq (rg (g1 2 (gV x1) (rf (bG 2 x1)) fun h9=>?_))))
 obtain ⟨r4,Er4,h⟩:=zc h
 refine gcF [Enc.enc (x1:GR)] (zf h9 rfl (Enc.erase_enc (x1:GR)) zC) (H.c33 _ _ Er4) H.g33 (gm h1 fun h11=>?_)
 obtain ⟨r5,Er5,h⟩:=zc h
 refine gcF [Enc.enc (r4:(S1 LI)),eL x2] (zf (v:=.agg [eL r4.a]) rfl rfl (Enc.erase_enc (r4:(S1 LI))) (zf h11 rfl (Enc.erase_enc (x2:LI)) zC)) (H.c34 _ _ _ Er5) H.g34 (g1 12 (eP r5.1) (rf (.tup [eP r5.1,jb r5.2])) fun h13=>g1 12 (jb r5.2) (rf (.tup [eP r5.1,jb r5.2])) fun h14=>gm h13 fun h4=>gm h14 fun h5=>gq (.nsq (.ret ?_)))
 obtain rfl:=oi h
 exact rrB (zm h4) (zm h5) (xV (w6 (z7 (xd (x:=(r5.1:TP))) (z7 (xd (x:=(r5.2:Bool))) xJ))))
end
def e26 (F:Nat):Ent:=ent 26 (fun (x:(GR×LI×Unit))=>wo F x.1 x.2.1) (fun (r:(TP×Bool))=>(.tup [eP r.1,Enc.enc (r.2:Bool)])) 0 true []
abbrev C26 (D:List V→Option V) (F:Nat):Prop:=∀ (x0:GR) (x1:LI) r,wo F x0 x1=some r→D [Enc.enc x0,Enc.enc x1]=some (.tup [eP r.1,Enc.enc (r.2:Bool)])
theorem p26 {F:Nat}:C26 (e26 F).den F:=fun x0 x1 _ h=>zS (x0,x1,()) h
theorem o26 (hF:zG Try.prog D σ) (H:H26 D σ F):(e26 F).Ok Try.prog:=okZ (f:=26) Try.func26 fun ⟨x0,x1,_⟩ y hy=>cR hF Try.func26 c26 (t26 H x0 x1 _ ⟨rfl,rfl⟩ hy)
def zqd:AC:=(.cond (.t 8) .skip (.exit 0))
def zoC:AC:=(.cond (.t 15) (.reg [.clr [18,19]] [jm 16 3,jm 17 4,jx 18 (.lit i0 1 [(0,0,.t 17)]),jx 19 (.app .s (.t 16) (.t 18)),jm 3 19] [.home 19 3]) .skip)
def zlH:AC:=(rr [jm 9 4,jv 10 (.bin .add (.t 9) (jn 1)),jm 4 10])
def zrH:AC:=(.seq (.block 1 (.seq (rr [jm 11 0,jm 12 4,jv 13 (.bin .shr (.t 11) (.t 12)),jv 14 (.bin .and (.t 13) (jn 1)),jv 15 (.bin .eql (.t 14) (jn 1))]) zoC)) zlH)
def Qy:AC:=(.seq (.seq (rr [jm 5 0,jm 6 4,jv 7 (.bin .shr (.t 5) (.t 6)),jv 8 (.bin .neq (.t 7) (jn 0))]) zqd) zrH)
def zeO:AC:=(.seq (.reg [] [jm 20 3,jm 2 20] [.home 3 2]) .ret)
def zoU:AC:=(.block 0 (.loop Qy))
def zo7:AC:=(.seq (.seq (rr [jv 4 (.mov (jn 0))]) zoU) zeO)
def zrm:AC:=(.seq (rr [jv 3 (.mov (.k (.sl .nl .s 0 [])))]) zo7)
def A27:AC:=(.seq (rr [jv 2 (.mov (.k (.sl .nl .s 0 [])))]) zrm)
def zvJ:List An:=[⟨6,[.clr [18,19]],[],[],[.home 19 3]⟩,⟨7,[],[],[],[.home 3 2]⟩]
theorem c27:cq Try.prog Try.f27 zvJ=some A27:=by kernel_rfl
structure H27 (D:Den) (σ:Sig) (F:Nat):Prop where
 mk ::
abbrev R27 (r:LI):(Nat→V)→Prop:=RR Try.prog [.tmp 2] 0 false (eL r)
section
variable {r:LI}
def WE (F:Nat) (x1:Int) (x8:Int) (c1:(NL Int)→Int→Option LI) (x17:(NL Int)):Option LI:=
 c1 x17 (w64 (x8 + 1))
theorem zb4 (H:H27 D σ F) (x1:Int) (x8:Int) (c1:(NL Int)→Int→Option LI) (Hc1:∀ (x7:(NL Int)) (x8:Int) (s:Nat→V),zr [(0,ji x1),(2,nI),(3,oI 3 [] x7),(4,ji x8)] s→c1 x7 x8=some r→Run D σ (R27 r) (.run Qy [.lp Qy,.bk 0,.sq zeO]) s) (x17:(NL Int)) (s:Nat→V) (hs:zr [(0,ji x1),(2,nI),(3,oI 3 [] x17),(4,ji x8)] s) (h:WE F x1 x8 c1 x17=some r):Run D σ (R27 r) (.nrm [.bk 1,.sq zlH,.lp Qy,.bk 0,.sq zeO]) s:=by
 unfold WE at h
 obtain ⟨h0,h2,h3,h4⟩:=hs
 refine .nbk (.nsq (rg (gm h4 fun h9=>g1 9 (ji (w64 (x8 + 1))) h9 fun h10=>gm h10 fun h4=>gq (.nlp ?_))))
 exact Hc1 x17 (w64 (x8 + 1)) _ ⟨h0,h2,h3,h4⟩ h
def um (F:Nat) (x1:Int) :Nat→(NL Int)→Int→Option LI
 | 0,_,_=>none
 | k + 1,x7,x8=>
   (U4 .i64 x1 x8).bind fun q14=>
   bif (q14 != 0) then
    (U4 .i64 x1 x8).bind fun q15=>
    bif ((yO .i64 q15 1) == 1) then
     (vz x7.list [x8]).bind fun ap18=>
     WE F x1 x8 (um F x1 k) (.of ap18)
    else
     WE F x1 x8 (um F x1 k) x7
   else
    some x7.list
theorem zjy (H:H27 D σ F) (x1:Int) :∀ (k:Nat) (x7:(NL Int)) (x8:Int) (s:Nat→V),zr [(0,ji x1),(2,nI),(3,oI 3 [] x7),(4,ji x8)] s→um F x1 k x7 x8=some r→Run D σ (R27 r) (.run Qy [.lp Qy,.bk 0,.sq zeO]) s:=by
 intro k
 induction k with
 | zero=>intro x7 x8 s _ h;exact nm h
 | succ k ih=>
   intro x7 x8 s hs h
   rw [um] at h
   obtain ⟨h0,h2,h3,h4⟩:=hs
   refine .seq (.seq (rg (gm h0 fun h5=>gm h4 fun h6=>?_)))
   obtain ⟨q14,Eq14,h⟩:=zc h
   refine gv (ji q14) (XP h5 h6 Eq14) fun h7=>g1 7 (jb (q14 != 0)) h7 fun h8=>gq (.nsq (zn h8 h (fun h=>?_) (fun h=>?_)))
   · refine .skip (.nsq (.seq (.block (.seq (rg (gm h0 fun h11=>gm h4 fun h12=>?_))))))
     obtain ⟨q15,Eq15,h⟩:=zc h
     refine gv (ji q15) (XP h11 h12 Eq15) fun h13=>g1 13 (ji (yO .i64 q15 1)) h13 fun h14=>g1 14 (jb ((yO .i64 q15 1) == 1)) h14 fun h15=>gq (.nsq (zn h15 h (fun h=>?_) (fun h=>?_)))
     · refine zw (zW ?_)
       refine ez [(0,_),(2,_),(3,_),(4,_),(18,_),(19,_)] ⟨za h0 rfl mi,za h2 rfl rfl,za h3 rfl (zl (r:=3) (p:=[]) rfl rfl),za h4 rfl mi,ze rfl,ze rfl⟩ ?_
       rintro s ⟨h0,h2,h3,h4,h18,h19⟩
       refine gv (oI 3 [] x7) (W3 h3 Yd) fun h16=>gm h4 fun h17=>xb [(17,ji x8)] [Enc.enc (x8:Int)] h17 rfl rfl h18 ?_
       obtain ⟨ap18,Eap18,h⟩:=zc h
       refine Z0 (q:=3) (p:=[]) (o:=(x7:NL Int)) (ys:=([x8]:LI)) (t2:=.at 18 []) (lo2:=0) h16 rfl rfl h19 (vK (o:=(x7:NL Int)) Eap18 (by split <;> simp)) (fun s17 ha17=>gm (rf (oI 19 [] (.of ap18))) fun h3=>yK (yo (r:=19) (x:=3) (v:=_) h3 rfl (fun s18 hz18=>?_)))
       refine ez [(0,ji x1),(2,nI),(3,oI 3 [] (.of ap18)),(4,ji x8)] ⟨hz18 0 _ _ (show s17 0=(ji x1) from zy ha17 h0 mi) mi,hz18 2 _ nI (show s17 2=nI from zy ha17 h2 rfl) rfl,hz18 3 _ _ h3 (zl (r:=19) (p:=[]) rfl rfl),hz18 4 _ _ (show s17 4=(ji x8) from zy ha17 h4 mi) mi⟩ ?_
       rintro s ⟨h0,h2,h3,h4⟩
       exact zb4 H x1 x8 (um F x1 k) ih (.of ap18) _ ⟨h0,h2,h3,h4⟩ h
     refine .skip ?_
     exact zb4 H x1 x8 (um F x1 k) ih x7 _ ⟨h0,h2,h3,h4⟩ h
   refine .exit (.esq (.elp (.ebk (.nsq (.seq (rg (gv (oI 3 [] x7) (W3 h3 Yd) fun h20=>gv (oI 3 [] x7) (W3 h20 Yd) fun h2=>yK (yo (r:=3) (x:=2) (v:=_) h2 Yd (fun s19 hz19=>?_)))))))))
   refine ez [(2,oI 2 [] x7)] (hz19 2 _ _ h2 (zl (r:=3) (p:=[]) rfl rfl)) ?_
   rintro s h2
   refine .nsq (.ret ?_)
   obtain rfl:=oi h
   exact rrA (zm h2) (vC (wj (o:=x7)) (vB rfl))
def Y2 (F:Nat) (x1:Int):Option LI:=
 um F x1 F .nil 0
theorem t27 (H:H27 D σ F) (x1:Int) (s:Nat→V) (hs:zr [(0,ji x1)] s) (h:Y2 F x1=some r):Run D σ (R27 r) (.run A27 []) s:=by
 unfold Y2 at h
 have h0:=hs
 refine .seq (rg (g0 nI fun h2=>gq (.nsq (.seq (rg (g0 nI fun h3=>gq (.nsq (.seq (.seq (rg (g0 (ji 0) fun h4=>gq (.nsq (.block (.loop ?_))))))))))))))
 exact zjy H x1 F .nil 0 _ ⟨h0,h2,h3,h4⟩ h
end
def e27 (F:Nat):Ent:=ent 27 (fun (x:(Int×Unit))=>Y2 F x.1) (fun (r:LI)=>(eL r)) 0 false []
abbrev C27 (D:List V→Option V) (F:Nat):Prop:=∀ (x0:Int) r,Y2 F x0=some r→D [Enc.enc x0]=some (eL r)
theorem p27 {F:Nat}:C27 (e27 F).den F:=fun x0 _ h=>zS (x0,()) h
theorem o27 (hF:zG Try.prog D σ) (H:H27 D σ F):(e27 F).Ok Try.prog:=okZ (f:=27) Try.func27 fun ⟨x0,_⟩ y hy=>cR hF Try.func27 c27 (t27 H x0 _ rfl hy)
def zvd:AC:=(.reg [.clr [30,31]] [jm 26 8,jv 27 (.fld (.t 10) 1 1),jl 28 27,jx 29 (.call (jf 27) [.t 28]),jx 30 (.lit (.sl .nl .s 0 []) 1 [(0,0,.t 29)]),jx 31 (.app .p (.t 26) (.t 30)),jm 8 31] [.home 31 8])
def zvE:AC:=(rr [jv 32 (.bin .add (.t 22) (jn 1)),jm 22 32])
def zvc:AC:=(.seq (.block 1 (.seq (.reg [.clr [10]] [jv 24 (.idx (.t 20) (.t 22) 2),jv 25 (.load (.ag [.s,.s]) (.t 24)),jx 10 (.alloc (.agg [i0,i0])),jz (.store (.ag [.s,.s]) (.t 10) (.t 25))] []) zvd)) zvE)
def zu2:AC:=(.seq (.cond (.t 23) .skip (.exit 0)) zvc)
def zmo:AC:=(.seq (rr [jv 23 (.bin .lss (.t 22) (.t 21))]) zu2)
def zua:AC:=(.seq (.reg [] [jm 33 8,jm 4 33,jv 5 (.mov kt)] [.home 8 4]) .ret)
def zuX:AC:=(.cond (.t 18) (.seq (rr [jv 4 (.mov (.k (.sl .nl .p 0 []))),jv 5 (.mov kf)]) .ret) .skip)
def zsn:AC:=(.block 0 (.loop zmo))
def zrS:AC:=(.seq (.seq (rr [jm 19 6,jv 20 (.slice (.t 19) (some (jn 1)) none 2),jk 21 20,jv 22 (.mov (jn 0))]) zsn) zua)
def zsy:AC:=(.seq (rr [jv 8 (.mov (.k (.sl .nl .p 0 [])))]) zrS)
def zuV:AC:=(.seq (.seq (rr [jm 17 7,jv 18 (.un .not (.t 17))]) zuX) zsy)
def zu5:AC:=(.seq (rr [jv 12 (.load (.ag [.s,.p]) (.t 2)),jm 13 1,jx 14 (.call (jf 26) [.t 12,.t 13]),jm 11 14,jv 15 (.ext (.t 11) 0),jv 16 (.extS (.t 11) 1),jm 6 15,jm 7 16]) zuV)
def A6:AC:=(.seq (.reg [.clr [2]] [jx 2 (.box (.t 0)),jv 4 (.mov (.k (.sl .nl .p 0 []))),jv 5 (.mov kf)] []) zu5)
def an6:List An:=[⟨0,[.clr [2]],[],[],[]⟩,⟨7,[.clr [10]],[],[],[]⟩,⟨8,[.clr [30,31]],[],[],[.home 31 8]⟩,⟨10,[],[],[],[.home 8 4]⟩]
theorem c6:cq Try.prog Try.f6 an6=some A6:=by kernel_rfl
structure H6 (D:Den) (σ:Sig) (F:Nat):Prop where
 c26:C26 (D 26) F
 g26:σ 26=some (0,true)
 c27:C27 (D 27) F
 g27:σ 27=some (0,false)
abbrev R6 (r:((List LI)×Bool)):(Nat→V)→Prop:=RR Try.prog [.tmp 4,.tmp 5] 0 true (.tup [Enc.enc (r.1:(List LI)),Enc.enc (r.2:Bool)])
section
variable {r:((List LI)×Bool)}
def w8 (F:Nat) (sub4:TP) :Nat→(NL LI)→Int→Option ((List LI)×Bool)
 | 0,_,_=>none
 | k + 1,x8,x9=>
   bif decide (x9 < (sub4.length:Int)) then
    (idx sub4 x9).bind fun v13=>
    (Y2 F v13.2).bind fun r14=>
    (vz x8.list [r14]).bind fun ap15=>
    (w8 F sub4 k) (.of ap15) (w64 (x9 + 1))
   else
    some (x8.list,true)
theorem zkv (H:H6 D σ F) (sub4:TP) :∀ (k:Nat) (x8:(NL LI)) (x9:Int) (s:Nat→V),zr [(4,.sl .nl (Enc.shp LI) 0 []),(5,jb false),(8,zu (.at 8 []) (x8:NL LI)),(20,eP sub4),(21,ji (sub4.length:Int)),(22,ji x9)] s→w8 F sub4 k x8 x9=some r→Run D σ (R6 r) (.run zmo [.lp zmo,.bk 0,.sq zua]) s:=by
 intro k
 induction k with
 | zero=>intro x8 x9 s _ h;exact nm h
 | succ k ih=>
   intro x8 x9 s hs h
   rw [w8] at h
   obtain ⟨h4,h5,h8,h20,h21,h22⟩:=hs
   refine .seq (rg (g2 22 21 (jb (decide (x9 < (sub4.length:Int)))) h22 h21 fun h23=>gq (.nsq (.seq (zn h23 h (fun h=>?_) (fun h=>?_))))))
   · refine .skip (.nsq (.seq (.block (.seq (zw (zW ?_))))))
     refine ez [(4,_),(5,_),(8,_),(10,_),(20,_),(21,_),(22,_)] ⟨za h4 rfl rfl,za h5 rfl mb,za h8 rfl (zl (r:=8) (p:=[]) rfl rfl),ze rfl,za h20 rfl me,za h21 rfl mi,za h22 rfl mi⟩ ?_
     rintro s ⟨h4,h5,h8,h10,h20,h21,h22⟩
     obtain ⟨v13,Ev13,h⟩:=zc h
     refine gv (.ref .sh 0 [] (.agg [ji v13.1,ji v13.2])) (yg (t:=.sh) (lo:=0) (xs:=sub4) h20 h22 Ev13 rfl rfl) fun h24=>g1 24 (.agg [ji v13.1,ji v13.2]) h24 fun h25=>y9 h10 (z5 (.agg [ji v13.1,ji v13.2]) (zB rfl rfl) (zB h25 rfl) (xo (by first | rfl | simp [V.toks,V.tokss,Enc.toks_enc,zY])) (gz [(4,.sl .nl (Enc.shp LI) 0 []),(5,jb false),(8,zu (.at 8 []) (x8:NL LI)),(10,.ref (.bx 10) 0 [] (.agg [ji v13.1,ji v13.2])),(20,eP sub4),(21,ji (sub4.length:Int)),(22,ji x9)] ⟨zd h4 rfl,zd h5 rfl,zd h8 (wm rfl rfl),zd rfl rfl,zd h20 uE,zd h21 rfl,zd h22 rfl⟩ ?_))
     rintro s ⟨h4,h5,h8,h10,h20,h21,h22⟩
     refine .nsq (zw (zW ?_))
     refine ez [(4,_),(5,_),(8,_),(10,_),(20,_),(21,_),(22,_),(30,_),(31,_)] ⟨za h4 rfl rfl,za h5 rfl mb,za h8 rfl (zl (r:=8) (p:=[]) rfl rfl),za h10 rfl (zj rfl mII),za h20 rfl me,za h21 rfl mi,za h22 rfl mi,ze rfl,ze rfl⟩ ?_
     rintro s ⟨h4,h5,h8,h10,h20,h21,h22,h30,h31⟩
     refine gv (zu (.at 8 []) (x8:NL LI)) (W3 h8 Yd) fun h26=>g1 10 (.ref (.bx 10) 0 [1] (ji v13.2)) h10 fun h27=>g1 27 (ji v13.2) h27 fun h28=>?_
     obtain ⟨r14,Er14,h⟩:=zc h
     refine gcF [Enc.enc (v13.2:Int)] (zf h28 rfl rfl zC) (H.c27 _ _ Er14) H.g27 (xb [(29,eL r14)] [eL r14] rfl rfl rfl h30 ?_)
     obtain ⟨ap15,Eap15,h⟩:=zc h
     refine Z0 (q:=8) (p:=[]) (o:=(x8:NL LI)) (ys:=([r14]:List LI)) (t2:=.at 30 []) (lo2:=0) h26 rfl rfl h31 (vK (o:=(x8:NL LI)) Eap15 (by split <;> simp)) (fun s12 ha12=>gm (rf (zu (.at 31 []) (.of (ap15:List LI)))) fun h8=>yK (yo (r:=31) (x:=8) (v:=_) h8 rfl (fun s13 hz13=>?_)))
     refine ez [(4,.sl .nl (Enc.shp LI) 0 []),(5,jb false),(8,zu (.at 8 []) (.of (ap15:List LI))),(20,eP sub4),(21,ji (sub4.length:Int)),(22,ji x9)] ⟨hz13 4 _ (.sl .nl (Enc.shp LI) 0 []) (show s12 4=(.sl .nl (Enc.shp LI) 0 []) from zy ha12 h4 rfl) rfl,hz13 5 _ _ (show s12 5=(jb false) from zy ha12 h5 mb) mb,hz13 8 _ _ h8 (zl (r:=31) (p:=[]) rfl rfl),hz13 20 _ _ (show s12 20=(eP sub4) from zy ha12 h20 me) me,hz13 21 _ _ (show s12 21=(ji (sub4.length:Int)) from zy ha12 h21 mi) mi,hz13 22 _ _ (show s12 22=(ji x9) from zy ha12 h22 mi) mi⟩ ?_
     rintro s ⟨h4,h5,h8,h20,h21,h22⟩
     refine .nbk (.nsq (rg (g1 22 (ji (w64 (x9 + 1))) h22 fun h32=>gm h32 fun h22=>gq (.nlp ?_))))
     exact ih (.of ap15) (w64 (x9 + 1)) _ ⟨h4,h5,h8,h20,h21,h22⟩ h
   refine .exit (.esq (.elp (.ebk (.nsq (.seq (rg (gv (zu (.at 8 []) (x8:NL LI)) (W3 h8 Yd) fun h33=>gv (zu (.at 8 []) (x8:NL LI)) (W3 h33 Yd) fun h4=>g0 (jb true) fun h5=>yK (yo (r:=8) (x:=4) (v:=_) h4 Yd (fun s14 hz14=>?_)))))))))
   refine ez [(4,zu (.at 4 []) (x8:NL LI)),(5,jb true)] ⟨hz14 4 _ _ h4 (zl (r:=8) (p:=[]) rfl rfl),hz14 5 _ _ h5 mb⟩ ?_
   rintro s ⟨h4,h5⟩
   refine .nsq (.ret ?_)
   obtain rfl:=oi h
   exact rrB (zm h4) (zm h5) (xV (w6 (z7 (wj (o:=x8)) (z7 (xd (x:=(true:Bool))) xJ))))
def uh (F:Nat) (x1:GR) (x2:LI):Option ((List LI)×Bool):=
 (wo F x1 x2).bind fun r3=>
 bif (!r3.2) then
  some ([],false)
 else
  (sub r3.1 1 (r3.1.length:Int)).bind fun sub4=>
  w8 F sub4 F .nil 0
theorem t6 (H:H6 D σ F) (x1:GR) (x2:LI) (s:Nat→V) (hs:zr [(0,gV x1),(1,eL x2)] s) (h:uh F x1 x2=some r):Run D σ (R6 r) (.run A6 []) s:=by
 unfold uh at h
 obtain ⟨h0,h1⟩:=hs
 refine .seq (zw (zW ?_))
 refine ez [(0,_),(1,_),(2,_)] ⟨za h0 rfl mIE,za h1 rfl me,ze rfl⟩ ?_
 rintro s ⟨h0,h1,h2⟩
 refine xn (gV x1) (zB h0 rfl) h2 rfl (g0 (.sl .nl (Enc.shp LI) 0 []) fun h4=>g0 (jb false) fun h5=>gq (.nsq (.seq (rg (g1 2 (gV x1) (rf (bG 2 x1)) fun h12=>gm h1 fun h13=>?_)))))
 obtain ⟨r3,Er3,h⟩:=zc h
 refine xT (m:=0) (al:=true) (r:=.tup [eP r3.1,Enc.enc (r3.2:Bool)]) [Enc.enc (x1:GR),eL x2] (zf h12 rfl (Enc.erase_enc (x1:GR)) (zf h13 rfl (Enc.erase_enc (x2:LI)) zC)) (H.c26 _ _ _ Er3) H.g26 (we (yc (v:=gV x1) h12 rfl rfl (yc (v:=eL x2) h13 rfl rfl wd))) rfl rfl rfl (gm (rf (.tup [eP r3.1,jb r3.2])) fun h11=>g1 11 (eP r3.1) h11 fun h15=>g1 11 (jb r3.2) h11 fun h16=>gm h15 fun h6=>gm h16 fun h7=>gq (.nsq (.seq (.seq (rg (gm h7 fun h17=>g1 17 (jb (!r3.2)) h17 fun h18=>gq (.nsq (zn h18 h (fun h=>?_) (fun h=>?_)))))))))
 · refine .seq (rg (g0 (.sl .nl (Enc.shp LI) 0 []) fun h4=>g0 (jb false) fun h5=>gq (.nsq (.ret ?_))))
   obtain rfl:=oi h
   exact rrB (zm h4) (zm h5) (xV (w6 (z7 (wj (o:=(.nil:NL LI)) (t:=.nl)) (z7 (xd (x:=(false:Bool))) xJ))))
 refine .skip (.nsq (.seq (rg (g0 (.sl .nl (Enc.shp LI) 0 []) fun h8=>gq (.nsq (.seq (.seq (rg (gm h6 fun h19=>?_)))))))))
 obtain ⟨sub4,Esub4,h⟩:=zc h
 refine gv (eP sub4) (W6 (xs:=r3.1) h19 (YD rfl) (YN) Esub4 rfl) fun h20=>gl sub4 h20 fun h21=>g0 (ji 0) fun h22=>gq (.nsq (.block (.loop ?_)))
 exact zkv H sub4 F .nil 0 _ ⟨h4,h5,h8,h20,h21,h22⟩ h
end
def e6 (F:Nat):Ent:=ent 6 (fun (x:(GR×LI×Unit))=>uh F x.1 x.2.1) (fun (r:((List LI)×Bool))=>(.tup [Enc.enc (r.1:(List LI)),Enc.enc (r.2:Bool)])) 0 true []
abbrev C6 (D:List V→Option V) (F:Nat):Prop:=∀ (x0:GR) (x1:LI) r,uh F x0 x1=some r→D [Enc.enc x0,Enc.enc x1]=some (.tup [Enc.enc (r.1:(List LI)),Enc.enc (r.2:Bool)])
theorem p6 {F:Nat}:C6 (e6 F).den F:=fun x0 x1 _ h=>zS (x0,x1,()) h
theorem o6 (hF:zG Try.prog D σ) (H:H6 D σ F):(e6 F).Ok Try.prog:=okZ (f:=6) Try.func6 fun ⟨x0,x1,_⟩ y hy=>cR hF Try.func6 c6 (t6 H x0 x1 _ ⟨rfl,rfl⟩ hy)
end Go.Zq
