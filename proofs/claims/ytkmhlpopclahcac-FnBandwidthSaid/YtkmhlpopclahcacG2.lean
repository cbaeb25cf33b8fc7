/- Functions of the program as typed functions, and that the machine runs as they say (part 2). No further condition. -/
import Derived.Test.YtkmhlpopclahcacK4
import Derived.Test.YtkmhlpopclahcacKC
import Derived.Test.YtkmhlpopclahcacProg
import Derived.Test.YtkmhlpopclahcacChecked
import Derived.KernelRfl
import Derived.Test.YtkmhlpopclahcacG1
set_option linter.unusedVariables false
set_option linter.unusedSimpArgs false
namespace Go.Zq
open Go.Proofs Go.Shelf
variable {D:Den} {σ:Sig} {F:Nat}
def zqA:AC:=(.seq (rr [jm 3 0,jx 4 (.callT (jf 46) [.t 3,jn 6] [0] []),jz (.store (.ag [.s,.p]) (.t 2) (.t 4))]) .ret)
def A21:AC:=(.seq (.reg [.clr [2]] [jx 2 (.alloc (.agg [i0,.sl .nl (.ag [.s,.s]) 0 []]))] []) zqA)
def zvY:List An:=[⟨0,[.clr [2]],[],[],[]⟩,⟨1,[],[],[2000000],[]⟩]
theorem c21:cq Try.prog Try.f21 zvY=some A21:=by kernel_rfl
structure H21 (D:Den) (σ:Sig) (F:Nat):Prop where
 c46:C46 (D 46) F
 g46:σ 46=some (Zz,false)
abbrev R21 (r:(GR×CU)):(Nat→V)→Prop:=RT Try.prog [.cell 2 26] (Enc.enc (r.1:GR)) [cuV zJ r.2]
section
variable {r:(GR×CU)}
def vS (F:Nat) (x1:CC):Option (GR×CU):=
 (wi F (Cu.mk x1.v) 6).bind fun r2=>
 some (r2.1,r2.2)
theorem t21 (H:H21 D σ F) (x1:CC) (s:Nat→V) (hs:zk [(0,bC x1.v)] s) (h:vS F x1=some r):Run D σ (R21 r) (.run A21 []) s:=by
 unfold vS at h
 have h0:=hs
 refine .seq (zo (zT ?_))
 refine ez [(0,_),(2,_)] ⟨za h0 rfl (zi rfl Zj),zb rfl⟩ ?_
 rintro s ⟨h0,h2⟩
 refine wk h2 (gq (.nsq (.seq (rg (gm h0 fun h3=>?_)))))
 obtain ⟨r2,Er2,h⟩:=bind_some h
 refine u9 (r:=zJ) (b:=0) (x:=x1.v) (x':=r2.2) (vs:=[Enc.enc (6:Int)]) (res:=Enc.enc (r2.1:GR)) h0 (by exact (zQ (v:=cuV zJ x1.v) h3 rfl (zQ (v:=Enc.enc (6:Int)) rfl rfl yU))) (yh te yB) fm1 (H.c46 _ _ _ Er2) H.g46 te rfl (fun s2 hb2 ha2=>yd (gV r2.1) (zx (show s2 2=(bZ 2) from ha2 2 (bZ 2) _ rfl rfl (zi rfl (mIx rfl))) rfl) (zx rfl rfl) (ww (by first | rfl | simp [V.toks,V.tokss,Enc.toks_enc,ya])) ?_)
 refine gz [(0,bC r2.2),(2,bG 2 r2.1)] ⟨zd (show s2 0=(bC r2.2) from hb2 0 h0) (zH rfl rfl UL),zd (show s2 2=(bZ 2) from ha2 2 (bZ 2) _ rfl rfl (zi rfl (mIx rfl))) rfl⟩ ?_
 rintro s ⟨h0,h2⟩
 refine .nsq (.ret ?_)
 obtain rfl:=oi h
 exact rt1 (t:=0) (uI h2 (by kernel_rfl)) h0
end
def e21 (F:Nat):Ent:=ent 21 (fun (x:(CC×Unit))=>vS F x.1) (fun (r:(GR×CU))=>(.tup [Enc.enc (r.1:GR),.tup [cuV zJ r.2]])) Zz false []
abbrev C21 (D:List V→Option V) (F:Nat):Prop:=∀ (x0:CC) r,vS F x0=some r→D [Arg.arg x0]=some (.tup [Enc.enc (r.1:GR),.tup [cuV zJ r.2]])
theorem p21 {F:Nat}:C21 (e21 F).den F:=fun x0 _ h=>zK (x0,()) h
theorem o21 (hF:zr Try.prog D σ) (H:H21 D σ F):(e21 F).Ok Try.prog:=okZ (f:=21) Try.func21 fun ⟨x0,_⟩ y hy=>cT hF Try.func21 c21 (t21 H x0 _ rfl hy)
def zsP:AC:=(.cond (.t 13) .skip (.exit 0))
def zoK:AC:=(.reg [.clr [21,25,27,28,32]] [jy 21 (.lit i0 0 []),jm 22 5,jm 23 7,jv 24 (.slice (.t 22) none (some (.t 23)) 1),jy 25 (.appS .s (.t 21) (.t 24)),jm 26 6,jx 27 (.lit i0 1 [(0,0,.t 26)]),jy 28 (.appS .s (.t 25) (.t 27)),jm 29 5,jm 30 7,jv 31 (.slice (.t 29) (some (.t 30)) none 1),jx 32 (.appS .s (.t 28) (.t 31)),jm 5 32] [.home 32 5])
def zsn:AC:=(rr [jm 14 6,jv 15 (.bin .add (.t 14) (jn 1)),jm 6 15])
def zrA:AC:=(.seq (.block 1 (.seq (rr [jm 16 0,jm 17 5,jk 18 17,jv 19 (.bin .add (.t 18) (jn 1)),jx 20 (.callT (jf 48) [.t 16,.t 19] [0] []),jm 7 20]) zoK)) zsn)
def zjz:AC:=(.seq (.seq (rr [jm 9 6,jv 10 (.fld (.t 3) 0 0),jl 11 10,jx 12 (.call (jf 47) [.t 11,jn 8]),jv 13 (.bin .lss (.t 9) (.t 12))]) zsP) zrA)
def zpX:AC:=(.cond (.t 34) (.reg [.clr [37,39,40]] [jm 35 5,jm 36 0,jx 37 (.litS i0 3 [(0,0,jn 0),(1,1,jn (-1)),(2,2,jn 8)]),jx 38 (.callT (jf 50) [.t 36,.t 37] [0] []),jx 39 (.lit i0 1 [(0,0,.t 38)]),jx 40 (.app .s (.t 35) (.t 39)),jm 5 40] [.home 40 5]) .skip)
def zsy:AC:=(.seq (.reg [] [jm 41 5,jm 4 41] [.home 5 4,.frz 4]) .ret)
def zlx:AC:=(.seq (.seq (rr [jm 33 0,jx 34 (.callT (jf 49) [.t 33,jn 24] [0] [])]) zpX) zsy)
def zmR:AC:=(.block 0 (.loop zjz))
def znU:AC:=(.seq (.seq (rr [jv 6 (.mov (jn 0))]) zmR) zlx)
def zqX:AC:=(.seq (.reg [.clr [8]] [jx 8 (.lit i0 0 []),jm 5 8] [.home 8 5]) znU)
def A22:AC:=(.seq (.reg [.clr [3]] [jx 3 (.box (.t 1)),jv 4 (.mov (.k (.sl .nl .s 0 [])))] []) zqX)
def zvB:List An:=[⟨0,[.clr [3]],[],[],[]⟩,⟨1,[.clr [8]],[],[],[.home 8 5]⟩,⟨5,[],[],[5000000],[]⟩,⟨6,[.clr [21,25,27,28,32]],[0,4,7],[4,7,11],[.home 32 5]⟩,⟨7,[],[],[2000000],[]⟩,⟨8,[.clr [37,39,40]],[],[4000000,6002],[.home 40 5]⟩,⟨9,[],[],[],[.home 5 4,.frz 4]⟩]
theorem c22:cq Try.prog Try.f22 zvB=some A22:=by kernel_rfl
structure H22 (D:Den) (σ:Sig) (F:Nat):Prop where
 c47:C47 (D 47) F
 g47:σ 47=some (0,false)
 c48:C48 (D 48) F
 g48:σ 48=some (Zz,false)
 c49:C49 (D 49) F
 g49:σ 49=some (Zz,false)
 c50:C50 (D 50) F
 g50:σ 50=some (Zz,false)
abbrev R22 (r:(LI×CU)):(Nat→V)→Prop:=RT Try.prog [.tmp 4] (eL r.1) [cuV zJ r.2]
section
variable {r:(LI×CU)}
def xD (F:Nat) (x2:GR) :Nat→LB→Int→Int→LI→Int→Option (LI×CU)
 | 0,_,_,_,_,_=>none
 | k + 1,x10,x11,x12,x13,x14=>
   (Z8 F x2.1 8).bind fun r22=>
   bif decide (x14 < r22) then
    (yj F (cu x10 x11 x12) (w64 ((x13.length:Int) + 1))).bind fun r23=>
    (sub x13 0 r23.1).bind fun sub24=>
    (wJ [] sub24).bind fun ap25=>
    (wJ ap25 [x14]).bind fun ap26=>
    (sub x13 r23.1 (x13.length:Int)).bind fun sub27=>
    (wJ ap26 sub27).bind fun ap28=>
    (xD F x2 k) r23.2.a r23.2.b r23.2.c.v ap28 (w64 (x14 + 1))
   else
    (wO F (cu x10 x11 x12) 24).bind fun r29=>
    bif r29.1 then
     (xg F (Cu.mk r29.2) [0,(-1),8]).bind fun r30=>
     (wJ x13 [r30.1]).bind fun ap31=>
     some (ap31,r30.2)
    else
     some (x13,r29.2)
theorem ziU (H:H22 D σ F) (x2:GR) :∀ (k:Nat) (x10:LB) (x11:Int) (x12:Int) (x13:LI) (x14:Int) (s:Nat→V),zk [(0,.ref (.bx zJ) 0 [] (.agg [eB x10,ji x11,.int .u64 x12])),(3,bG 3 x2),(4,nI),(5,oI 5 [] (.of x13)),(6,ji x14)] s→xD F x2 k x10 x11 x12 x13 x14=some r→Run D σ (R22 r) (.run zjz [.lp zjz,.bk 0,.sq zlx]) s:=by
 intro k
 induction k with
 | zero=>intro x10 x11 x12 x13 x14 s _ h;exact nm h
 | succ k ih=>
   intro x10 x11 x12 x13 x14 s hs h
   rw [xD] at h
   obtain ⟨h0,h3,h4,h5,h6⟩:=hs
   refine .seq (.seq (rg (gm h6 fun h9=>g1 3 (.ref (.bx 3) 0 [0] (ji x2.1)) h3 fun h10=>g1 10 (ji x2.1) h10 fun h11=>?_)))
   obtain ⟨r22,Er22,h⟩:=bind_some h
   refine zy (m:=0) (al:=false) (r:=Enc.enc (r22:Int)) [Enc.enc (x2.1:Int),Enc.enc (8:Int)] (zc (v:=ji x2.1) h11 rfl rfl (zc (v:=ji 8) rfl rfl rfl zp)) (H.c47 _ _ _ Er22) H.g47 rfl rfl rfl rfl (g2 9 12 (jb (decide (x14 < r22))) h9 (rf (ji r22)) fun h13=>gq (.nsq (zg h13 h (fun h=>?_) (fun h=>?_))))
   · refine .skip (.nsq (.seq (.block (.seq (rg (gm h0 fun h16=>gm h5 fun h17=>gv (ji (x13.length:Int)) (J3 (o:=.of x13) h17) fun h18=>g1 18 (ji (w64 ((x13.length:Int) + 1))) h18 fun h19=>?_))))))
     obtain ⟨r23,Er23,h⟩:=bind_some h
     refine u9 (r:=zJ) (b:=0) (x:=((S3.mk x10 x11 (Kd.mk x12:Kd .u64)):CU)) (x':=r23.2) (vs:=[Enc.enc (w64 ((x13.length:Int) + 1):Int)]) (res:=Enc.enc (r23.1:Int)) h0 (by exact (zQ (v:=cuV zJ ((S3.mk x10 x11 (Kd.mk x12:Kd .u64)):CU)) h16 rfl (zQ (v:=Enc.enc (w64 ((x13.length:Int) + 1):Int)) h19 rfl yU))) (yh te yB) fm1 (H.c48 _ _ _ Er23) H.g48 te rfl (fun s10 hb10 ha10=>gm (rf (ji r23.1)) fun h7=>?_)
     refine gz [(0,_),(3,bG 3 x2),(4,nI),(5,oI 5 [] (.of x13)),(6,ji x14),(7,_)] ⟨(show s10 0=(bC r23.2) from hb10 0 h0),(show s10 3=(bG 3 x2) from ha10 3 _ _ h3 rfl (zi rfl mIE)),(show s10 4=nI from ha10 4 _ _ h4 rfl rfl),(show s10 5=(oI 5 [] (.of x13)) from ha10 5 _ _ h5 rfl (zl (r:=5) (p:=[]) rfl rfl)),(show s10 6=(ji x14) from ha10 6 _ _ h6 rfl mi),h7⟩ ?_
     rintro s ⟨h0,h3,h4,h5,h6,h7⟩
     refine .nsq (zo (zT ?_))
     refine ez [(0,_),(3,_),(4,_),(5,_),(6,_),(7,_),(21,_),(25,_),(27,_),(28,_),(32,_)] ⟨za h0 rfl (zi rfl Zj),za h3 rfl (zi rfl mIE),za h4 rfl rfl,za h5 rfl (zl (r:=5) (p:=[]) rfl rfl),za h6 rfl mi,za h7 rfl mi,zb rfl,zb rfl,zb rfl,zb rfl,zb rfl⟩ ?_
     rintro s ⟨h0,h3,h4,h5,h6,h7,h21,h25,h27,h28,h32⟩
     refine zbd [] [] trivial rfl rfl h21 (gm h5 fun h22=>gm h7 fun h23=>?_)
     obtain ⟨sub24,Esub24,h⟩:=bind_some h
     refine gv (.sl (.at 5 []) (Enc.shp Int) (Int.toNat 0) ((sub24:LI).map Enc.enc)) (Qb (xs:=x13) h22 (WX) (WJ h23) Esub24 rfl) fun h24=>?_
     obtain ⟨ap25,Eap25,h⟩:=bind_some h
     refine Kz (p:=[]) (xs:=[]) (ys:=(sub24:LI)) (t2:=.at 5 []) (lo2:=Int.toNat 0) rfl h24 rfl h25 rfl Eap25 (gm h6 fun h26=>xq [(26,ji x14)] [Enc.enc (x14:Int)] h26 rfl rfl h27 ?_)
     obtain ⟨ap26,Eap26,h⟩:=bind_some h
     refine Kz (p:=[]) (xs:=ap25) (ys:=([x14]:LI)) (t2:=.at 27 []) (lo2:=0) rfl rfl rfl h28 rfl Eap26 (gm h5 fun h29=>gm h7 fun h30=>?_)
     obtain ⟨sub27,Esub27,h⟩:=bind_some h
     refine gv (.sl (.at 5 []) (Enc.shp Int) (Int.toNat r23.1) ((sub27:LI).map Enc.enc)) (Qb (xs:=x13) h29 (WJ h30) (WX) Esub27 rfl) fun h31=>?_
     obtain ⟨ap28,Eap28,h⟩:=bind_some h
     refine Kz (p:=[]) (xs:=ap26) (ys:=(sub27:LI)) (t2:=.at 5 []) (lo2:=Int.toNat r23.1) rfl h31 rfl h32 rfl Eap28 (gm (rf (oI 32 [] (.of ap28))) fun h5=>yL (yr (r:=32) (x:=5) (v:=_) h5 rfl (fun s12 hz12=>?_)))
     refine ez [(0,bC r23.2),(3,bG 3 x2),(4,nI),(5,oI 5 [] (.of ap28)),(6,ji x14)] ⟨hz12 0 _ _ h0 (zi rfl Zj),hz12 3 _ _ h3 (zi rfl mIE),hz12 4 _ _ h4 rfl,hz12 5 _ _ h5 (zl (r:=32) (p:=[]) rfl rfl),hz12 6 _ _ h6 mi⟩ ?_
     rintro s ⟨h0,h3,h4,h5,h6⟩
     refine .nbk (.nsq (rg (gm h6 fun h14=>g1 14 (ji (w64 (x14 + 1))) h14 fun h15=>gm h15 fun h6=>gq (.nlp ?_))))
     exact ih r23.2.a r23.2.b r23.2.c.v ap28 (w64 (x14 + 1)) _ ⟨h0,h3,h4,h5,h6⟩ h
   refine .exit (.esq (.elp (.ebk (.nsq (.seq (.seq (rg (gm h0 fun h33=>?_))))))))
   obtain ⟨r29,Er29,h⟩:=bind_some h
   refine u9 (r:=zJ) (b:=0) (x:=((S3.mk x10 x11 (Kd.mk x12:Kd .u64)):CU)) (x':=r29.2) (vs:=[Enc.enc (24:Int)]) (res:=Enc.enc (r29.1:Bool)) h0 (by exact (zQ (v:=cuV zJ ((S3.mk x10 x11 (Kd.mk x12:Kd .u64)):CU)) h33 rfl (zQ (v:=Enc.enc (24:Int)) rfl rfl yU))) (yh te yB) fm1 (H.c49 _ _ _ Er29) H.g49 te rfl (fun s13 hb13 ha13=>gz [(0,_),(4,nI),(5,oI 5 [] (.of x13)),(34,jb r29.1)] ⟨(show s13 0=(bC r29.2) from hb13 0 h0),(show s13 4=nI from ha13 4 _ _ h4 rfl rfl),(show s13 5=(oI 5 [] (.of x13)) from ha13 5 _ _ h5 rfl (zl (r:=5) (p:=[]) rfl rfl)),rfl⟩ ?_)
   rintro s ⟨h0,h4,h5,h34⟩
   refine .nsq (zg h34 h (fun h=>?_) (fun h=>?_))
   · refine zo (zT ?_)
     refine ez [(0,_),(4,_),(5,_),(37,_),(39,_),(40,_)] ⟨za h0 rfl (zi rfl Zj),za h4 rfl rfl,za h5 rfl (zl (r:=5) (p:=[]) rfl rfl),zb rfl,zb rfl,zb rfl⟩ ?_
     rintro s ⟨h0,h4,h5,h37,h39,h40⟩
     refine gm h5 fun h35=>gm h0 fun h36=>zaL [] ([0,(-1),8]:LI) trivial rfl rfl rfl h37 (fun s15 hd_15 hl_15=>?_)
     obtain ⟨r30,Er30,h⟩:=bind_some h
     refine u9 (r:=zJ) (b:=0) (x:=r29.2) (x':=r30.2) (vs:=[Enc.enc ([0,(-1),8]:LI)]) (res:=Enc.enc (r30.1:Int)) (show s15 0=(bC r29.2) from hl_15 0 _ _ (by decide) h0 (z9 rfl Wj rfl)) (by exact (zQ (v:=cuV zJ r29.2) (show s15 36=(bC r29.2) from hl_15 36 _ _ (by decide) h36 (z9 rfl Wj rfl)) rfl (zQ (v:=Enc.enc ([0,(-1),8]:LI)) (show s15 37=(eL [0,(-1),8]) from hd_15) rfl yU))) (yh te yB) fm1 (H.c50 _ _ _ Er30) H.g50 te rfl (fun s16 hb16 ha16=>?_)
     refine xq [(38,ji r30.1)] [Enc.enc (r30.1:Int)] rfl rfl rfl (show s16 39 = .gone from ha16 39 .gone _ (show s15 39 = .gone from hl_15 39 _ _ (by decide) h39 rfl) rfl rfl) ?_
     obtain ⟨ap31,Eap31,h⟩:=bind_some h
     refine Xd (q:=5) (p:=[]) (o:=.of (x13:LI)) (ys:=([r30.1]:LI)) (t2:=.at 39 []) (lo2:=0) (show s16 35=(oI 5 [] (.of x13)) from ha16 35 (oI 5 [] (.of x13)) _ (show s15 35=(oI 5 [] (.of x13)) from hl_15 35 _ _ (by decide) h35 (XJ rfl rfl)) rfl (zl (r:=5) (p:=[]) rfl rfl)) rfl rfl (show s16 40 = .gone from ha16 40 .gone _ (show s15 40 = .gone from hl_15 40 _ _ (by decide) h40 rfl) rfl rfl) (ZB (o:=.of (x13:LI)) Eap31 trivial) (fun s17 ha17=>gm (rf (oI 40 [] (.of ap31))) fun h5=>yL (yr (r:=40) (x:=5) (v:=_) h5 rfl (fun s18 hz18=>?_)))
     refine ez [(0,bC r30.2),(4,nI),(5,oI 5 [] (.of ap31))] ⟨hz18 0 _ _ (show s17 0=(bC r30.2) from zL ha17 (show s16 0=(bC r30.2) from hb16 0 (show s15 0=(bC r29.2) from hl_15 0 _ _ (by decide) h0 (z9 rfl Wj rfl))) (zi rfl Zj)) (zi rfl Zj),hz18 4 _ nI (show s17 4=nI from zL ha17 (show s16 4=nI from ha16 4 nI _ (show s15 4=nI from hl_15 4 _ _ (by decide) h4 rfl) rfl rfl) rfl) rfl,hz18 5 _ _ h5 (zl (r:=40) (p:=[]) rfl rfl)⟩ ?_
     rintro s ⟨h0,h4,h5⟩
     refine .nsq (.seq (rg (gm h5 fun h41=>gm h41 fun h4=>yL (yr (r:=5) (x:=4) (v:=_) h4 rfl (fun s19 hz19=>Lm (x:=4) (v:=oI 4 [] (.of ap31)) [.at 4 []] (by exact (hz19 4 _ _ h4 (zl (r:=5) (p:=[]) rfl rfl))) yi (fun s20 hz20=>?_))))))
     refine ez [(0,bC r30.2),(4,eL ap31)] ⟨hz20 0 (bC r30.2) (bC r30.2) (hz19 0 _ _ h0 (zi rfl Zj)) (z9 rfl Wj rfl),hz20 4 (oI 4 [] (.of ap31)) (eL ap31) (hz19 4 _ _ h4 (zl (r:=5) (p:=[]) rfl rfl)) Xi⟩ ?_
     rintro s ⟨h0,h4⟩
     refine .nsq (.ret ?_)
     obtain rfl:=oi h
     exact rt1 (t:=0) (zf h4) h0
   refine .skip (.nsq (.seq (rg (gm h5 fun h41=>gm h41 fun h4=>yL (yr (r:=5) (x:=4) (v:=_) h4 rfl (fun s21 hz21=>Lm (x:=4) (v:=oI 4 [] (.of x13)) [.at 4 []] (by exact (hz21 4 _ _ h4 (zl (r:=5) (p:=[]) rfl rfl))) yi (fun s22 hz22=>?_)))))))
   refine ez [(0,bC r29.2),(4,eL x13)] ⟨hz22 0 (bC r29.2) (bC r29.2) (hz21 0 _ _ h0 (zi rfl Zj)) (z9 rfl Wj rfl),hz22 4 (oI 4 [] (.of x13)) (eL x13) (hz21 4 _ _ h4 (zl (r:=5) (p:=[]) rfl rfl)) Xi⟩ ?_
   rintro s ⟨h0,h4⟩
   refine .nsq (.ret ?_)
   obtain rfl:=oi h
   exact rt1 (t:=0) (zf h4) h0
def ui (F:Nat) (x1:CC) (x2:GR):Option (LI×CU):=
 xD F x2 F x1.v.a x1.v.b x1.v.c.v [] 0
theorem t22 (H:H22 D σ F) (x1:CC) (x2:GR) (s:Nat→V) (hs:zk [(0,bC x1.v),(1,gV x2)] s) (h:ui F x1 x2=some r):Run D σ (R22 r) (.run A22 []) s:=by
 unfold ui at h
 obtain ⟨h0,h1⟩:=hs
 refine .seq (zo (zT ?_))
 refine ez [(0,_),(1,_),(3,_)] ⟨za h0 rfl (zi rfl Zj),za h1 rfl mIE,zb rfl⟩ ?_
 rintro s ⟨h0,h1,h3⟩
 refine xo (gV x2) (zx h1 rfl) h3 rfl (g0 nI fun h4=>gq (.nsq (.seq (zo (zT ?_)))))
 refine ez [(0,_),(3,_),(4,_),(8,_)] ⟨za h0 rfl (zi rfl Zj),za rfl rfl (zi rfl mIE),za h4 rfl rfl,zb rfl⟩ ?_
 rintro s ⟨h0,h3,h4,h8⟩
 refine xq [] [] trivial rfl rfl h8 (gm (rf (oI 8 [] (.of []))) fun h5=>yL (yr (r:=8) (x:=5) (v:=_) h5 rfl (fun s3 hz3=>?_)))
 refine ez [(0,bC x1.v),(3,bG 3 x2),(4,nI),(5,oI 5 [] (.of []))] ⟨hz3 0 _ _ h0 (zi rfl Zj),hz3 3 _ _ h3 (zi rfl mIE),hz3 4 _ _ h4 rfl,hz3 5 _ _ h5 (zl (r:=8) (p:=[]) rfl rfl)⟩ ?_
 rintro s ⟨h0,h3,h4,h5⟩
 refine .nsq (.seq (.seq (rg (g0 (ji 0) fun h6=>gq (.nsq (.block (.loop ?_)))))))
 exact ziU H x2 F x1.v.a x1.v.b x1.v.c.v [] 0 _ ⟨h0,h3,h4,h5,h6⟩ h
end
def e22 (F:Nat):Ent:=ent 22 (fun (x:(CC×GR×Unit))=>ui F x.1 x.2.1) (fun (r:(LI×CU))=>(.tup [eL r.1,.tup [cuV zJ r.2]])) Zz false []
abbrev C22 (D:List V→Option V) (F:Nat):Prop:=∀ (x0:CC) (x1:GR) r,ui F x0 x1=some r→D [Arg.arg x0,Enc.enc x1]=some (.tup [eL r.1,.tup [cuV zJ r.2]])
theorem p22 {F:Nat}:C22 (e22 F).den F:=fun x0 x1 _ h=>zK (x0,x1,()) h
theorem o22 (hF:zr Try.prog D σ) (H:H22 D σ F):(e22 F).Ok Try.prog:=okZ (f:=22) Try.func22 fun ⟨x0,x1,_⟩ y hy=>cT hF Try.func22 c22 (t22 H x0 x1 _ ⟨rfl,rfl⟩ hy)
def zu7:AC:=(.seq (rr [jx 11 (.vN (.load (.ag [.s,.p]) (.t 5)) [4]),jm 12 4,jx 13 (.vN (.load (.ag [.s,.p]) (.t 5)) [4]),jx 14 (.callT (jf 22) [.t 12,.t 13] [4] []),jz (.store (.ag [.s,.p]) (.t 2) (.t 11)),jm 3 14]) .ret)
def zu2:AC:=(.seq (.reg [.clr [5]] [jm 9 4,jx 10 (.callT (jf 21) [.t 9] [4] []),jx 5 (.alloc (.agg [i0,.sl .nl (.ag [.s,.s]) 0 []])),jz (.store (.ag [.s,.p]) (.t 5) (.t 10))] []) zu7)
def zwj:AC:=(.seq (.reg [.clr [8]] [jm 6 0,jv 7 (.bld (.agg [.sl .nl .s 0 [],i0,.int .u64 (.ofNat 0)]) [(0,0,.t 6)]),jx 8 (.box (.t 7)),jm 4 8] []) zu2)
def A5:AC:=(.seq (.reg [.clr [2]] [jx 2 (.alloc (.agg [i0,.sl .nl (.ag [.s,.s]) 0 []])),jv 3 (.mov (.k (.sl .nl .s 0 [])))] []) zwj)
def an5:List An:=[⟨0,[.clr [2]],[],[],[]⟩,⟨1,[.clr [8]],[],[],[]⟩,⟨2,[.clr [5]],[],[2000004],[]⟩,⟨3,[],[],[4000004,1000004,3000004],[]⟩]
theorem c5:cq Try.prog Try.f5 an5=some A5:=by kernel_rfl
structure H5 (D:Den) (σ:Sig) (F:Nat):Prop where
 c21:C21 (D 21) F
 g21:σ 21=some (Zz,false)
 c22:C22 (D 22) F
 g22:σ 22=some (Zz,false)
abbrev R5 (r:(GR×LI)):(Nat→V)→Prop:=RR Try.prog [.cell 2 26,.tmp 3] 0 true (.tup [Enc.enc (r.1:GR),eL r.2])
section
variable {r:(GR×LI)}
def wa (F:Nat) (x1:LB):Option (GR×LI):=
 (vS F (cu x1 0 0)).bind fun r2=>
 (ui F (Cu.mk r2.2) r2.1).bind fun r3=>
 some (r2.1,r3.1)
theorem t5 (H:H5 D σ F) (x1:LB) (s:Nat→V) (hs:zk [(0,eB x1)] s) (h:wa F x1=some r):Run D σ (R5 r) (.run A5 []) s:=by
 unfold wa at h
 have h0:=hs
 refine .seq (zo (zT ?_))
 refine ez [(0,_),(2,_)] ⟨za h0 rfl me,zb rfl⟩ ?_
 rintro s ⟨h0,h2⟩
 refine wk h2 (g0 nI fun h3=>gq (.nsq (.seq (zo (zT ?_)))))
 refine ez [(0,_),(2,_),(3,_),(8,_)] ⟨za h0 rfl me,za rfl rfl (zi rfl (mIx rfl)),za h3 rfl rfl,zb rfl⟩ ?_
 rintro s ⟨h0,h2,h3,h8⟩
 refine gm h0 fun h6=>g1 6 (.agg [eB x1,ji 0,.int .u64 0]) h6 fun h7=>xo (.agg [eB x1,ji 0,.int .u64 0]) (zx h7 rfl) h8 rfl (gm (rf (.ref (.bx 8) 0 [] (.agg [eB x1,ji 0,.int .u64 0]))) fun h4=>gq (.nsq (.seq (zo (zT ?_)))))
 refine ez [(2,_),(3,_),(4,_),(5,_)] ⟨za h2 rfl (zi rfl (mIx rfl)),za h3 rfl rfl,za h4 rfl (zi rfl Zj),zb rfl⟩ ?_
 rintro s ⟨h2,h3,h4,h5⟩
 refine gm h4 fun h9=>?_
 obtain ⟨r2,Er2,h⟩:=bind_some h
 refine u9 (r:=8) (b:=4) (x:=((S3.mk x1 0 (Kd.mk 0:Kd .u64)):CU)) (x':=r2.2) (vs:=[]) (res:=Enc.enc (r2.1:GR)) h4 (by exact (zQ (v:=cuV 8 ((S3.mk x1 0 (Kd.mk 0:Kd .u64)):CU)) h9 rfl yU)) yB (fun f=>zm) (H.c21 _ _ Er2) H.g21 te rfl (fun s4 hb4 ha4=>wk (show s4 5 = .gone from ha4 5 _ _ h5 rfl rfl) (yd (gV r2.1) (zx rfl rfl) (zx rfl rfl) (ww (by first | rfl | simp [V.toks,V.tokss,Enc.toks_enc,ya])) ?_))
 refine gz [(2,bZ 2),(3,nI),(4,.ref (.bx 8) 0 [] (cV r2.2)),(5,bG 5 r2.1)] ⟨zd (show s4 2=(bZ 2) from ha4 2 _ _ h2 rfl (zi rfl (mIx rfl))) (zH rfl rfl (yD (zq rfl (zq rfl rfl)))),zd (show s4 3=nI from ha4 3 _ _ h3 rfl rfl) rfl,zd (show s4 4=(.ref (.bx 8) 0 [] (cV r2.2)) from hb4 4 h4) (zH rfl rfl UL),zd rfl rfl⟩ ?_
 rintro s ⟨h2,h3,h4,h5⟩
 refine .nsq (.seq (rg (Ni (r:=8) (b:=4) (x:=r2.2) (gV r2.1) h4 (YQ [(5,bG 5 r2.1)] h5 rfl rfl) [(5,bG 5 r2.1)] h5 rfl (by simp [V.toks,V.tokss,yi,Enc.toks_enc,zJ,uX]) (by simp [V.toks,V.tokss,yi,Enc.toks_enc,zJ,uX]) (gm h4 fun h12=>Ni (r:=8) (b:=4) (x:=r2.2) (gV r2.1) h4 (YQ [(5,bG 5 r2.1)] h5 rfl rfl) [(5,bG 5 r2.1)] h5 rfl (by simp [V.toks,V.tokss,yi,Enc.toks_enc,zJ,uX]) (by simp [V.toks,V.tokss,yi,Enc.toks_enc,zJ,uX]) ?_))))
 obtain ⟨r3,Er3,h⟩:=bind_some h
 refine u9 (r:=8) (b:=4) (x:=r2.2) (x':=r3.2) (vs:=[Enc.enc (r2.1:GR)]) (res:=eL r3.1) h4 (by exact (zQ (v:=cuV 8 r2.2) h12 rfl (zQ (v:=Enc.enc (r2.1:GR)) rfl rfl yU))) (yh te yB) fm1 (H.c22 _ _ _ Er3) H.g22 te rfl (fun s5 hb5 ha5=>yd (gV r2.1) (zx (show s5 2=(bZ 2) from ha5 2 _ _ h2 rfl (zi rfl (mIx rfl))) rfl) (zx (show s5 11=(gV r2.1) from ha5 11 (gV r2.1) _ rfl rfl mIE) rfl) (ww (by first | rfl | simp [V.toks,V.tokss,Enc.toks_enc,ya])) (gm (zd rfl uE) fun h3=>gz [(2,bG 2 r2.1),(3,_)] ⟨zd (show s5 2=(bZ 2) from ha5 2 _ _ h2 rfl (zi rfl (mIx rfl))) rfl,h3⟩ ?_))
 rintro s ⟨h2,h3⟩
 refine .nsq (.ret ?_)
 obtain rfl:=oi h
 exact rrB (uI h2 (by kernel_rfl)) (zf h3) (xS (wH (zP (yz (x:=(r2.1:GR))) (zP (yz (x:=(r3.1:LI))) xA))))
end
def e5 (F:Nat):Ent:=ent 5 (fun (x:(LB×Unit))=>wa F x.1) (fun (r:(GR×LI))=>(.tup [Enc.enc (r.1:GR),eL r.2])) 0 true []
abbrev C5 (D:List V→Option V) (F:Nat):Prop:=∀ (x0:LB) r,wa F x0=some r→D [Enc.enc x0]=some (.tup [Enc.enc (r.1:GR),eL r.2])
theorem p5 {F:Nat}:C5 (e5 F).den F:=fun x0 _ h=>zK (x0,()) h
theorem o5 (hF:zr Try.prog D σ) (H:H5 D σ F):(e5 F).Ok Try.prog:=okZ (f:=5) Try.func5 fun ⟨x0,_⟩ y hy=>cR hF Try.func5 c5 (t5 H x0 _ rfl hy)
def ztX:AC:=(.seq (rr [jm 7 0,jm 8 1,jv 9 (.bin .geq (.t 7) (.t 8)),jm 10 9,jg 11 10 true (.mov (.t 0)),jg 12 10 true (.mov (.t 2)),jg 13 10 true (.bin .leq (.t 11) (.t 12)),jv 14 (.pick (.t 10) (.t 13) kf),jm 6 14]) .ret)
def A51:AC:=(.seq (rr [jv 6 (.mov kf)]) ztX)
def zvm:List An:=[]
theorem c51:cq Try.prog Try.f51 zvm=some A51:=by kernel_rfl
structure H51 (D:Den) (σ:Sig) (F:Nat):Prop where
 mk ::
abbrev R51 (r:Bool):(Nat→V)→Prop:=RR Try.prog [.tmp 6] 0 false (Enc.enc (r:Bool))
section
variable {r:Bool}
def Y6 (F:Nat) (x1:Int) (x2:Int) (x3:Int):Option Bool:=
 bif decide (x1≥x2) then
  some (decide (x1≤x3))
 else
  some false
theorem t51 (H:H51 D σ F) (x1:Int) (x2:Int) (x3:Int) (s:Nat→V) (hs:zk [(0,ji x1),(1,ji x2),(2,ji x3)] s) (h:Y6 F x1 x2 x3=some r):Run D σ (R51 r) (.run A51 []) s:=by
 unfold Y6 at h
 obtain ⟨h0,h1,h2⟩:=hs
 refine .seq (rg (g0 (jb false) fun h6=>gq (.nsq (.seq (rg (gm h0 fun h7=>gm h1 fun h8=>g2 7 8 (jb (decide (x1≥x2))) h7 h8 fun h9=>gm h9 fun h10=>zU h (fun hg4 h=>?_) (fun hg4 h=>?_)))))))
 · refine zh (ct h10 hg4) (gm h0 fun h11=>zh (ct h10 hg4) (gm h2 fun h12=>zh (ct h10 hg4) (g2 11 12 (jb (decide (x1≤x3))) h11 h12 fun h13=>g2 10 13 (jb (decide (x1≤x3))) (ct h10 hg4) h13 fun h14=>gm h14 fun h6=>gq (.nsq (.ret ?_)))))
   obtain rfl:=oi h
   exact rrA (zf h6) rfl
 iterate 3 refine zw (ct h10 hg4) ?_
 refine g2 10 13 (jb false) (ct h10 hg4) (rf (.tup [])) fun h14=>gm h14 fun h6=>gq (.nsq (.ret ?_))
 obtain rfl:=oi h
 exact rrA (zf h6) rfl
end
def e51 (F:Nat):Ent:=ent 51 (fun (x:(Int×Int×Int×Unit))=>Y6 F x.1 x.2.1 x.2.2.1) (fun (r:Bool)=>(Enc.enc (r:Bool))) 0 false []
abbrev C51 (D:List V→Option V) (F:Nat):Prop:=∀ (x0:Int) (x1:Int) (x2:Int) r,Y6 F x0 x1 x2=some r→D [Enc.enc x0,Enc.enc x1,Enc.enc x2]=some (Enc.enc (r:Bool))
theorem p51 {F:Nat}:C51 (e51 F).den F:=fun x0 x1 x2 _ h=>zK (x0,x1,x2,()) h
theorem o51 (hF:zr Try.prog D σ) (H:H51 D σ F):(e51 F).Ok Try.prog:=okZ (f:=51) Try.func51 fun ⟨x0,x1,x2,_⟩ y hy=>cR hF Try.func51 c51 (t51 H x0 x1 x2 _ ⟨rfl,rfl,rfl⟩ hy)
def zuk:AC:=(.seq (rr [jm 3 0,jm 4 0,jv 5 (.bin .neq (.t 3) (.t 4)),jm 2 5]) .ret)
def A83:AC:=(.seq (rr [jv 2 (.mov kf)]) zuk)
def zvS:List An:=[]
theorem c83:cq Try.prog Try.f83 zvS=some A83:=by kernel_rfl
structure H83 (D:Den) (σ:Sig) (F:Nat):Prop where
 mk ::
abbrev R83 (r:Bool):(Nat→V)→Prop:=RR Try.prog [.tmp 2] 0 false (Enc.enc (r:Bool))
section
variable {r:Bool}
def vQ (F:Nat) (x1:Int):Option Bool:=
 some (x1 != x1)
theorem t83 (H:H83 D σ F) (x1:Int) (s:Nat→V) (hs:zk [(0,ji x1)] s) (h:vQ F x1=some r):Run D σ (R83 r) (.run A83 []) s:=by
 unfold vQ at h
 have h0:=hs
 refine .seq (rg (g0 (jb false) fun h2=>gq (.nsq (.seq (rg (gm h0 fun h3=>gm h0 fun h4=>g2 3 4 (jb (x1 != x1)) h3 h4 fun h5=>gm h5 fun h2=>gq (.nsq (.ret ?_))))))))
 obtain rfl:=oi h
 exact rrA (zf h2) rfl
end
def e83 (F:Nat):Ent:=ent 83 (fun (x:(Int×Unit))=>vQ F x.1) (fun (r:Bool)=>(Enc.enc (r:Bool))) 0 false []
abbrev C83 (D:List V→Option V) (F:Nat):Prop:=∀ (x0:Int) r,vQ F x0=some r→D [Enc.enc x0]=some (Enc.enc (r:Bool))
theorem p83 {F:Nat}:C83 (e83 F).den F:=fun x0 _ h=>zK (x0,()) h
theorem o83 (hF:zr Try.prog D σ) (H:H83 D σ F):(e83 F).Ok Try.prog:=okZ (f:=83) Try.func83 fun ⟨x0,_⟩ y hy=>cR hF Try.func83 c83 (t83 H x0 _ rfl hy)
def zs6:AC:=(.cond (.t 12) (.seq (rr [jv 4 (.mov (jn 0))]) .ret) .skip)
def zsH:AC:=(.seq (rr [jv 4 (.mov (jn (-1)))]) .ret)
def zoY:AC:=(.cond (.t 11) (.seq (.seq (rr [jm 12 6]) zs6) zsH) .skip)
def zpm:AC:=(.cond (.t 13) (.seq (rr [jv 4 (.mov (jn 1))]) .ret) .skip)
def zme:AC:=(.cond (.t 16) (.seq (rr [jv 4 (.mov (jn (-1)))]) .ret) .skip)
def zmJ:AC:=(.cond (.t 19) (.seq (rr [jv 4 (.mov (jn 1))]) .ret) .skip)
def znw:AC:=(.seq (rr [jv 4 (.mov (jn 0))]) .ret)
def znu:AC:=(.seq (.seq (rr [jm 17 0,jm 18 1,jv 19 (.bin .gtr (.t 17) (.t 18))]) zmJ) znw)
def zqr:AC:=(.seq (.seq (rr [jm 14 0,jm 15 1,jv 16 (.bin .lss (.t 14) (.t 15))]) zme) znu)
def zrB:AC:=(.seq (.seq (rr [jm 13 6]) zpm) zqr)
def ztm:AC:=(.seq (.seq (rr [jm 11 5]) zoY) zrB)
def zoZ:AC:=(.seq (rr [jm 9 1,jx 10 (.call (jf 83) [.t 9]),jm 6 10]) ztm)
def zqG:AC:=(.seq (rr [jm 7 0,jx 8 (.call (jf 83) [.t 7]),jm 5 8]) zoZ)
def A80:AC:=(.seq (rr [jv 4 (.mov (jn 0))]) zqG)
def zvf:List An:=[]
theorem c80:cq Try.prog Try.f80 zvf=some A80:=by kernel_rfl
structure H80 (D:Den) (σ:Sig) (F:Nat):Prop where
 c83:C83 (D 83) F
 g83:σ 83=some (0,false)
abbrev R80 (r:Int):(Nat→V)→Prop:=RR Try.prog [.tmp 4] 0 false (Enc.enc (r:Int))
section
variable {r:Int}
def wR (F:Nat) (x1:Int) (x2:Int):Option Int:=
 (vQ F x1).bind fun r3=>
 (vQ F x2).bind fun r4=>
 bif r3 then
  bif r4 then
   some 0
  else
   some (-1)
 else
  bif r4 then
   some 1
  else
   bif decide (x1 < x2) then
    some (-1)
   else
    bif decide (x1 > x2) then
     some 1
    else
     some 0
theorem t80 (H:H80 D σ F) (x1:Int) (x2:Int) (s:Nat→V) (hs:zk [(0,ji x1),(1,ji x2)] s) (h:wR F x1 x2=some r):Run D σ (R80 r) (.run A80 []) s:=by
 unfold wR at h
 obtain ⟨h0,h1⟩:=hs
 refine .seq (rg (g0 (ji 0) fun h4=>gq (.nsq (.seq (rg (gm h0 fun h7=>?_))))))
 obtain ⟨r3,Er3,h⟩:=bind_some h
 refine zy (m:=0) (al:=false) (r:=Enc.enc (r3:Bool)) [Enc.enc (x1:Int)] (zc (v:=ji x1) h7 rfl rfl zp) (H.c83 _ _ Er3) H.g83 rfl rfl rfl rfl (gm (rf (jb r3)) fun h5=>gq (.nsq (.seq (rg (gm h1 fun h9=>?_)))))
 obtain ⟨r4,Er4,h⟩:=bind_some h
 refine zy (m:=0) (al:=false) (r:=Enc.enc (r4:Bool)) [Enc.enc (x2:Int)] (zc (v:=ji x2) h9 rfl rfl zp) (H.c83 _ _ Er4) H.g83 rfl rfl rfl rfl (gm (rf (jb r4)) fun h6=>gq (.nsq (.seq (.seq (rg (gm h5 fun h11=>gq (.nsq (zg h11 h (fun h=>?_) (fun h=>?_)))))))))
 · refine .seq (.seq (rg (gm h6 fun h12=>gq (.nsq (zg h12 h (fun h=>?_) (fun h=>?_))))))
   · refine .seq (rg (g0 (ji 0) fun h4=>gq (.nsq (.ret ?_))))
     obtain rfl:=oi h
     exact rrA (zf h4) rfl
   refine .skip (.nsq (.seq (rg (g0 (ji (-1)) fun h4=>gq (.nsq (.ret ?_))))))
   obtain rfl:=oi h
   exact rrA (zf h4) rfl
 refine .skip (.nsq (.seq (.seq (rg (gm h6 fun h13=>gq (.nsq (zg h13 h (fun h=>?_) (fun h=>?_))))))))
 · refine .seq (rg (g0 (ji 1) fun h4=>gq (.nsq (.ret ?_))))
   obtain rfl:=oi h
   exact rrA (zf h4) rfl
 refine .skip (.nsq (.seq (.seq (rg (gm h0 fun h14=>gm h1 fun h15=>g2 14 15 (jb (decide (x1 < x2))) h14 h15 fun h16=>gq (.nsq (zg h16 h (fun h=>?_) (fun h=>?_))))))))
 · refine .seq (rg (g0 (ji (-1)) fun h4=>gq (.nsq (.ret ?_))))
   obtain rfl:=oi h
   exact rrA (zf h4) rfl
 refine .skip (.nsq (.seq (.seq (rg (gm h0 fun h17=>gm h1 fun h18=>g2 17 18 (jb (decide (x1 > x2))) h17 h18 fun h19=>gq (.nsq (zg h19 h (fun h=>?_) (fun h=>?_))))))))
 · refine .seq (rg (g0 (ji 1) fun h4=>gq (.nsq (.ret ?_))))
   obtain rfl:=oi h
   exact rrA (zf h4) rfl
 refine .skip (.nsq (.seq (rg (g0 (ji 0) fun h4=>gq (.nsq (.ret ?_))))))
 obtain rfl:=oi h
 exact rrA (zf h4) rfl
end
def e80 (F:Nat):Ent:=ent 80 (fun (x:(Int×Int×Unit))=>wR F x.1 x.2.1) (fun (r:Int)=>(Enc.enc (r:Int))) 0 false []
abbrev C80 (D:List V→Option V) (F:Nat):Prop:=∀ (x0:Int) (x1:Int) r,wR F x0 x1=some r→D [Enc.enc x0,Enc.enc x1]=some (Enc.enc (r:Int))
theorem p80 {F:Nat}:C80 (e80 F).den F:=fun x0 x1 _ h=>zK (x0,x1,()) h
theorem o80 (hF:zr Try.prog D σ) (H:H80 D σ F):(e80 F).Ok Try.prog:=okZ (f:=80) Try.func80 fun ⟨x0,x1,_⟩ y hy=>cR hF Try.func80 c80 (t80 H x0 x1 _ ⟨rfl,rfl⟩ hy)
def zsv:AC:=(.cond (.t 19) (.seq (rr [jv 4 (.mov (jn 1))]) .ret) .skip)
def zpu:AC:=(.cond (.t 28) (.seq (rr [jm 29 8,jm 4 29]) .ret) .skip)
def ztJ:AC:=(.seq (rr [jm 27 8,jv 28 (.bin .neq (.t 27) (jn 0))]) zpu)
def zp2:AC:=(.seq (rr [jm 24 6,jm 25 7,jx 26 (.call (jf 80) [.t 24,.t 25]),jm 8 26]) ztJ)
def zqi:AC:=(.seq (rr [jm 20 1,jm 21 5,jv 22 (.idx (.t 20) (.t 21) 1),jl 23 22,jm 7 23]) zp2)
def zpk:AC:=(.seq (.seq (rr [jm 16 5,jm 17 1,jk 18 17,jv 19 (.bin .geq (.t 16) (.t 18))]) zsv) zqi)
def znj:AC:=(rr [jv 30 (.bin .add (.t 11) (jn 1)),jm 11 30])
def zp1:AC:=(.seq (.block 1 (.seq (rr [jm 13 11,jv 14 (.idx (.t 9) (.t 11) 1),jl 15 14,jm 5 13,jm 6 15]) zpk)) znj)
def zpE:AC:=(.seq (.cond (.t 12) .skip (.exit 0)) zp1)
def ziu:AC:=(.seq (rr [jv 12 (.bin .lss (.t 11) (.t 10))]) zpE)
def zmf:AC:=(.cond (.t 35) (.seq (rr [jv 4 (.mov (jn (-1)))]) .ret) .skip)
def znz:AC:=(.seq (rr [jv 4 (.mov (jn 0))]) .ret)
def zhv:AC:=(.seq (.seq (rr [jm 31 0,jk 32 31,jm 33 1,jk 34 33,jv 35 (.bin .lss (.t 32) (.t 34))]) zmf) znz)
def znk:AC:=(.block 0 (.loop ziu))
def znL:AC:=(.seq (.seq (rr [jm 9 0,jk 10 9,jv 11 (.mov (jn 0))]) znk) zhv)
def A52:AC:=(.seq (rr [jv 4 (.mov (jn 0))]) znL)
def zwg:List An:=[]
theorem c52:cq Try.prog Try.f52 zwg=some A52:=by kernel_rfl
structure H52 (D:Den) (σ:Sig) (F:Nat):Prop where
 c80:C80 (D 80) F
 g80:σ 80=some (0,false)
abbrev R52 (r:Int):(Nat→V)→Prop:=RR Try.prog [.tmp 4] 0 false (Enc.enc (r:Int))
section
variable {r:Int}
def vA (F:Nat) (x1:LI) (x2:LI) :Nat→Int→Option Int
 | 0,_=>none
 | k + 1,x6=>
   bif decide (x6 < (x1.length:Int)) then
    (idx x1 x6).bind fun v10=>
    bif decide (x6≥(x2.length:Int)) then
     some 1
    else
     (idx x2 x6).bind fun v11=>
     (wR F v10 v11).bind fun r12=>
     bif (r12 != 0) then
      some r12
     else
      (vA F x1 x2 k) (w64 (x6 + 1))
   else
    bif decide ((x1.length:Int) < (x2.length:Int)) then
     some (-1)
    else
     some 0
theorem zhq (H:H52 D σ F) (x1:LI) (x2:LI) :∀ (k:Nat) (x6:Int) (s:Nat→V),zk [(0,eL x1),(1,eL x2),(4,ji 0),(9,eL x1),(10,ji (x1.length:Int)),(11,ji x6)] s→vA F x1 x2 k x6=some r→Run D σ (R52 r) (.run ziu [.lp ziu,.bk 0,.sq zhv]) s:=by
 intro k
 induction k with
 | zero=>intro x6 s _ h;exact nm h
 | succ k ih=>
   intro x6 s hs h
   rw [vA] at h
   obtain ⟨h0,h1,h4,h9,h10,h11⟩:=hs
   refine .seq (rg (g2 11 10 (jb (decide (x6 < (x1.length:Int)))) h11 h10 fun h12=>gq (.nsq (.seq (zg h12 h (fun h=>?_) (fun h=>?_))))))
   · refine .skip (.nsq (.seq (.block (.seq (rg (gm h11 fun h13=>?_))))))
     obtain ⟨v10,Ev10,h⟩:=bind_some h
     refine gv (.ref .sh 0 [] (ji v10)) (yq (t:=.sh) (lo:=0) (xs:=x1) h9 h11 Ev10 rfl rfl) fun h14=>g1 14 (ji v10) h14 fun h15=>gm h13 fun h5=>gm h15 fun h6=>gq (.nsq (.seq (.seq (rg (gm h5 fun h16=>gm h1 fun h17=>gl x2 h17 fun h18=>g2 16 18 (jb (decide (x6≥(x2.length:Int)))) h16 h18 fun h19=>gq (.nsq (zg h19 h (fun h=>?_) (fun h=>?_))))))))
     · refine .seq (rg (g0 (ji 1) fun h4=>gq (.nsq (.ret ?_))))
       obtain rfl:=oi h
       exact rrA (zf h4) rfl
     refine .skip (.nsq (.seq (rg (gm h1 fun h20=>gm h5 fun h21=>?_))))
     obtain ⟨v11,Ev11,h⟩:=bind_some h
     refine gv (.ref .sh 0 [] (ji v11)) (yq (t:=.sh) (lo:=0) (xs:=x2) h20 h21 Ev11 rfl rfl) fun h22=>g1 22 (ji v11) h22 fun h23=>gm h23 fun h7=>gq (.nsq (.seq (rg (gm h6 fun h24=>gm h7 fun h25=>?_))))
     obtain ⟨r12,Er12,h⟩:=bind_some h
     refine zy (m:=0) (al:=false) (r:=Enc.enc (r12:Int)) [Enc.enc (v10:Int),Enc.enc (v11:Int)] (zc (v:=ji v10) h24 rfl rfl (zc (v:=ji v11) h25 rfl rfl zp)) (H.c80 _ _ _ Er12) H.g80 rfl rfl rfl rfl (gm (rf (ji r12)) fun h8=>gq (.nsq (.seq (rg (gm h8 fun h27=>g1 27 (jb (r12 != 0)) h27 fun h28=>gq (.nsq (zg h28 h (fun h=>?_) (fun h=>?_))))))))
     · refine .seq (rg (gm h8 fun h29=>gm h29 fun h4=>gq (.nsq (.ret ?_))))
       obtain rfl:=oi h
       exact rrA (zf h4) rfl
     refine .skip (.nbk (.nsq (rg (g1 11 (ji (w64 (x6 + 1))) h11 fun h30=>gm h30 fun h11=>gq (.nlp ?_)))))
     exact ih (w64 (x6 + 1)) _ ⟨h0,h1,h4,h9,h10,h11⟩ h
   refine .exit (.esq (.elp (.ebk (.nsq (.seq (.seq (rg (gm h0 fun h31=>gl x1 h31 fun h32=>gm h1 fun h33=>gl x2 h33 fun h34=>g2 32 34 (jb (decide ((x1.length:Int) < (x2.length:Int)))) h32 h34 fun h35=>gq (.nsq (zg h35 h (fun h=>?_) (fun h=>?_)))))))))))
   · refine .seq (rg (g0 (ji (-1)) fun h4=>gq (.nsq (.ret ?_))))
     obtain rfl:=oi h
     exact rrA (zf h4) rfl
   refine .skip (.nsq (.seq (rg (g0 (ji 0) fun h4=>gq (.nsq (.ret ?_))))))
   obtain rfl:=oi h
   exact rrA (zf h4) rfl
def vl (F:Nat) (x1:LI) (x2:LI):Option Int:=
 vA F x1 x2 F 0
theorem t52 (H:H52 D σ F) (x1:LI) (x2:LI) (s:Nat→V) (hs:zk [(0,eL x1),(1,eL x2)] s) (h:vl F x1 x2=some r):Run D σ (R52 r) (.run A52 []) s:=by
 unfold vl at h
 obtain ⟨h0,h1⟩:=hs
 refine .seq (rg (g0 (ji 0) fun h4=>gq (.nsq (.seq (.seq (rg (gm h0 fun h9=>gl x1 h9 fun h10=>g0 (ji 0) fun h11=>gq (.nsq (.block (.loop ?_))))))))))
 exact zhq H x1 x2 F 0 _ ⟨h0,h1,h4,h9,h10,h11⟩ h
end
def e52 (F:Nat):Ent:=ent 52 (fun (x:(LI×LI×Unit))=>vl F x.1 x.2.1) (fun (r:Int)=>(Enc.enc (r:Int))) 0 false []
abbrev C52 (D:List V→Option V) (F:Nat):Prop:=∀ (x0:LI) (x1:LI) r,vl F x0 x1=some r→D [Enc.enc x0,Enc.enc x1]=some (Enc.enc (r:Int))
theorem p52 {F:Nat}:C52 (e52 F).den F:=fun x0 x1 _ h=>zK (x0,x1,()) h
theorem o52 (hF:zr Try.prog D σ) (H:H52 D σ F):(e52 F).Ok Try.prog:=okZ (f:=52) Try.func52 fun ⟨x0,x1,_⟩ y hy=>cR hF Try.func52 c52 (t52 H x0 x1 _ ⟨rfl,rfl⟩ hy)
def zl7:AC:=(.cond (.t 48) (.seq (rr [jv 2 (.mov kf)]) .ret) .skip)
def zqU:AC:=(.seq (rr [jv 17 (.idxA (.t 4) (jn 0) 2 1),jl 18 17,jv 19 (.bin .lss (.t 18) (jn 0)),jm 20 19,jg 21 20 false (.idxA (.t 4) (jn 0) 2 1),jg 22 20 false (.load .s (.t 21)),jg 23 20 false (.idxA (.t 4) (jn 1) 2 1),jg 24 20 false (.load .s (.t 23)),jg 25 20 false (.bin .geq (.t 22) (.t 24)),jv 26 (.pick (.t 20) kt (.t 25)),jm 27 26,jg 28 27 false (.idxA (.t 4) (jn 1) 2 1),jg 29 27 false (.load .s (.t 28)),jg 30 27 false (.fld (.t 1) 0 0),jg 31 27 false (.load .s (.t 30)),jg 32 27 false (.bin .geq (.t 29) (.t 31)),jv 33 (.pick (.t 27) kt (.t 32)),jm 34 33,jg 35 34 false (.mov (.t 3)),jg 36 34 false (.bin .gtr (.t 35) (jn 0)),jg 37 34 false (.mov (.t 36)),jg 38 37 true (.fld (.t 1) 1 1),jg 39 37 true (.load .p (.t 38)),jg 40 37 true (.mov (.t 3)),jg 41 37 true (.bin .sub (.t 40) (jn 1)),jg 42 37 true (.idx (.t 39) (.t 41) 2),jg 43 37 true (.sliceA (.t 42) 2 .s),jg 44 37 true (.sliceA (.t 4) 2 .s),.mk (some 45) (some (37,true)) false (.call (jf 52) [.t 43,.t 44]),jg 46 37 true (.bin .geq (.t 45) (jn 0)),jg 47 34 false (.pick (.t 37) (.t 46) kf),jv 48 (.pick (.t 34) kt (.t 47))]) zl7)
def zlu:AC:=(rr [jv 49 (.bin .add (.t 12) (jn 1)),jm 12 49])
def zsS:AC:=(.seq (.block 1 (.seq (.reg [.clr [4]] [jm 14 12,jv 15 (.idx (.t 10) (.t 12) 2),jv 16 (.load (.ag [.s,.s]) (.t 15)),jx 4 (.alloc (.agg [i0,i0])),jm 3 14,jz (.store (.ag [.s,.s]) (.t 4) (.t 16))] []) zqU)) zlu)
def zuu:AC:=(.seq (.cond (.t 13) .skip (.exit 0)) zsS)
def Qr:AC:=(.seq (rr [jv 13 (.bin .lss (.t 12) (.t 11))]) zuu)
def zeG:AC:=(.seq (rr [jv 2 (.mov kt)]) .ret)
def zsx:AC:=(.cond (.t 8) (.seq (rr [jv 2 (.mov kf)]) .ret) .skip)
def zoq:AC:=(.block 0 (.loop Qr))
def zmw:AC:=(.seq (.seq (rr [jv 9 (.fld (.t 1) 1 1),jv 10 (.load .p (.t 9)),jk 11 10,jv 12 (.mov (jn 0))]) zoq) zeG)
def zup:AC:=(.seq (.seq (rr [jv 5 (.fld (.t 1) 0 0),jl 6 5,jx 7 (.call (jf 51) [.t 6,jn 0,jn 8]),jv 8 (.un .not (.t 7))]) zsx) zmw)
def A23:AC:=(.seq (.reg [.clr [1]] [jx 1 (.box (.t 0)),jv 2 (.mov kf)] []) zup)
def zu6:List An:=[⟨0,[.clr [1]],[],[],[]⟩,⟨5,[.clr [4]],[],[],[]⟩]
theorem c23:cq Try.prog Try.f23 zu6=some A23:=by kernel_rfl
structure H23 (D:Den) (σ:Sig) (F:Nat):Prop where
 c51:C51 (D 51) F
 g51:σ 51=some (0,false)
 c52:C52 (D 52) F
 g52:σ 52=some (0,false)
abbrev R23 (r:Bool):(Nat→V)→Prop:=RR Try.prog [.tmp 2] 0 false (Enc.enc (r:Bool))
section
variable {r:Bool}
def vC (F:Nat) (x1:GR) (x9:Int) (c1:Int→Option Bool) (x19:Bool):Option Bool:=
 bif x19 then
  some false
 else
  c1 (w64 (x9 + 1))
theorem UI (H:H23 D σ F) (x1:GR) (x9:Int) (c1:Int→Option Bool) (Hc1:∀ (x9:Int) (s:Nat→V),zk [(1,bG 1 x1),(2,jb false),(10,eP x1.2),(11,ji (x1.2.length:Int)),(12,ji x9)] s→c1 x9=some r→Run D σ (R23 r) (.run Qr [.lp Qr,.bk 0,.sq zeG]) s) (x19:Bool) (s:Nat→V) (hs:zk [(1,bG 1 x1),(2,jb false),(10,eP x1.2),(11,ji (x1.2.length:Int)),(12,ji x9),(48,jb x19)] s) (h:vC F x1 x9 c1 x19=some r):Run D σ (R23 r) (.nrm [.sq zl7,.bk 1,.sq zlu,.lp Qr,.bk 0,.sq zeG]) s:=by
 unfold vC at h
 obtain ⟨h1,h2,h10,h11,h12,h48⟩:=hs
 refine .nsq (zg h48 h (fun h=>?_) (fun h=>?_))
 · refine .seq (rg (g0 (jb false) fun h2=>gq (.nsq (.ret ?_))))
   obtain rfl:=oi h
   exact rrA (zf h2) rfl
 refine .skip (.nbk (.nsq (rg (g1 12 (ji (w64 (x9 + 1))) h12 fun h49=>gm h49 fun h12=>gq (.nlp ?_)))))
 exact Hc1 (w64 (x9 + 1)) _ ⟨h1,h2,h10,h11,h12⟩ h
def yX (F:Nat) (x1:GR) :Nat→Int→Option Bool
 | 0,_=>none
 | k + 1,x9=>
   bif decide (x9 < (x1.2.length:Int)) then
    (idx x1.2 x9).bind fun v16=>
    bif decide (v16.1 < 0) then
     vC F x1 x9 (yX F x1 k) true
    else
     bif decide (v16.1≥v16.2) then
      vC F x1 x9 (yX F x1 k) true
     else
      bif decide (v16.2≥x1.1) then
       vC F x1 x9 (yX F x1 k) true
      else
       bif decide (x9 > 0) then
        (idx x1.2 (w64 (x9 - 1))).bind fun v20=>
        (vl F [v20.1,v20.2] [v16.1,v16.2]).bind fun r21=>
        vC F x1 x9 (yX F x1 k) (decide (r21≥0))
       else
        vC F x1 x9 (yX F x1 k) false
   else
    some true
theorem zht (H:H23 D σ F) (x1:GR) :∀ (k:Nat) (x9:Int) (s:Nat→V),zk [(1,bG 1 x1),(2,jb false),(10,eP x1.2),(11,ji (x1.2.length:Int)),(12,ji x9)] s→yX F x1 k x9=some r→Run D σ (R23 r) (.run Qr [.lp Qr,.bk 0,.sq zeG]) s:=by
 intro k
 induction k with
 | zero=>intro x9 s _ h;exact nm h
 | succ k ih=>
   intro x9 s hs h
   rw [yX] at h
   obtain ⟨h1,h2,h10,h11,h12⟩:=hs
   refine .seq (rg (g2 12 11 (jb (decide (x9 < (x1.2.length:Int)))) h12 h11 fun h13=>gq (.nsq (.seq (zg h13 h (fun h=>?_) (fun h=>?_))))))
   · refine .skip (.nsq (.seq (.block (.seq (zo (zT ?_))))))
     refine ez [(1,_),(2,_),(4,_),(10,_),(11,_),(12,_)] ⟨za h1 rfl (zi rfl mIE),za h2 rfl mb,zb rfl,za h10 rfl me,za h11 rfl mi,za h12 rfl mi⟩ ?_
     rintro s ⟨h1,h2,h4,h10,h11,h12⟩
     refine gm h12 fun h14=>?_
     obtain ⟨v16,Ev16,h⟩:=bind_some h
     refine gv (.ref .sh 0 [] (.agg [ji v16.1,ji v16.2])) (yq (t:=.sh) (lo:=0) (xs:=x1.2) h10 h12 Ev16 rfl rfl) fun h15=>g1 15 (.agg [ji v16.1,ji v16.2]) h15 fun h16=>wk h4 (gm h14 fun h3=>yd (.agg [ji v16.1,ji v16.2]) (zx rfl rfl) (zx h16 rfl) (ww (by first | rfl | simp [V.toks,V.tokss,Enc.toks_enc,ya])) (gz [(1,bG 1 x1),(2,jb false),(3,ji x9),(4,.ref (.bx 4) 0 [] (.agg [ji v16.1,ji v16.2])),(10,eP x1.2),(11,ji (x1.2.length:Int)),(12,ji x9)] ⟨zd h1 (zH rfl rfl uIE),zd h2 rfl,zd h3 rfl,zd rfl rfl,zd h10 uE,zd h11 rfl,zd h12 rfl⟩ ?_))
     rintro s ⟨h1,h2,h3,h4,h10,h11,h12⟩
     refine .nsq (.seq (rg (g1 4 (.ref (.bx 4) 0 [0] (ji v16.1)) h4 fun h17=>g1 17 (ji v16.1) h17 fun h18=>g1 18 (jb (decide (v16.1 < 0))) h18 fun h19=>gm h19 fun h20=>zU h (fun hg4 h=>?_) (fun hg4 h=>?_))))
     · iterate 5 refine zw (ct h20 hg4) ?_
       refine g2 20 25 (jb true) (ct h20 hg4) (rf (.tup [])) fun h26=>gm h26 fun h27=>zw h27 ?_
       iterate 4 refine zw h27 ?_
       refine g2 27 32 (jb true) h27 (rf (.tup [])) fun h33=>gm h33 fun h34=>zw h34 ?_
       iterate 2 refine zw h34 ?_
       iterate 9 refine ZV rfl ?_
       refine zw h34 (g2 34 47 (jb true) h34 (rf (.tup [])) fun h48=>gz [(1,_),(2,_),(10,_),(11,_),(12,_),(48,_)] ⟨h1,h2,h10,h11,h12,h48⟩ ?_)
       rintro s ⟨h1,h2,h10,h11,h12,h48⟩
       exact UI H x1 x9 (yX F x1 k) ih true _ ⟨h1,h2,h10,h11,h12,h48⟩ h
     refine zh (ct h20 hg4) (g1 4 (.ref (.bx 4) 0 [0] (ji v16.1)) h4 fun h21=>zh (ct h20 hg4) (g1 21 (ji v16.1) h21 fun h22=>zh (ct h20 hg4) (g1 4 (.ref (.bx 4) 0 [1] (ji v16.2)) h4 fun h23=>zh (ct h20 hg4) (g1 23 (ji v16.2) h23 fun h24=>zh (ct h20 hg4) (g2 22 24 (jb (decide (v16.1≥v16.2))) h22 h24 fun h25=>g2 20 25 (jb (decide (v16.1≥v16.2))) (ct h20 hg4) h25 fun h26=>gm h26 fun h27=>zU h (fun hg11 h=>?_) (fun hg11 h=>?_))))))
     · iterate 5 refine zw (ct h27 hg11) ?_
       refine g2 27 32 (jb true) (ct h27 hg11) (rf (.tup [])) fun h33=>gm h33 fun h34=>zw h34 ?_
       iterate 2 refine zw h34 ?_
       iterate 9 refine ZV rfl ?_
       refine zw h34 (g2 34 47 (jb true) h34 (rf (.tup [])) fun h48=>gz [(1,_),(2,_),(10,_),(11,_),(12,_),(48,_)] ⟨h1,h2,h10,h11,h12,h48⟩ ?_)
       rintro s ⟨h1,h2,h10,h11,h12,h48⟩
       exact UI H x1 x9 (yX F x1 k) ih true _ ⟨h1,h2,h10,h11,h12,h48⟩ h
     refine zh (ct h27 hg11) (g1 4 (.ref (.bx 4) 0 [1] (ji v16.2)) h4 fun h28=>zh (ct h27 hg11) (g1 28 (ji v16.2) h28 fun h29=>zh (ct h27 hg11) (g1 1 (.ref (.bx 1) 0 [0] (ji x1.1)) h1 fun h30=>zh (ct h27 hg11) (g1 30 (ji x1.1) h30 fun h31=>zh (ct h27 hg11) (g2 29 31 (jb (decide (v16.2≥x1.1))) h29 h31 fun h32=>g2 27 32 (jb (decide (v16.2≥x1.1))) (ct h27 hg11) h32 fun h33=>gm h33 fun h34=>zU h (fun hg18 h=>?_) (fun hg18 h=>?_))))))
     · iterate 3 refine zw (ct h34 hg18) ?_
       iterate 9 refine ZV rfl ?_
       refine zw (ct h34 hg18) (g2 34 47 (jb true) (ct h34 hg18) (rf (.tup [])) fun h48=>gz [(1,_),(2,_),(10,_),(11,_),(12,_),(48,_)] ⟨h1,h2,h10,h11,h12,h48⟩ ?_)
       rintro s ⟨h1,h2,h10,h11,h12,h48⟩
       exact UI H x1 x9 (yX F x1 k) ih true _ ⟨h1,h2,h10,h11,h12,h48⟩ h
     refine zh (ct h34 hg18) (gm h3 fun h35=>zh (ct h34 hg18) (g1 35 (jb (decide (x9 > 0))) h35 fun h36=>zh (ct h34 hg18) (gm h36 fun h37=>zU h (fun hg21 h=>?_) (fun hg21 h=>?_))))
     · refine zh (ct h37 hg21) (g1 1 (.ref (.bx 1) 0 [1] (eP x1.2)) h1 fun h38=>zh (ct h37 hg21) (g1 38 (eP x1.2) h38 fun h39=>zh (ct h37 hg21) (gm h3 fun h40=>zh (ct h37 hg21) (g1 40 (ji (w64 (x9 - 1))) h40 fun h41=>?_))))
       obtain ⟨v20,Ev20,h⟩:=bind_some h
       refine zh (ct h37 hg21) (gv (.ref .sh 0 [] (.agg [ji v20.1,ji v20.2])) (yq (t:=.sh) (lo:=0) (xs:=x1.2) h39 h41 Ev20 rfl rfl) fun h42=>zh (ct h37 hg21) (g1 42 (eL [v20.1,v20.2]) h42 fun h43=>zh (ct h37 hg21) (g1 4 (zj (.bx 4) (.of ([v16.1,v16.2]:LI))) h4 fun h44=>?_)))
       obtain ⟨r21,Er21,h⟩:=bind_some h
       refine zh (ct h37 hg21) (zy (m:=0) (al:=false) (r:=Enc.enc (r21:Int)) [Enc.enc ([v20.1,v20.2]:LI),Enc.enc ([v16.1,v16.2]:LI)] (zc (v:=eL [v20.1,v20.2]) h43 rfl (Enc.erase_enc ([v20.1,v20.2]:LI)) (zc (v:=zj (.bx 4) (.of ([v16.1,v16.2]:LI))) h44 rfl (Zg (o:=.of [v16.1,v16.2])) zp)) (H.c52 _ _ _ Er21) H.g52 rfl rfl rfl rfl (zh (ct h37 hg21) (g1 45 (jb (decide (r21≥0))) (rf (ji r21)) fun h46=>zh (ct h34 hg18) (g2 37 46 (jb (decide (r21≥0))) (ct h37 hg21) h46 fun h47=>g2 34 47 (jb (decide (r21≥0))) (ct h34 hg18) h47 fun h48=>?_))))
       refine gz [(1,_),(2,_),(10,_),(11,_),(12,_),(48,_)] ⟨h1,h2,h10,h11,h12,h48⟩ ?_
       rintro s ⟨h1,h2,h10,h11,h12,h48⟩
       exact UI H x1 x9 (yX F x1 k) ih (decide (r21≥0)) _ ⟨h1,h2,h10,h11,h12,h48⟩ h
     iterate 9 refine zw (ct h37 hg21) ?_
     refine zh (ct h34 hg18) (g2 37 46 (jb false) (ct h37 hg21) (rf (.tup [])) fun h47=>g2 34 47 (jb false) (ct h34 hg18) h47 fun h48=>gz [(1,_),(2,_),(10,_),(11,_),(12,_),(48,_)] ⟨h1,h2,h10,h11,h12,h48⟩ ?_)
     rintro s ⟨h1,h2,h10,h11,h12,h48⟩
     exact UI H x1 x9 (yX F x1 k) ih false _ ⟨h1,h2,h10,h11,h12,h48⟩ h
   refine .exit (.esq (.elp (.ebk (.nsq (.seq (rg (g0 (jb true) fun h2=>gq (.nsq (.ret ?_)))))))))
   obtain rfl:=oi h
   exact rrA (zf h2) rfl
def xF (F:Nat) (x1:GR):Option Bool:=
 (Y6 F x1.1 0 8).bind fun r2=>
 bif (!r2) then
  some false
 else
  yX F x1 F 0
theorem t23 (H:H23 D σ F) (x1:GR) (s:Nat→V) (hs:zk [(0,gV x1)] s) (h:xF F x1=some r):Run D σ (R23 r) (.run A23 []) s:=by
 unfold xF at h
 have h0:=hs
 refine .seq (zo (zT ?_))
 refine ez [(0,_),(1,_)] ⟨za h0 rfl mIE,zb rfl⟩ ?_
 rintro s ⟨h0,h1⟩
 refine xo (gV x1) (zx h0 rfl) h1 rfl (g0 (jb false) fun h2=>gq (.nsq (.seq (.seq (rg (g1 1 (.ref (.bx 1) 0 [0] (ji x1.1)) (rf (bG 1 x1)) fun h5=>g1 5 (ji x1.1) h5 fun h6=>?_))))))
 obtain ⟨r2,Er2,h⟩:=bind_some h
 refine zy (m:=0) (al:=false) (r:=Enc.enc (r2:Bool)) [Enc.enc (x1.1:Int),Enc.enc (0:Int),Enc.enc (8:Int)] (zc (v:=ji x1.1) h6 rfl rfl (zc (v:=ji 0) rfl rfl rfl (zc (v:=ji 8) rfl rfl rfl zp))) (H.c51 _ _ _ _ Er2) H.g51 rfl rfl rfl rfl (g1 7 (jb (!r2)) (rf (jb r2)) fun h8=>gq (.nsq (zg h8 h (fun h=>?_) (fun h=>?_))))
 · refine .seq (rg (g0 (jb false) fun h2=>gq (.nsq (.ret ?_))))
   obtain rfl:=oi h
   exact rrA (zf h2) rfl
 refine .skip (.nsq (.seq (.seq (rg (g1 1 (.ref (.bx 1) 0 [1] (eP x1.2)) (rf (bG 1 x1)) fun h9=>g1 9 (eP x1.2) h9 fun h10=>gl x1.2 h10 fun h11=>g0 (ji 0) fun h12=>gq (.nsq (.block (.loop ?_))))))))
 exact zht H x1 F 0 _ ⟨rfl,h2,h10,h11,h12⟩ h
end
def e23 (F:Nat):Ent:=ent 23 (fun (x:(GR×Unit))=>xF F x.1) (fun (r:Bool)=>(Enc.enc (r:Bool))) 0 false []
abbrev C23 (D:List V→Option V) (F:Nat):Prop:=∀ (x0:GR) r,xF F x0=some r→D [Enc.enc x0]=some (Enc.enc (r:Bool))
theorem p23 {F:Nat}:C23 (e23 F).den F:=fun x0 _ h=>zK (x0,()) h
theorem o23 (hF:zr Try.prog D σ) (H:H23 D σ F):(e23 F).Ok Try.prog:=okZ (f:=23) Try.func23 fun ⟨x0,_⟩ y hy=>cR hF Try.func23 c23 (t23 H x0 _ rfl hy)
def zs9:AC:=(.cond (.t 19) (.seq (rr [jv 6 (.mov kf)]) .ret) .skip)
def zro:AC:=(.seq (rr [jm 15 8,jm 16 1,jm 17 2,jx 18 (.call (jf 51) [.t 15,.t 16,.t 17]),jv 19 (.un .not (.t 18))]) zs9)
def zo6:AC:=(rr [jv 20 (.bin .add (.t 11) (jn 1)),jm 11 20])
def zsl:AC:=(.seq (.block 1 (.seq (rr [jv 13 (.idx (.t 9) (.t 11) 1),jl 14 13,jm 8 14]) zro)) zo6)
def zr3:AC:=(.seq (.cond (.t 12) .skip (.exit 0)) zsl)
def zg2:AC:=(.seq (rr [jv 12 (.bin .lss (.t 11) (.t 10))]) zr3)
def zll:AC:=(.seq (rr [jv 6 (.mov kt)]) .ret)
def ztO:AC:=(.block 0 (.loop zg2))
def zrr:AC:=(.seq (.seq (rr [jm 9 0,jk 10 9,jv 11 (.mov (jn 0))]) ztO) zll)
def A53:AC:=(.seq (rr [jv 6 (.mov kf)]) zrr)
def zvA:List An:=[]
theorem c53:cq Try.prog Try.f53 zvA=some A53:=by kernel_rfl
structure H53 (D:Den) (σ:Sig) (F:Nat):Prop where
 c51:C51 (D 51) F
 g51:σ 51=some (0,false)
abbrev R53 (r:Bool):(Nat→V)→Prop:=RR Try.prog [.tmp 6] 0 false (Enc.enc (r:Bool))
section
variable {r:Bool}
def vo (F:Nat) (x2:Int) (x3:Int) (x1:LI) :Nat→Int→Option Bool
 | 0,_=>none
 | k + 1,x6=>
   bif decide (x6 < (x1.length:Int)) then
    (idx x1 x6).bind fun v9=>
    (Y6 F v9 x2 x3).bind fun r10=>
    bif (!r10) then
     some false
    else
     (vo F x2 x3 x1 k) (w64 (x6 + 1))
   else
    some true
theorem zgT (H:H53 D σ F) (x2:Int) (x3:Int) (x1:LI) :∀ (k:Nat) (x6:Int) (s:Nat→V),zk [(1,ji x2),(2,ji x3),(6,jb false),(9,eL x1),(10,ji (x1.length:Int)),(11,ji x6)] s→vo F x2 x3 x1 k x6=some r→Run D σ (R53 r) (.run zg2 [.lp zg2,.bk 0,.sq zll]) s:=by
 intro k
 induction k with
 | zero=>intro x6 s _ h;exact nm h
 | succ k ih=>
   intro x6 s hs h
   rw [vo] at h
   obtain ⟨h1,h2,h6,h9,h10,h11⟩:=hs
   refine .seq (rg (g2 11 10 (jb (decide (x6 < (x1.length:Int)))) h11 h10 fun h12=>gq (.nsq (.seq (zg h12 h (fun h=>?_) (fun h=>?_))))))
   · refine .skip (.nsq (.seq (.block (.seq (rg ?_)))))
     obtain ⟨v9,Ev9,h⟩:=bind_some h
     refine gv (.ref .sh 0 [] (ji v9)) (yq (t:=.sh) (lo:=0) (xs:=x1) h9 h11 Ev9 rfl rfl) fun h13=>g1 13 (ji v9) h13 fun h14=>gm h14 fun h8=>gq (.nsq (.seq (rg (gm h8 fun h15=>gm h1 fun h16=>gm h2 fun h17=>?_))))
     obtain ⟨r10,Er10,h⟩:=bind_some h
     refine zy (m:=0) (al:=false) (r:=Enc.enc (r10:Bool)) [Enc.enc (v9:Int),Enc.enc (x2:Int),Enc.enc (x3:Int)] (zc (v:=ji v9) h15 rfl rfl (zc (v:=ji x2) h16 rfl rfl (zc (v:=ji x3) h17 rfl rfl zp))) (H.c51 _ _ _ _ Er10) H.g51 rfl rfl rfl rfl (g1 18 (jb (!r10)) (rf (jb r10)) fun h19=>gq (.nsq (zg h19 h (fun h=>?_) (fun h=>?_))))
     · refine .seq (rg (g0 (jb false) fun h6=>gq (.nsq (.ret ?_))))
       obtain rfl:=oi h
       exact rrA (zf h6) rfl
     refine .skip (.nbk (.nsq (rg (g1 11 (ji (w64 (x6 + 1))) h11 fun h20=>gm h20 fun h11=>gq (.nlp ?_)))))
     exact ih (w64 (x6 + 1)) _ ⟨h1,h2,h6,h9,h10,h11⟩ h
   refine .exit (.esq (.elp (.ebk (.nsq (.seq (rg (g0 (jb true) fun h6=>gq (.nsq (.ret ?_)))))))))
   obtain rfl:=oi h
   exact rrA (zf h6) rfl
def Zh (F:Nat) (x1:LI) (x2:Int) (x3:Int):Option Bool:=
 vo F x2 x3 x1 F 0
theorem t53 (H:H53 D σ F) (x1:LI) (x2:Int) (x3:Int) (s:Nat→V) (hs:zk [(0,eL x1),(1,ji x2),(2,ji x3)] s) (h:Zh F x1 x2 x3=some r):Run D σ (R53 r) (.run A53 []) s:=by
 unfold Zh at h
 obtain ⟨h0,h1,h2⟩:=hs
 refine .seq (rg (g0 (jb false) fun h6=>gq (.nsq (.seq (.seq (rg (gm h0 fun h9=>gl x1 h9 fun h10=>g0 (ji 0) fun h11=>gq (.nsq (.block (.loop ?_))))))))))
 exact zgT H x2 x3 x1 F 0 _ ⟨h1,h2,h6,h9,h10,h11⟩ h
end
def e53 (F:Nat):Ent:=ent 53 (fun (x:(LI×Int×Int×Unit))=>Zh F x.1 x.2.1 x.2.2.1) (fun (r:Bool)=>(Enc.enc (r:Bool))) 0 false []
abbrev C53 (D:List V→Option V) (F:Nat):Prop:=∀ (x0:LI) (x1:Int) (x2:Int) r,Zh F x0 x1 x2=some r→D [Enc.enc x0,Enc.enc x1,Enc.enc x2]=some (Enc.enc (r:Bool))
theorem p53 {F:Nat}:C53 (e53 F).den F:=fun x0 x1 x2 _ h=>zK (x0,x1,x2,()) h
theorem o53 (hF:zr Try.prog D σ) (H:H53 D σ F):(e53 F).Ok Try.prog:=okZ (f:=53) Try.func53 fun ⟨x0,x1,x2,_⟩ y hy=>cR hF Try.func53 c53 (t53 H x0 x1 x2 _ ⟨rfl,rfl,rfl⟩ hy)
def ztY:AC:=(rr [jm 12 3,jm 13 5,jv 14 (.bin .shl (jn 1) (.t 13)),jv 15 (.bin .or (.t 12) (.t 14)),jm 3 15])
def zpH:AC:=(rr [jv 16 (.bin .add (.t 8) (jn 1)),jm 8 16])
def zpy:AC:=(.seq (.block 1 (.seq (rr [jv 10 (.idx (.t 6) (.t 8) 1),jl 11 10,jm 5 11]) ztY)) zpH)
def ztw:AC:=(.seq (.cond (.t 9) .skip (.exit 0)) zpy)
def zjk:AC:=(.seq (rr [jv 9 (.bin .lss (.t 8) (.t 7))]) ztw)
def zln:AC:=(.seq (rr [jm 17 3,jm 2 17]) .ret)
def zrp:AC:=(.block 0 (.loop zjk))
def zsW:AC:=(.seq (.seq (rr [jm 6 0,jk 7 6,jv 8 (.mov (jn 0))]) zrp) zln)
def zqM:AC:=(.seq (rr [jv 3 (.mov (jn 0))]) zsW)
def A54:AC:=(.seq (rr [jv 2 (.mov (jn 0))]) zqM)
def zvN:List An:=[]
theorem c54:cq Try.prog Try.f54 zvN=some A54:=by kernel_rfl
structure H54 (D:Den) (σ:Sig) (F:Nat):Prop where
 mk ::
abbrev R54 (r:Int):(Nat→V)→Prop:=RR Try.prog [.tmp 2] 0 false (Enc.enc (r:Int))
section
variable {r:Int}
def uu (F:Nat) (x1:LI) :Nat→Int→Int→Option Int
 | 0,_,_=>none
 | k + 1,x4,x5=>
   bif decide (x5 < (x1.length:Int)) then
    (idx x1 x5).bind fun v8=>
    (uB .i64 1 v8).bind fun q9=>
    (uu F x1 k) (ior .i64 x4 q9) (w64 (x5 + 1))
   else
    some x4
theorem zh0 (H:H54 D σ F) (x1:LI) :∀ (k:Nat) (x4:Int) (x5:Int) (s:Nat→V),zk [(2,ji 0),(3,ji x4),(6,eL x1),(7,ji (x1.length:Int)),(8,ji x5)] s→uu F x1 k x4 x5=some r→Run D σ (R54 r) (.run zjk [.lp zjk,.bk 0,.sq zln]) s:=by
 intro k
 induction k with
 | zero=>intro x4 x5 s _ h;exact nm h
 | succ k ih=>
   intro x4 x5 s hs h
   rw [uu] at h
   obtain ⟨h2,h3,h6,h7,h8⟩:=hs
   refine .seq (rg (g2 8 7 (jb (decide (x5 < (x1.length:Int)))) h8 h7 fun h9=>gq (.nsq (.seq (zg h9 h (fun h=>?_) (fun h=>?_))))))
   · refine .skip (.nsq (.seq (.block (.seq (rg ?_)))))
     obtain ⟨v8,Ev8,h⟩:=bind_some h
     refine gv (.ref .sh 0 [] (ji v8)) (yq (t:=.sh) (lo:=0) (xs:=x1) h6 h8 Ev8 rfl rfl) fun h10=>g1 10 (ji v8) h10 fun h11=>gm h11 fun h5=>gq (.nsq (rg (gm h3 fun h12=>gm h5 fun h13=>?_)))
     obtain ⟨q9,Eq9,h⟩:=bind_some h
     refine gv (ji q9) (vW rfl h13 Eq9) fun h14=>g2 12 14 (ji (ior .i64 x4 q9)) h12 h14 fun h15=>gm h15 fun h3=>gq (.nbk (.nsq (rg (g1 8 (ji (w64 (x5 + 1))) h8 fun h16=>gm h16 fun h8=>gq (.nlp ?_)))))
     exact ih (ior .i64 x4 q9) (w64 (x5 + 1)) _ ⟨h2,h3,h6,h7,h8⟩ h
   refine .exit (.esq (.elp (.ebk (.nsq (.seq (rg (gm h3 fun h17=>gm h17 fun h2=>gq (.nsq (.ret ?_)))))))))
   obtain rfl:=oi h
   exact rrA (zf h2) rfl
def XB (F:Nat) (x1:LI):Option Int:=
 uu F x1 F 0 0
theorem t54 (H:H54 D σ F) (x1:LI) (s:Nat→V) (hs:zk [(0,eL x1)] s) (h:XB F x1=some r):Run D σ (R54 r) (.run A54 []) s:=by
 unfold XB at h
 have h0:=hs
 refine .seq (rg (g0 (ji 0) fun h2=>gq (.nsq (.seq (rg (g0 (ji 0) fun h3=>gq (.nsq (.seq (.seq (rg (gm h0 fun h6=>gl x1 h6 fun h7=>g0 (ji 0) fun h8=>gq (.nsq (.block (.loop ?_))))))))))))))
 exact zh0 H x1 F 0 0 _ ⟨h2,h3,h6,h7,h8⟩ h
end
def e54 (F:Nat):Ent:=ent 54 (fun (x:(LI×Unit))=>XB F x.1) (fun (r:Int)=>(Enc.enc (r:Int))) 0 false []
abbrev C54 (D:List V→Option V) (F:Nat):Prop:=∀ (x0:LI) r,XB F x0=some r→D [Enc.enc x0]=some (Enc.enc (r:Int))
theorem p54 {F:Nat}:C54 (e54 F).den F:=fun x0 _ h=>zK (x0,()) h
theorem o54 (hF:zr Try.prog D σ) (H:H54 D σ F):(e54 F).Ok Try.prog:=okZ (f:=54) Try.func54 fun ⟨x0,_⟩ y hy=>cR hF Try.func54 c54 (t54 H x0 _ rfl hy)
def zpo:AC:=(.seq (rr [jm 5 1,jk 6 5,jv 7 (.fld (.t 2) 0 0),jl 8 7,jv 9 (.bin .eql (.t 6) (.t 8)),jm 10 9,jg 11 10 true (.mov (.t 1)),jg 12 10 true (.fld (.t 2) 0 0),jg 13 10 true (.load .s (.t 12)),jg 14 10 true (.bin .sub (.t 13) (jn 1)),.mk (some 15) (some (10,true)) false (.call (jf 53) [.t 11,jn 0,.t 14]),jv 16 (.pick (.t 10) (.t 15) kf),jm 17 16,jg 18 17 true (.mov (.t 1)),.mk (some 19) (some (17,true)) false (.call (jf 54) [.t 18]),jg 20 17 true (.fld (.t 2) 0 0),jg 21 17 true (.load .s (.t 20)),jg 22 17 true (.bin .shl (jn 1) (.t 21)),jg 23 17 true (.bin .sub (.t 22) (jn 1)),jg 24 17 true (.bin .eql (.t 19) (.t 23)),jv 25 (.pick (.t 17) (.t 24) kf),jm 4 25]) .ret)
def A24:AC:=(.seq (.reg [.clr [2]] [jx 2 (.box (.t 0)),jv 4 (.mov kf)] []) zpo)
def zuY:List An:=[⟨0,[.clr [2]],[],[],[]⟩]
theorem c24:cq Try.prog Try.f24 zuY=some A24:=by kernel_rfl
structure H24 (D:Den) (σ:Sig) (F:Nat):Prop where
 c53:C53 (D 53) F
 g53:σ 53=some (0,false)
 c54:C54 (D 54) F
 g54:σ 54=some (0,false)
abbrev R24 (r:Bool):(Nat→V)→Prop:=RR Try.prog [.tmp 4] 0 false (Enc.enc (r:Bool))
section
variable {r:Bool}
def uN (F:Nat) (x1:GR) (x2:LI):Option Bool:=
 bif ((x2.length:Int) == x1.1) then
  (Zh F x2 0 (w64 (x1.1 - 1))).bind fun r3=>
  bif r3 then
   (XB F x2).bind fun r4=>
   (uB .i64 1 x1.1).bind fun q5=>
   some (r4 == (w64 (q5 - 1)))
  else
   some false
 else
  some false
theorem t24 (H:H24 D σ F) (x1:GR) (x2:LI) (s:Nat→V) (hs:zk [(0,gV x1),(1,eL x2)] s) (h:uN F x1 x2=some r):Run D σ (R24 r) (.run A24 []) s:=by
 unfold uN at h
 obtain ⟨h0,h1⟩:=hs
 refine .seq (zo (zT ?_))
 refine ez [(0,_),(1,_),(2,_)] ⟨za h0 rfl mIE,za h1 rfl me,zb rfl⟩ ?_
 rintro s ⟨h0,h1,h2⟩
 refine xo (gV x1) (zx h0 rfl) h2 rfl (g0 (jb false) fun h4=>gq (.nsq (.seq (rg (gm h1 fun h5=>gl x2 h5 fun h6=>g1 2 (.ref (.bx 2) 0 [0] (ji x1.1)) (rf (bG 2 x1)) fun h7=>g1 7 (ji x1.1) h7 fun h8=>g2 6 8 (jb ((x2.length:Int) == x1.1)) h6 h8 fun h9=>gm h9 fun h10=>zU h (fun hg6 h=>?_) (fun hg6 h=>?_))))))
 · refine zh (ct h10 hg6) (gm h1 fun h11=>zh (ct h10 hg6) (g1 2 (.ref (.bx 2) 0 [0] (ji x1.1)) (rf (bG 2 x1)) fun h12=>zh (ct h10 hg6) (g1 12 (ji x1.1) h12 fun h13=>zh (ct h10 hg6) (g1 13 (ji (w64 (x1.1 - 1))) h13 fun h14=>?_))))
   obtain ⟨r3,Er3,h⟩:=bind_some h
   refine zh (ct h10 hg6) (zy (m:=0) (al:=false) (r:=Enc.enc (r3:Bool)) [eL x2,Enc.enc (0:Int),Enc.enc (w64 (x1.1 - 1):Int)] (zc (v:=eL x2) h11 rfl (Enc.erase_enc (x2:LI)) (zc (v:=ji 0) rfl rfl rfl (zc (v:=ji (w64 (x1.1 - 1))) h14 rfl rfl zp))) (H.c53 _ _ _ _ Er3) H.g53 rfl rfl rfl rfl (g2 10 15 (jb r3) (ct h10 hg6) (rf (jb r3)) fun h16=>gm h16 fun h17=>zU h (fun hg13 h=>?_) (fun hg13 h=>?_)))
   · refine zh (ct h17 hg13) (gm h1 fun h18=>?_)
     obtain ⟨r4,Er4,h⟩:=bind_some h
     refine zh (ct h17 hg13) (zy (m:=0) (al:=false) (r:=Enc.enc (r4:Int)) [eL x2] (zc (v:=eL x2) h18 rfl (Enc.erase_enc (x2:LI)) zp) (H.c54 _ _ Er4) H.g54 rfl rfl rfl rfl (zh (ct h17 hg13) (g1 2 (.ref (.bx 2) 0 [0] (ji x1.1)) (rf (bG 2 x1)) fun h20=>zh (ct h17 hg13) (g1 20 (ji x1.1) h20 fun h21=>?_))))
     obtain ⟨q5,Eq5,h⟩:=bind_some h
     refine zh (ct h17 hg13) (gv (ji q5) (vW rfl h21 Eq5) fun h22=>zh (ct h17 hg13) (g1 22 (ji (w64 (q5 - 1))) h22 fun h23=>zh (ct h17 hg13) (g2 19 23 (jb (r4 == (w64 (q5 - 1)))) (rf (ji r4)) h23 fun h24=>g2 17 24 (jb (r4 == (w64 (q5 - 1)))) (ct h17 hg13) h24 fun h25=>gm h25 fun h4=>gq (.nsq (.ret ?_)))))
     obtain rfl:=oi h
     exact rrA (zf h4) rfl
   iterate 7 refine zw (ct h17 hg13) ?_
   refine g2 17 24 (jb false) (ct h17 hg13) (rf (.tup [])) fun h25=>gm h25 fun h4=>gq (.nsq (.ret ?_))
   obtain rfl:=oi h
   exact rrA (zf h4) rfl
 iterate 5 refine zw (ct h10 hg6) ?_
 refine g2 10 15 (jb false) (ct h10 hg6) (rf (.tup [])) fun h16=>gm h16 fun h17=>zw h17 ?_
 iterate 6 refine zw h17 ?_
 refine g2 17 24 (jb false) h17 (rf (.tup [])) fun h25=>gm h25 fun h4=>gq (.nsq (.ret ?_))
 obtain rfl:=oi h
 exact rrA (zf h4) rfl
end
def e24 (F:Nat):Ent:=ent 24 (fun (x:(GR×LI×Unit))=>uN F x.1 x.2.1) (fun (r:Bool)=>(Enc.enc (r:Bool))) 0 false []
abbrev C24 (D:List V→Option V) (F:Nat):Prop:=∀ (x0:GR) (x1:LI) r,uN F x0 x1=some r→D [Enc.enc x0,Enc.enc x1]=some (Enc.enc (r:Bool))
theorem p24 {F:Nat}:C24 (e24 F).den F:=fun x0 x1 _ h=>zK (x0,x1,()) h
theorem o24 (hF:zr Try.prog D σ) (H:H24 D σ F):(e24 F).Ok Try.prog:=okZ (f:=24) Try.func24 fun ⟨x0,x1,_⟩ y hy=>cR hF Try.func24 c24 (t24 H x0 x1 _ ⟨rfl,rfl⟩ hy)
def ztZ:AC:=(.cond (.t 16) (.seq (rr [jm 17 5,jm 4 17]) .ret) .skip)
def zr9:AC:=(.seq (rr [jm 11 1,jm 12 0,jm 13 5,jv 14 (.idx (.t 12) (.t 13) 1),jl 15 14,jv 16 (.bin .eql (.t 11) (.t 15))]) ztZ)
def zpT:AC:=(rr [jv 18 (.bin .add (.t 8) (jn 1)),jm 8 18])
def zru:AC:=(.seq (.block 1 (.seq (rr [jm 10 8,jm 5 10]) zr9)) zpT)
def zsO:AC:=(.seq (.cond (.t 9) .skip (.exit 0)) zru)
def ziI:AC:=(.seq (rr [jv 9 (.bin .lss (.t 8) (.t 7))]) zsO)
def zlM:AC:=(.seq (rr [jv 4 (.mov (jn (-1)))]) .ret)
def zs0:AC:=(.block 0 (.loop ziI))
def zuv:AC:=(.seq (.seq (rr [jm 6 0,jk 7 6,jv 8 (.mov (jn 0))]) zs0) zlM)
def A25:AC:=(.seq (rr [jv 4 (.mov (jn 0))]) zuv)
def zvG:List An:=[]
theorem c25:cq Try.prog Try.f25 zvG=some A25:=by kernel_rfl
structure H25 (D:Den) (σ:Sig) (F:Nat):Prop where
 mk ::
abbrev R25 (r:Int):(Nat→V)→Prop:=RR Try.prog [.tmp 4] 0 false (Enc.enc (r:Int))
section
variable {r:Int}
def xw (F:Nat) (x1:LI) (x2:Int) :Nat→Int→Option Int
 | 0,_=>none
 | k + 1,x4=>
   bif decide (x4 < (x1.length:Int)) then
    (idx x1 x4).bind fun v6=>
    bif (x2 == v6) then
     some x4
    else
     (xw F x1 x2 k) (w64 (x4 + 1))
   else
    some (-1)
theorem zh4 (H:H25 D σ F) (x1:LI) (x2:Int) :∀ (k:Nat) (x4:Int) (s:Nat→V),zk [(0,eL x1),(1,ji x2),(4,ji 0),(7,ji (x1.length:Int)),(8,ji x4)] s→xw F x1 x2 k x4=some r→Run D σ (R25 r) (.run ziI [.lp ziI,.bk 0,.sq zlM]) s:=by
 intro k
 induction k with
 | zero=>intro x4 s _ h;exact nm h
 | succ k ih=>
   intro x4 s hs h
   rw [xw] at h
   obtain ⟨h0,h1,h4,h7,h8⟩:=hs
   refine .seq (rg (g2 8 7 (jb (decide (x4 < (x1.length:Int)))) h8 h7 fun h9=>gq (.nsq (.seq (zg h9 h (fun h=>?_) (fun h=>?_))))))
   · refine .skip (.nsq (.seq (.block (.seq (rg (gm h8 fun h10=>gm h10 fun h5=>gq (.nsq (.seq (rg (gm h1 fun h11=>gm h0 fun h12=>gm h5 fun h13=>?_))))))))))
     obtain ⟨v6,Ev6,h⟩:=bind_some h
     refine gv (.ref .sh 0 [] (ji v6)) (yq (t:=.sh) (lo:=0) (xs:=x1) h12 h13 Ev6 rfl rfl) fun h14=>g1 14 (ji v6) h14 fun h15=>g2 11 15 (jb (x2 == v6)) h11 h15 fun h16=>gq (.nsq (zg h16 h (fun h=>?_) (fun h=>?_)))
     · refine .seq (rg (gm h5 fun h17=>gm h17 fun h4=>gq (.nsq (.ret ?_))))
       obtain rfl:=oi h
       exact rrA (zf h4) rfl
     refine .skip (.nbk (.nsq (rg (g1 8 (ji (w64 (x4 + 1))) h8 fun h18=>gm h18 fun h8=>gq (.nlp ?_)))))
     exact ih (w64 (x4 + 1)) _ ⟨h0,h1,h4,h7,h8⟩ h
   refine .exit (.esq (.elp (.ebk (.nsq (.seq (rg (g0 (ji (-1)) fun h4=>gq (.nsq (.ret ?_)))))))))
   obtain rfl:=oi h
   exact rrA (zf h4) rfl
def wG (F:Nat) (x1:LI) (x2:Int):Option Int:=
 xw F x1 x2 F 0
theorem t25 (H:H25 D σ F) (x1:LI) (x2:Int) (s:Nat→V) (hs:zk [(0,eL x1),(1,ji x2)] s) (h:wG F x1 x2=some r):Run D σ (R25 r) (.run A25 []) s:=by
 unfold wG at h
 obtain ⟨h0,h1⟩:=hs
 refine .seq (rg (g0 (ji 0) fun h4=>gq (.nsq (.seq (.seq (rg (gm h0 fun h6=>gl x1 h6 fun h7=>g0 (ji 0) fun h8=>gq (.nsq (.block (.loop ?_))))))))))
 exact zh4 H x1 x2 F 0 _ ⟨h0,h1,h4,h7,h8⟩ h
end
def e25 (F:Nat):Ent:=ent 25 (fun (x:(LI×Int×Unit))=>wG F x.1 x.2.1) (fun (r:Int)=>(Enc.enc (r:Int))) 0 false []
abbrev C25 (D:List V→Option V) (F:Nat):Prop:=∀ (x0:LI) (x1:Int) r,wG F x0 x1=some r→D [Enc.enc x0,Enc.enc x1]=some (Enc.enc (r:Int))
theorem p25 {F:Nat}:C25 (e25 F).den F:=fun x0 x1 _ h=>zK (x0,x1,()) h
theorem o25 (hF:zr Try.prog D σ) (H:H25 D σ F):(e25 F).Ok Try.prog:=okZ (f:=25) Try.func25 fun ⟨x0,x1,_⟩ y hy=>cR hF Try.func25 c25 (t25 H x0 x1 _ ⟨rfl,rfl⟩ hy)
def zvM:AC:=(rr [jm 35 6,jm 36 9,jm 37 9,jv 38 (.un .neg (.t 37)),jv 39 (.mx [.t 35,.t 36,.t 38]),jm 6 39])
def zuX:AC:=(.seq (rr [jm 26 1,jv 27 (.idxA (.t 8) (jn 0) 2 1),jl 28 27,jx 29 (.call (jf 25) [.t 26,.t 28]),jm 30 1,jv 31 (.idxA (.t 8) (jn 1) 2 1),jl 32 31,jx 33 (.call (jf 25) [.t 30,.t 32]),jv 34 (.bin .sub (.t 29) (.t 33)),jm 9 34]) zvM)
def zvh:AC:=(rr [jv 40 (.bin .add (.t 22) (jn 1)),jm 22 40])
def zvE:AC:=(.seq (.block 1 (.seq (.reg [.clr [8]] [jv 24 (.idx (.t 20) (.t 22) 2),jv 25 (.load (.ag [.s,.s]) (.t 24)),jx 8 (.alloc (.agg [i0,i0])),jz (.store (.ag [.s,.s]) (.t 8) (.t 25))] []) zuX)) zvh)
def zvT:AC:=(.seq (.cond (.t 23) .skip (.exit 0)) zvE)
def zmx:AC:=(.seq (rr [jv 23 (.bin .lss (.t 22) (.t 21))]) zvT)
def zqj:AC:=(.seq (rr [jm 41 6,jm 4 41,jv 5 (.mov kt)]) .ret)
def zr4:AC:=(.cond (.t 18) (.seq (rr [jv 4 (.mov (jn 0)),jv 5 (.mov kf)]) .ret) .skip)
def zrv:AC:=(.block 0 (.loop zmx))
def zrs:AC:=(.seq (.seq (rr [jv 19 (.fld (.t 2) 1 1),jv 20 (.load .p (.t 19)),jk 21 20,jv 22 (.mov (jn 0))]) zrv) zqj)
def zr8:AC:=(.seq (rr [jv 6 (.mov (jn 0))]) zrs)
def zt1:AC:=(.seq (.seq (rr [jv 10 (.load (.ag [.s,.p]) (.t 2)),jx 11 (.call (jf 23) [.t 10]),jv 12 (.un .not (.t 11)),jm 13 12,jg 14 13 false (.load (.ag [.s,.p]) (.t 2)),jg 15 13 false (.mov (.t 1)),.mk (some 16) (some (13,false)) false (.call (jf 24) [.t 14,.t 15]),jg 17 13 false (.un .not (.t 16)),jv 18 (.pick (.t 13) kt (.t 17))]) zr4) zr8)
def A6:AC:=(.seq (.reg [.clr [2]] [jx 2 (.box (.t 0)),jv 4 (.mov (jn 0)),jv 5 (.mov kf)] []) zt1)
def an6:List An:=[⟨0,[.clr [2]],[],[],[]⟩,⟨6,[.clr [8]],[],[],[]⟩]
theorem c6:cq Try.prog Try.f6 an6=some A6:=by kernel_rfl
structure H6 (D:Den) (σ:Sig) (F:Nat):Prop where
 c23:C23 (D 23) F
 g23:σ 23=some (0,false)
 c24:C24 (D 24) F
 g24:σ 24=some (0,false)
 c25:C25 (D 25) F
 g25:σ 25=some (0,false)
abbrev R6 (r:(Int×Bool)):(Nat→V)→Prop:=RR Try.prog [.tmp 4,.tmp 5] 0 false (.tup [Enc.enc (r.1:Int),Enc.enc (r.2:Bool)])
section
variable {r:(Int×Bool)}
def xy (F:Nat) (x2:LI) (x1:GR) :Nat→Int→Int→Option (Int×Bool)
 | 0,_,_=>none
 | k + 1,x9,x10=>
   bif decide (x10 < (x1.2.length:Int)) then
    (idx x1.2 x10).bind fun v14=>
    (wG F x2 v14.1).bind fun r15=>
    (wG F x2 v14.2).bind fun r16=>
    (xy F x2 x1 k) (if (w64 (0 - (w64 (r15 - r16)))) > (if (w64 (r15 - r16)) > x9 then (w64 (r15 - r16)) else x9) then (w64 (0 - (w64 (r15 - r16)))) else (if (w64 (r15 - r16)) > x9 then (w64 (r15 - r16)) else x9)) (w64 (x10 + 1))
   else
    some (x9,true)
theorem zkE (H:H6 D σ F) (x2:LI) (x1:GR) :∀ (k:Nat) (x9:Int) (x10:Int) (s:Nat→V),zk [(1,eL x2),(4,ji 0),(5,jb false),(6,ji x9),(20,eP x1.2),(21,ji (x1.2.length:Int)),(22,ji x10)] s→xy F x2 x1 k x9 x10=some r→Run D σ (R6 r) (.run zmx [.lp zmx,.bk 0,.sq zqj]) s:=by
 intro k
 induction k with
 | zero=>intro x9 x10 s _ h;exact nm h
 | succ k ih=>
   intro x9 x10 s hs h
   rw [xy] at h
   obtain ⟨h1,h4,h5,h6,h20,h21,h22⟩:=hs
   refine .seq (rg (g2 22 21 (jb (decide (x10 < (x1.2.length:Int)))) h22 h21 fun h23=>gq (.nsq (.seq (zg h23 h (fun h=>?_) (fun h=>?_))))))
   · refine .skip (.nsq (.seq (.block (.seq (zo (zT ?_))))))
     refine ez [(1,_),(4,_),(5,_),(6,_),(8,_),(20,_),(21,_),(22,_)] ⟨za h1 rfl me,za h4 rfl mi,za h5 rfl mb,za h6 rfl mi,zb rfl,za h20 rfl me,za h21 rfl mi,za h22 rfl mi⟩ ?_
     rintro s ⟨h1,h4,h5,h6,h8,h20,h21,h22⟩
     obtain ⟨v14,Ev14,h⟩:=bind_some h
     refine gv (.ref .sh 0 [] (.agg [ji v14.1,ji v14.2])) (yq (t:=.sh) (lo:=0) (xs:=x1.2) h20 h22 Ev14 rfl rfl) fun h24=>g1 24 (.agg [ji v14.1,ji v14.2]) h24 fun h25=>wk h8 (yd (.agg [ji v14.1,ji v14.2]) (zx rfl rfl) (zx h25 rfl) (ww (by first | rfl | simp [V.toks,V.tokss,Enc.toks_enc,ya])) (gz [(1,eL x2),(4,ji 0),(5,jb false),(6,ji x9),(8,.ref (.bx 8) 0 [] (.agg [ji v14.1,ji v14.2])),(20,eP x1.2),(21,ji (x1.2.length:Int)),(22,ji x10)] ⟨zd h1 uE,zd h4 rfl,zd h5 rfl,zd h6 rfl,zd rfl rfl,zd h20 uE,zd h21 rfl,zd h22 rfl⟩ ?_))
     rintro s ⟨h1,h4,h5,h6,h8,h20,h21,h22⟩
     refine .nsq (.seq (rg (gm h1 fun h26=>g1 8 (.ref (.bx 8) 0 [0] (ji v14.1)) h8 fun h27=>g1 27 (ji v14.1) h27 fun h28=>?_)))
     obtain ⟨r15,Er15,h⟩:=bind_some h
     refine zy (m:=0) (al:=false) (r:=Enc.enc (r15:Int)) [eL x2,Enc.enc (v14.1:Int)] (zc (v:=eL x2) h26 rfl (Enc.erase_enc (x2:LI)) (zc (v:=ji v14.1) h28 rfl rfl zp)) (H.c25 _ _ _ Er15) H.g25 rfl rfl rfl rfl (gm h1 fun h30=>g1 8 (.ref (.bx 8) 0 [1] (ji v14.2)) h8 fun h31=>g1 31 (ji v14.2) h31 fun h32=>?_)
     obtain ⟨r16,Er16,h⟩:=bind_some h
     refine zy (m:=0) (al:=false) (r:=Enc.enc (r16:Int)) [eL x2,Enc.enc (v14.2:Int)] (zc (v:=eL x2) h30 rfl (Enc.erase_enc (x2:LI)) (zc (v:=ji v14.2) h32 rfl rfl zp)) (H.c25 _ _ _ Er16) H.g25 rfl rfl rfl rfl (g2 29 33 (ji (w64 (r15 - r16))) (rf (ji r15)) (rf (ji r16)) fun h34=>gm h34 fun h9=>gq (.nsq (rg (gm h6 fun h35=>gm h9 fun h36=>gm h9 fun h37=>g1 37 (ji (w64 (0 - (w64 (r15 - r16))))) h37 fun h38=>?_))))
     refine zuR (t1:=35) (t2:=36) (t3:=38) (u1:=ji x9) (u2:=ji (w64 (r15 - r16))) (u3:=ji (w64 (0 - (w64 (r15 - r16))))) (ji (if (w64 (0 - (w64 (r15 - r16)))) > (if (w64 (r15 - r16)) > x9 then (w64 (r15 - r16)) else x9) then (w64 (0 - (w64 (r15 - r16)))) else (if (w64 (r15 - r16)) > x9 then (w64 (r15 - r16)) else x9))) h35 h36 h38 rfl rfl (gm (rf (ji (if (w64 (0 - (w64 (r15 - r16)))) > (if (w64 (r15 - r16)) > x9 then (w64 (r15 - r16)) else x9) then (w64 (0 - (w64 (r15 - r16)))) else (if (w64 (r15 - r16)) > x9 then (w64 (r15 - r16)) else x9)))) fun h6=>gq (.nbk (.nsq (rg (g1 22 (ji (w64 (x10 + 1))) h22 fun h40=>gm h40 fun h22=>gq (.nlp ?_))))))
     exact ih (if (w64 (0 - (w64 (r15 - r16)))) > (if (w64 (r15 - r16)) > x9 then (w64 (r15 - r16)) else x9) then (w64 (0 - (w64 (r15 - r16)))) else (if (w64 (r15 - r16)) > x9 then (w64 (r15 - r16)) else x9)) (w64 (x10 + 1)) _ ⟨h1,h4,h5,h6,h20,h21,h22⟩ h
   refine .exit (.esq (.elp (.ebk (.nsq (.seq (rg (gm h6 fun h41=>gm h41 fun h4=>g0 (jb true) fun h5=>gq (.nsq (.ret ?_)))))))))
   obtain rfl:=oi h
   exact rrB (zf h4) (zf h5) rfl
def uf (F:Nat) (x2:LI) (x1:GR)  (x5:Bool):Option (Int×Bool):=
 bif x5 then
  some (0,false)
 else
  xy F x2 x1 F 0 0
theorem zfh (H:H6 D σ F) (x2:LI) (x1:GR)  (x5:Bool) (s:Nat→V) (hs:zk [(1,eL x2),(2,bG 2 x1),(4,ji 0),(5,jb false),(18,jb x5)] s) (h:uf F x2 x1  x5=some r):Run D σ (R6 r) (.nrm [.sq zr4,.sq zr8]) s:=by
 unfold uf at h
 obtain ⟨h1,h2,h4,h5,h18⟩:=hs
 refine .nsq (zg h18 h (fun h=>?_) (fun h=>?_))
 · refine .seq (rg (g0 (ji 0) fun h4=>g0 (jb false) fun h5=>gq (.nsq (.ret ?_))))
   obtain rfl:=oi h
   exact rrB (zf h4) (zf h5) rfl
 refine .skip (.nsq (.seq (rg (g0 (ji 0) fun h6=>gq (.nsq (.seq (.seq (rg (g1 2 (.ref (.bx 2) 0 [1] (eP x1.2)) h2 fun h19=>g1 19 (eP x1.2) h19 fun h20=>gl x1.2 h20 fun h21=>g0 (ji 0) fun h22=>gq (.nsq (.block (.loop ?_))))))))))))
 exact zkE H x2 x1 F 0 0 _ ⟨h1,h4,h5,h6,h20,h21,h22⟩ h
def wF (F:Nat) (x1:GR) (x2:LI):Option (Int×Bool):=
 (xF F x1).bind fun r17=>
 bif (!r17) then
  uf F x2 x1 true
 else
  (uN F x1 x2).bind fun r18=>
  uf F x2 x1 (!r18)
theorem t6 (H:H6 D σ F) (x1:GR) (x2:LI) (s:Nat→V) (hs:zk [(0,gV x1),(1,eL x2)] s) (h:wF F x1 x2=some r):Run D σ (R6 r) (.run A6 []) s:=by
 unfold wF at h
 obtain ⟨h0,h1⟩:=hs
 refine .seq (zo (zT ?_))
 refine ez [(0,_),(1,_),(2,_)] ⟨za h0 rfl mIE,za h1 rfl me,zb rfl⟩ ?_
 rintro s ⟨h0,h1,h2⟩
 refine xo (gV x1) (zx h0 rfl) h2 rfl (g0 (ji 0) fun h4=>g0 (jb false) fun h5=>gq (.nsq (.seq (.seq (rg (g1 2 (gV x1) (rf (bG 2 x1)) fun h10=>?_))))))
 obtain ⟨r17,Er17,h⟩:=bind_some h
 refine zy (m:=0) (al:=false) (r:=Enc.enc (r17:Bool)) [Enc.enc (x1:GR)] (zc (v:=gV x1) h10 rfl (Enc.erase_enc (x1:GR)) zp) (H.c23 _ _ Er17) H.g23 rfl rfl rfl rfl (g1 11 (jb (!r17)) (rf (jb r17)) fun h12=>gm h12 fun h13=>zU h (fun hg4 h=>?_) (fun hg4 h=>?_))
 · iterate 4 refine zw (ct h13 hg4) ?_
   refine g2 13 17 (jb true) (ct h13 hg4) (rf (.tup [])) fun h18=>gq ?_
   exact zfh H x2 x1 true _ ⟨h1,rfl,h4,h5,h18⟩ h
 refine zh (ct h13 hg4) (g1 2 (gV x1) (rf (bG 2 x1)) fun h14=>zh (ct h13 hg4) (gm h1 fun h15=>?_))
 obtain ⟨r18,Er18,h⟩:=bind_some h
 refine zh (ct h13 hg4) (zy (m:=0) (al:=false) (r:=Enc.enc (r18:Bool)) [Enc.enc (x1:GR),eL x2] (zc (v:=gV x1) h14 rfl (Enc.erase_enc (x1:GR)) (zc (v:=eL x2) h15 rfl (Enc.erase_enc (x2:LI)) zp)) (H.c24 _ _ _ Er18) H.g24 rfl rfl rfl rfl (zh (ct h13 hg4) (g1 16 (jb (!r18)) (rf (jb r18)) fun h17=>g2 13 17 (jb (!r18)) (ct h13 hg4) h17 fun h18=>gq ?_)))
 exact zfh H x2 x1 (!r18) _ ⟨h1,rfl,h4,h5,h18⟩ h
end
def e6 (F:Nat):Ent:=ent 6 (fun (x:(GR×LI×Unit))=>wF F x.1 x.2.1) (fun (r:(Int×Bool))=>(.tup [Enc.enc (r.1:Int),Enc.enc (r.2:Bool)])) 0 false []
abbrev C6 (D:List V→Option V) (F:Nat):Prop:=∀ (x0:GR) (x1:LI) r,wF F x0 x1=some r→D [Enc.enc x0,Enc.enc x1]=some (.tup [Enc.enc (r.1:Int),Enc.enc (r.2:Bool)])
theorem p6 {F:Nat}:C6 (e6 F).den F:=fun x0 x1 _ h=>zK (x0,x1,()) h
theorem o6 (hF:zr Try.prog D σ) (H:H6 D σ F):(e6 F).Ok Try.prog:=okZ (f:=6) Try.func6 fun ⟨x0,x1,_⟩ y hy=>cR hF Try.func6 c6 (t6 H x0 x1 _ ⟨rfl,rfl⟩ hy)
def zrQ:AC:=(.seq (rr [jm 7 0,jm 8 1,jv 9 (.bin .geq (.t 7) (.t 8)),jm 10 9,jg 11 10 true (.mov (.t 0)),jg 12 10 true (.mov (.t 2)),jg 13 10 true (.bin .leq (.t 11) (.t 12)),jv 14 (.pick (.t 10) (.t 13) kf),jm 6 14]) .ret)
def A61:AC:=(.seq (rr [jv 6 (.mov kf)]) zrQ)
def zuC:List An:=[]
theorem c61:cq Try.prog Try.f61 zuC=some A61:=by kernel_rfl
structure H61 (D:Den) (σ:Sig) (F:Nat):Prop where
 mk ::
abbrev R61 (r:Bool):(Nat→V)→Prop:=RR Try.prog [.tmp 6] 0 false (Enc.enc (r:Bool))
section
variable {r:Bool}
def Wo (F:Nat) (x1:Int) (x2:Int) (x3:Int):Option Bool:=
 bif decide (x1≥x2) then
  some (decide (x1≤x3))
 else
  some false
theorem t61 (H:H61 D σ F) (x1:Int) (x2:Int) (x3:Int) (s:Nat→V) (hs:zk [(0,ji x1),(1,ji x2),(2,ji x3)] s) (h:Wo F x1 x2 x3=some r):Run D σ (R61 r) (.run A61 []) s:=by
 unfold Wo at h
 obtain ⟨h0,h1,h2⟩:=hs
 refine .seq (rg (g0 (jb false) fun h6=>gq (.nsq (.seq (rg (gm h0 fun h7=>gm h1 fun h8=>g2 7 8 (jb (decide (x1≥x2))) h7 h8 fun h9=>gm h9 fun h10=>zU h (fun hg4 h=>?_) (fun hg4 h=>?_)))))))
 · refine zh (ct h10 hg4) (gm h0 fun h11=>zh (ct h10 hg4) (gm h2 fun h12=>zh (ct h10 hg4) (g2 11 12 (jb (decide (x1≤x3))) h11 h12 fun h13=>g2 10 13 (jb (decide (x1≤x3))) (ct h10 hg4) h13 fun h14=>gm h14 fun h6=>gq (.nsq (.ret ?_)))))
   obtain rfl:=oi h
   exact rrA (zf h6) rfl
 iterate 3 refine zw (ct h10 hg4) ?_
 refine g2 10 13 (jb false) (ct h10 hg4) (rf (.tup [])) fun h14=>gm h14 fun h6=>gq (.nsq (.ret ?_))
 obtain rfl:=oi h
 exact rrA (zf h6) rfl
end
def e61 (F:Nat):Ent:=ent 61 (fun (x:(Int×Int×Int×Unit))=>Wo F x.1 x.2.1 x.2.2.1) (fun (r:Bool)=>(Enc.enc (r:Bool))) 0 false []
abbrev C61 (D:List V→Option V) (F:Nat):Prop:=∀ (x0:Int) (x1:Int) (x2:Int) r,Wo F x0 x1 x2=some r→D [Enc.enc x0,Enc.enc x1,Enc.enc x2]=some (Enc.enc (r:Bool))
theorem p61 {F:Nat}:C61 (e61 F).den F:=fun x0 x1 x2 _ h=>zK (x0,x1,x2,()) h
theorem o61 (hF:zr Try.prog D σ) (H:H61 D σ F):(e61 F).Ok Try.prog:=okZ (f:=61) Try.func61 fun ⟨x0,x1,x2,_⟩ y hy=>cR hF Try.func61 c61 (t61 H x0 x1 x2 _ ⟨rfl,rfl,rfl⟩ hy)
def zqp:AC:=(.cond (.t 9) .skip (.exit 0))
def zlj:AC:=(.cond (.t 54) (.seq (rr [jv 2 (.mov kf)]) .ret) .skip)
def zo0:AC:=(.seq (rr [jv 17 (.idxA (.t 4) (jn 0) 2 1),jl 18 17,jv 19 (.fld (.t 1) 0 0),jl 20 19,jv 21 (.bin .sub (.t 20) (jn 1)),jx 22 (.call (jf 61) [.t 18,jn 0,.t 21]),jv 23 (.un .not (.t 22)),jm 24 23,jg 25 24 false (.idxA (.t 4) (jn 1) 2 1),jg 26 24 false (.load .s (.t 25)),jg 27 24 false (.fld (.t 1) 0 0),jg 28 24 false (.load .s (.t 27)),jg 29 24 false (.bin .sub (.t 28) (jn 1)),.mk (some 30) (some (24,false)) false (.call (jf 61) [.t 26,jn 0,.t 29]),jg 31 24 false (.un .not (.t 30)),jv 32 (.pick (.t 24) kt (.t 31)),jm 33 32,jg 34 33 false (.idxA (.t 4) (jn 0) 2 1),jg 35 33 false (.load .s (.t 34)),jg 36 33 false (.idxA (.t 4) (jn 1) 2 1),jg 37 33 false (.load .s (.t 36)),jg 38 33 false (.bin .geq (.t 35) (.t 37)),jv 39 (.pick (.t 33) kt (.t 38)),jm 40 39,jg 41 40 false (.mov (.t 3)),jg 42 40 false (.bin .gtr (.t 41) (jn 0)),jg 43 40 false (.mov (.t 42)),jg 44 43 true (.fld (.t 1) 1 1),jg 45 43 true (.load .p (.t 44)),jg 46 43 true (.mov (.t 3)),jg 47 43 true (.bin .sub (.t 46) (jn 1)),jg 48 43 true (.idx (.t 45) (.t 47) 2),jg 49 43 true (.load (.ag [.s,.s]) (.t 48)),jg 50 43 true (.load (.ag [.s,.s]) (.t 4)),.mk (some 51) (some (43,true)) false (.call (jf 62) [.t 49,.t 50]),jg 52 43 true (.un .not (.t 51)),jg 53 40 false (.pick (.t 43) (.t 52) kf),jv 54 (.pick (.t 40) kt (.t 53))]) zlj)
def zlh:AC:=(rr [jm 10 3,jv 11 (.bin .add (.t 10) (jn 1)),jm 3 11])
def ztv:AC:=(.seq (.block 1 (.seq (.reg [.clr [4]] [jv 12 (.fld (.t 1) 1 1),jv 13 (.load .p (.t 12)),jm 14 3,jv 15 (.idx (.t 13) (.t 14) 2),jv 16 (.load (.ag [.s,.s]) (.t 15)),jx 4 (.alloc (.agg [i0,i0])),jz (.store (.ag [.s,.s]) (.t 4) (.t 16))] []) zo0)) zlh)
def Qo:AC:=(.seq (.seq (rr [jm 5 3,jv 6 (.fld (.t 1) 1 1),jv 7 (.load .p (.t 6)),jk 8 7,jv 9 (.bin .lss (.t 5) (.t 8))]) zqp) ztv)
def zfN:AC:=(.seq (rr [jv 55 (.fld (.t 1) 0 0),jl 56 55,jx 57 (.call (jf 61) [.t 56,jn 0,jn 8]),jm 2 57]) .ret)
def zps:AC:=(.block 0 (.loop Qo))
def zqv:AC:=(.seq (.seq (rr [jv 3 (.mov (jn 0))]) zps) zfN)
def A33:AC:=(.seq (.reg [.clr [1]] [jx 1 (.box (.t 0)),jv 2 (.mov kf)] []) zqv)
def zvP:List An:=[⟨0,[.clr [1]],[],[],[]⟩,⟨4,[.clr [4]],[],[],[]⟩]
theorem c33:cq Try.prog Try.f33 zvP=some A33:=by kernel_rfl
structure H33 (D:Den) (σ:Sig) (F:Nat):Prop where
 c61:C61 (D 61) F
 g61:σ 61=some (0,false)
 c62:C62 (D 62) F
 g62:σ 62=some (0,false)
abbrev R33 (r:Bool):(Nat→V)→Prop:=RR Try.prog [.tmp 2] 0 false (Enc.enc (r:Bool))
section
variable {r:Bool}
def ul (F:Nat) (x1:GR) (x12:Int) (c1:Int→Option Bool) (x28:Bool):Option Bool:=
 bif x28 then
  some false
 else
  c1 (w64 (x12 + 1))
theorem Uz (H:H33 D σ F) (x1:GR) (x12:Int) (c1:Int→Option Bool) (Hc1:∀ (x12:Int) (s:Nat→V),zk [(1,bG 1 x1),(2,jb false),(3,ji x12)] s→c1 x12=some r→Run D σ (R33 r) (.run Qo [.lp Qo,.bk 0,.sq zfN]) s) (x28:Bool) (s:Nat→V) (hs:zk [(1,bG 1 x1),(2,jb false),(3,ji x12),(54,jb x28)] s) (h:ul F x1 x12 c1 x28=some r):Run D σ (R33 r) (.nrm [.sq zlj,.bk 1,.sq zlh,.lp Qo,.bk 0,.sq zfN]) s:=by
 unfold ul at h
 obtain ⟨h1,h2,h3,h54⟩:=hs
 refine .nsq (zg h54 h (fun h=>?_) (fun h=>?_))
 · refine .seq (rg (g0 (jb false) fun h2=>gq (.nsq (.ret ?_))))
   obtain rfl:=oi h
   exact rrA (zf h2) rfl
 refine .skip (.nbk (.nsq (rg (gm h3 fun h10=>g1 10 (ji (w64 (x12 + 1))) h10 fun h11=>gm h11 fun h3=>gq (.nlp ?_)))))
 exact Hc1 (w64 (x12 + 1)) _ ⟨h1,h2,h3⟩ h
def xi (F:Nat) (x1:GR) :Nat→Int→Option Bool
 | 0,_=>none
 | k + 1,x12=>
   bif decide (x12 < (x1.2.length:Int)) then
    (idx x1.2 x12).bind fun v23=>
    (Wo F v23.1 0 (w64 (x1.1 - 1))).bind fun r29=>
    bif (!r29) then
     ul F x1 x12 (xi F x1 k) true
    else
     (Wo F v23.2 0 (w64 (x1.1 - 1))).bind fun r30=>
     bif (!r30) then
      ul F x1 x12 (xi F x1 k) true
     else
      bif decide (v23.1≥v23.2) then
       ul F x1 x12 (xi F x1 k) true
      else
       bif decide (x12 > 0) then
        (idx x1.2 (w64 (x12 - 1))).bind fun v31=>
        (u6 F v31 v23).bind fun r32=>
        ul F x1 x12 (xi F x1 k) (!r32)
       else
        ul F x1 x12 (xi F x1 k) false
   else
    (Wo F x1.1 0 8).bind fun r33=>
    some r33
theorem zie (H:H33 D σ F) (x1:GR) :∀ (k:Nat) (x12:Int) (s:Nat→V),zk [(1,bG 1 x1),(2,jb false),(3,ji x12)] s→xi F x1 k x12=some r→Run D σ (R33 r) (.run Qo [.lp Qo,.bk 0,.sq zfN]) s:=by
 intro k
 induction k with
 | zero=>intro x12 s _ h;exact nm h
 | succ k ih=>
   intro x12 s hs h
   rw [xi] at h
   obtain ⟨h1,h2,h3⟩:=hs
   refine .seq (.seq (rg (gm h3 fun h5=>g1 1 (.ref (.bx 1) 0 [1] (eP x1.2)) h1 fun h6=>g1 6 (eP x1.2) h6 fun h7=>gl x1.2 h7 fun h8=>g2 5 8 (jb (decide (x12 < (x1.2.length:Int)))) h5 h8 fun h9=>gq (.nsq (zg h9 h (fun h=>?_) (fun h=>?_))))))
   · refine .skip (.nsq (.seq (.block (.seq (zo (zT ?_))))))
     refine ez [(1,_),(2,_),(3,_),(4,_)] ⟨za h1 rfl (zi rfl mIE),za h2 rfl mb,za h3 rfl mi,zb rfl⟩ ?_
     rintro s ⟨h1,h2,h3,h4⟩
     refine g1 1 (.ref (.bx 1) 0 [1] (eP x1.2)) h1 fun h12=>g1 12 (eP x1.2) h12 fun h13=>gm h3 fun h14=>?_
     obtain ⟨v23,Ev23,h⟩:=bind_some h
     refine gv (.ref .sh 0 [] (.agg [ji v23.1,ji v23.2])) (yq (t:=.sh) (lo:=0) (xs:=x1.2) h13 h14 Ev23 rfl rfl) fun h15=>g1 15 (.agg [ji v23.1,ji v23.2]) h15 fun h16=>wk h4 (yd (.agg [ji v23.1,ji v23.2]) (zx rfl rfl) (zx h16 rfl) (ww (by first | rfl | simp [V.toks,V.tokss,Enc.toks_enc,ya])) (gz [(1,bG 1 x1),(2,jb false),(3,ji x12),(4,.ref (.bx 4) 0 [] (.agg [ji v23.1,ji v23.2]))] ⟨zd h1 (zH rfl rfl uIE),zd h2 rfl,zd h3 rfl,zd rfl rfl⟩ ?_))
     rintro s ⟨h1,h2,h3,h4⟩
     refine .nsq (.seq (rg (g1 4 (.ref (.bx 4) 0 [0] (ji v23.1)) h4 fun h17=>g1 17 (ji v23.1) h17 fun h18=>g1 1 (.ref (.bx 1) 0 [0] (ji x1.1)) h1 fun h19=>g1 19 (ji x1.1) h19 fun h20=>g1 20 (ji (w64 (x1.1 - 1))) h20 fun h21=>?_)))
     obtain ⟨r29,Er29,h⟩:=bind_some h
     refine zy (m:=0) (al:=false) (r:=Enc.enc (r29:Bool)) [Enc.enc (v23.1:Int),Enc.enc (0:Int),Enc.enc (w64 (x1.1 - 1):Int)] (zc (v:=ji v23.1) h18 rfl rfl (zc (v:=ji 0) rfl rfl rfl (zc (v:=ji (w64 (x1.1 - 1))) h21 rfl rfl zp))) (H.c61 _ _ _ _ Er29) H.g61 rfl rfl rfl rfl (g1 22 (jb (!r29)) (rf (jb r29)) fun h23=>gm h23 fun h24=>zU h (fun hg8 h=>?_) (fun hg8 h=>?_))
     · iterate 7 refine zw (ct h24 hg8) ?_
       refine g2 24 31 (jb true) (ct h24 hg8) (rf (.tup [])) fun h32=>gm h32 fun h33=>zw h33 ?_
       iterate 4 refine zw h33 ?_
       refine g2 33 38 (jb true) h33 (rf (.tup [])) fun h39=>gm h39 fun h40=>zw h40 ?_
       iterate 2 refine zw h40 ?_
       iterate 9 refine ZV rfl ?_
       refine zw h40 (g2 40 53 (jb true) h40 (rf (.tup [])) fun h54=>gz [(1,_),(2,_),(3,_),(54,_)] ⟨h1,h2,h3,h54⟩ ?_)
       rintro s ⟨h1,h2,h3,h54⟩
       exact Uz H x1 x12 (xi F x1 k) ih true _ ⟨h1,h2,h3,h54⟩ h
     refine zh (ct h24 hg8) (g1 4 (.ref (.bx 4) 0 [1] (ji v23.2)) h4 fun h25=>zh (ct h24 hg8) (g1 25 (ji v23.2) h25 fun h26=>zh (ct h24 hg8) (g1 1 (.ref (.bx 1) 0 [0] (ji x1.1)) h1 fun h27=>zh (ct h24 hg8) (g1 27 (ji x1.1) h27 fun h28=>zh (ct h24 hg8) (g1 28 (ji (w64 (x1.1 - 1))) h28 fun h29=>?_)))))
     obtain ⟨r30,Er30,h⟩:=bind_some h
     refine zh (ct h24 hg8) (zy (m:=0) (al:=false) (r:=Enc.enc (r30:Bool)) [Enc.enc (v23.2:Int),Enc.enc (0:Int),Enc.enc (w64 (x1.1 - 1):Int)] (zc (v:=ji v23.2) h26 rfl rfl (zc (v:=ji 0) rfl rfl rfl (zc (v:=ji (w64 (x1.1 - 1))) h29 rfl rfl zp))) (H.c61 _ _ _ _ Er30) H.g61 rfl rfl rfl rfl (zh (ct h24 hg8) (g1 30 (jb (!r30)) (rf (jb r30)) fun h31=>g2 24 31 (jb (!r30)) (ct h24 hg8) h31 fun h32=>gm h32 fun h33=>zU h (fun hg17 h=>?_) (fun hg17 h=>?_))))
     · iterate 5 refine zw (ct h33 hg17) ?_
       refine g2 33 38 (jb true) (ct h33 hg17) (rf (.tup [])) fun h39=>gm h39 fun h40=>zw h40 ?_
       iterate 2 refine zw h40 ?_
       iterate 9 refine ZV rfl ?_
       refine zw h40 (g2 40 53 (jb true) h40 (rf (.tup [])) fun h54=>gz [(1,_),(2,_),(3,_),(54,_)] ⟨h1,h2,h3,h54⟩ ?_)
       rintro s ⟨h1,h2,h3,h54⟩
       exact Uz H x1 x12 (xi F x1 k) ih true _ ⟨h1,h2,h3,h54⟩ h
     refine zh (ct h33 hg17) (g1 4 (.ref (.bx 4) 0 [0] (ji v23.1)) h4 fun h34=>zh (ct h33 hg17) (g1 34 (ji v23.1) h34 fun h35=>zh (ct h33 hg17) (g1 4 (.ref (.bx 4) 0 [1] (ji v23.2)) h4 fun h36=>zh (ct h33 hg17) (g1 36 (ji v23.2) h36 fun h37=>zh (ct h33 hg17) (g2 35 37 (jb (decide (v23.1≥v23.2))) h35 h37 fun h38=>g2 33 38 (jb (decide (v23.1≥v23.2))) (ct h33 hg17) h38 fun h39=>gm h39 fun h40=>zU h (fun hg24 h=>?_) (fun hg24 h=>?_))))))
     · iterate 3 refine zw (ct h40 hg24) ?_
       iterate 9 refine ZV rfl ?_
       refine zw (ct h40 hg24) (g2 40 53 (jb true) (ct h40 hg24) (rf (.tup [])) fun h54=>gz [(1,_),(2,_),(3,_),(54,_)] ⟨h1,h2,h3,h54⟩ ?_)
       rintro s ⟨h1,h2,h3,h54⟩
       exact Uz H x1 x12 (xi F x1 k) ih true _ ⟨h1,h2,h3,h54⟩ h
     refine zh (ct h40 hg24) (gm h3 fun h41=>zh (ct h40 hg24) (g1 41 (jb (decide (x12 > 0))) h41 fun h42=>zh (ct h40 hg24) (gm h42 fun h43=>zU h (fun hg27 h=>?_) (fun hg27 h=>?_))))
     · refine zh (ct h43 hg27) (g1 1 (.ref (.bx 1) 0 [1] (eP x1.2)) h1 fun h44=>zh (ct h43 hg27) (g1 44 (eP x1.2) h44 fun h45=>zh (ct h43 hg27) (gm h3 fun h46=>zh (ct h43 hg27) (g1 46 (ji (w64 (x12 - 1))) h46 fun h47=>?_))))
       obtain ⟨v31,Ev31,h⟩:=bind_some h
       refine zh (ct h43 hg27) (gv (.ref .sh 0 [] (.agg [ji v31.1,ji v31.2])) (yq (t:=.sh) (lo:=0) (xs:=x1.2) h45 h47 Ev31 rfl rfl) fun h48=>zh (ct h43 hg27) (g1 48 (.agg [ji v31.1,ji v31.2]) h48 fun h49=>zh (ct h43 hg27) (g1 4 (.agg [ji v23.1,ji v23.2]) h4 fun h50=>?_)))
       obtain ⟨r32,Er32,h⟩:=bind_some h
       refine zh (ct h43 hg27) (zy (m:=0) (al:=false) (r:=Enc.enc (r32:Bool)) [Enc.enc (v31:(Int×Int)),Enc.enc (v23:(Int×Int))] (zc (v:=.agg [ji v31.1,ji v31.2]) h49 rfl (Enc.erase_enc (v31:(Int×Int))) (zc (v:=.agg [ji v23.1,ji v23.2]) h50 rfl (Enc.erase_enc (v23:(Int×Int))) zp)) (H.c62 _ _ _ Er32) H.g62 rfl rfl rfl rfl (zh (ct h43 hg27) (g1 51 (jb (!r32)) (rf (jb r32)) fun h52=>zh (ct h40 hg24) (g2 43 52 (jb (!r32)) (ct h43 hg27) h52 fun h53=>g2 40 53 (jb (!r32)) (ct h40 hg24) h53 fun h54=>gz [(1,_),(2,_),(3,_),(54,_)] ⟨h1,h2,h3,h54⟩ ?_))))
       rintro s ⟨h1,h2,h3,h54⟩
       exact Uz H x1 x12 (xi F x1 k) ih (!r32) _ ⟨h1,h2,h3,h54⟩ h
     iterate 9 refine zw (ct h43 hg27) ?_
     refine zh (ct h40 hg24) (g2 43 52 (jb false) (ct h43 hg27) (rf (.tup [])) fun h53=>g2 40 53 (jb false) (ct h40 hg24) h53 fun h54=>gz [(1,_),(2,_),(3,_),(54,_)] ⟨h1,h2,h3,h54⟩ ?_)
     rintro s ⟨h1,h2,h3,h54⟩
     exact Uz H x1 x12 (xi F x1 k) ih false _ ⟨h1,h2,h3,h54⟩ h
   refine .exit (.esq (.elp (.ebk (.nsq (.seq (rg (g1 1 (.ref (.bx 1) 0 [0] (ji x1.1)) h1 fun h55=>g1 55 (ji x1.1) h55 fun h56=>?_)))))))
   obtain ⟨r33,Er33,h⟩:=bind_some h
   refine zy (m:=0) (al:=false) (r:=Enc.enc (r33:Bool)) [Enc.enc (x1.1:Int),Enc.enc (0:Int),Enc.enc (8:Int)] (zc (v:=ji x1.1) h56 rfl rfl (zc (v:=ji 0) rfl rfl rfl (zc (v:=ji 8) rfl rfl rfl zp))) (H.c61 _ _ _ _ Er33) H.g61 rfl rfl rfl rfl (gm (rf (jb r33)) fun h2=>gq (.nsq (.ret ?_)))
   obtain rfl:=oi h
   exact rrA (zf h2) rfl
def uK (F:Nat) (x1:GR):Option Bool:=
 xi F x1 F 0
theorem t33 (H:H33 D σ F) (x1:GR) (s:Nat→V) (hs:zk [(0,gV x1)] s) (h:uK F x1=some r):Run D σ (R33 r) (.run A33 []) s:=by
 unfold uK at h
 have h0:=hs
 refine .seq (zo (zT ?_))
 refine ez [(0,_),(1,_)] ⟨za h0 rfl mIE,zb rfl⟩ ?_
 rintro s ⟨h0,h1⟩
 refine xo (gV x1) (zx h0 rfl) h1 rfl (g0 (jb false) fun h2=>gq (.nsq (.seq (.seq (rg (g0 (ji 0) fun h3=>gq (.nsq (.block (.loop ?_)))))))))
 exact zie H x1 F 0 _ ⟨rfl,h2,h3⟩ h
end
def e33 (F:Nat):Ent:=ent 33 (fun (x:(GR×Unit))=>uK F x.1) (fun (r:Bool)=>(Enc.enc (r:Bool))) 0 false []
abbrev C33 (D:List V→Option V) (F:Nat):Prop:=∀ (x0:GR) r,uK F x0=some r→D [Enc.enc x0]=some (Enc.enc (r:Bool))
theorem p33 {F:Nat}:C33 (e33 F).den F:=fun x0 _ h=>zK (x0,()) h
theorem o33 (hF:zr Try.prog D σ) (H:H33 D σ F):(e33 F).Ok Try.prog:=okZ (f:=33) Try.func33 fun ⟨x0,_⟩ y hy=>cR hF Try.func33 c33 (t33 H x0 _ rfl hy)
def zo4:AC:=(.cond (.t 9) .skip (.exit 0))
def ztB:AC:=(.cond (.t 17) (.seq (rr [jv 4 (.mov kt)]) .ret) .skip)
def ztU:AC:=(rr [jm 10 5,jv 11 (.bin .add (.t 10) (jn 1)),jm 5 11])
def zss:AC:=(.seq (.block 1 (.seq (rr [jm 12 0,jm 13 5,jv 14 (.idx (.t 12) (.t 13) 1),jl 15 14,jm 16 1,jv 17 (.bin .eql (.t 15) (.t 16))]) ztB)) ztU)
def zgP:AC:=(.seq (.seq (rr [jm 6 5,jm 7 0,jk 8 7,jv 9 (.bin .lss (.t 6) (.t 8))]) zo4) zss)
def zlD:AC:=(.seq (rr [jv 4 (.mov kf)]) .ret)
def zp5:AC:=(.block 0 (.loop zgP))
def zqR:AC:=(.seq (.seq (rr [jv 5 (.mov (jn 0))]) zp5) zlD)
def A64:AC:=(.seq (rr [jv 4 (.mov kf)]) zqR)
def zwp:List An:=[]
theorem c64:cq Try.prog Try.f64 zwp=some A64:=by kernel_rfl
structure H64 (D:Den) (σ:Sig) (F:Nat):Prop where
 mk ::
abbrev R64 (r:Bool):(Nat→V)→Prop:=RR Try.prog [.tmp 4] 0 false (Enc.enc (r:Bool))
section
variable {r:Bool}
def ZT (F:Nat) (x1:LI) (x2:Int) :Nat→Int→Option Bool
 | 0,_=>none
 | k + 1,x4=>
   bif decide (x4 < (x1.length:Int)) then
    (idx x1 x4).bind fun v6=>
    bif (v6 == x2) then
     some true
    else
     (ZT F x1 x2 k) (w64 (x4 + 1))
   else
    some false
theorem zg7 (H:H64 D σ F) (x1:LI) (x2:Int) :∀ (k:Nat) (x4:Int) (s:Nat→V),zk [(0,eL x1),(1,ji x2),(4,jb false),(5,ji x4)] s→ZT F x1 x2 k x4=some r→Run D σ (R64 r) (.run zgP [.lp zgP,.bk 0,.sq zlD]) s:=by
 intro k
 induction k with
 | zero=>intro x4 s _ h;exact nm h
 | succ k ih=>
   intro x4 s hs h
   rw [ZT] at h
   obtain ⟨h0,h1,h4,h5⟩:=hs
   refine .seq (.seq (rg (gm h5 fun h6=>gm h0 fun h7=>gl x1 h7 fun h8=>g2 6 8 (jb (decide (x4 < (x1.length:Int)))) h6 h8 fun h9=>gq (.nsq (zg h9 h (fun h=>?_) (fun h=>?_))))))
   · refine .skip (.nsq (.seq (.block (.seq (rg (gm h0 fun h12=>gm h5 fun h13=>?_))))))
     obtain ⟨v6,Ev6,h⟩:=bind_some h
     refine gv (.ref .sh 0 [] (ji v6)) (yq (t:=.sh) (lo:=0) (xs:=x1) h12 h13 Ev6 rfl rfl) fun h14=>g1 14 (ji v6) h14 fun h15=>gm h1 fun h16=>g2 15 16 (jb (v6 == x2)) h15 h16 fun h17=>gq (.nsq (zg h17 h (fun h=>?_) (fun h=>?_)))
     · refine .seq (rg (g0 (jb true) fun h4=>gq (.nsq (.ret ?_))))
       obtain rfl:=oi h
       exact rrA (zf h4) rfl
     refine .skip (.nbk (.nsq (rg (gm h5 fun h10=>g1 10 (ji (w64 (x4 + 1))) h10 fun h11=>gm h11 fun h5=>gq (.nlp ?_)))))
     exact ih (w64 (x4 + 1)) _ ⟨h0,h1,h4,h5⟩ h
   refine .exit (.esq (.elp (.ebk (.nsq (.seq (rg (g0 (jb false) fun h4=>gq (.nsq (.ret ?_)))))))))
   obtain rfl:=oi h
   exact rrA (zf h4) rfl
def vz (F:Nat) (x1:LI) (x2:Int):Option Bool:=
 ZT F x1 x2 F 0
theorem t64 (H:H64 D σ F) (x1:LI) (x2:Int) (s:Nat→V) (hs:zk [(0,eL x1),(1,ji x2)] s) (h:vz F x1 x2=some r):Run D σ (R64 r) (.run A64 []) s:=by
 unfold vz at h
 obtain ⟨h0,h1⟩:=hs
 refine .seq (rg (g0 (jb false) fun h4=>gq (.nsq (.seq (.seq (rg (g0 (ji 0) fun h5=>gq (.nsq (.block (.loop ?_))))))))))
 exact zg7 H x1 x2 F 0 _ ⟨h0,h1,h4,h5⟩ h
end
def e64 (F:Nat):Ent:=ent 64 (fun (x:(LI×Int×Unit))=>vz F x.1 x.2.1) (fun (r:Bool)=>(Enc.enc (r:Bool))) 0 false []
abbrev C64 (D:List V→Option V) (F:Nat):Prop:=∀ (x0:LI) (x1:Int) r,vz F x0 x1=some r→D [Enc.enc x0,Enc.enc x1]=some (Enc.enc (r:Bool))
theorem p64 {F:Nat}:C64 (e64 F).den F:=fun x0 x1 _ h=>zK (x0,x1,()) h
theorem o64 (hF:zr Try.prog D σ) (H:H64 D σ F):(e64 F).Ok Try.prog:=okZ (f:=64) Try.func64 fun ⟨x0,x1,_⟩ y hy=>cR hF Try.func64 c64 (t64 H x0 x1 _ ⟨rfl,rfl⟩ hy)
def zqV:AC:=(.cond (.t 9) .skip (.exit 0))
def zr0:AC:=(.cond (.t 15) (.seq (rr [jv 4 (.mov kf)]) .ret) .skip)
def zrI:AC:=(rr [jm 10 5,jv 11 (.bin .add (.t 10) (jn 1)),jm 5 11])
def zur:AC:=(.seq (.block 1 (.seq (rr [jm 12 1,jm 13 5,jx 14 (.call (jf 64) [.t 12,.t 13]),jv 15 (.un .not (.t 14))]) zr0)) zrI)
def zhf:AC:=(.seq (.seq (rr [jm 6 5,jv 7 (.fld (.t 2) 0 0),jl 8 7,jv 9 (.bin .lss (.t 6) (.t 8))]) zqV) zur)
def zl1:AC:=(.seq (rr [jm 16 1,jk 17 16,jv 18 (.fld (.t 2) 0 0),jl 19 18,jv 20 (.bin .eql (.t 17) (.t 19)),jm 4 20]) .ret)
def zrU:AC:=(.block 0 (.loop zhf))
def zqN:AC:=(.seq (.seq (rr [jv 5 (.mov (jn 0))]) zrU) zl1)
def A55:AC:=(.seq (.reg [.clr [2]] [jx 2 (.box (.t 0)),jv 4 (.mov kf)] []) zqN)
def zvO:List An:=[⟨0,[.clr [2]],[],[],[]⟩]
theorem c55:cq Try.prog Try.f55 zvO=some A55:=by kernel_rfl
structure H55 (D:Den) (σ:Sig) (F:Nat):Prop where
 c64:C64 (D 64) F
 g64:σ 64=some (0,false)
abbrev R55 (r:Bool):(Nat→V)→Prop:=RR Try.prog [.tmp 4] 0 false (Enc.enc (r:Bool))
section
variable {r:Bool}
def uY (F:Nat) (x2:LI) (x1:GR) :Nat→Int→Option Bool
 | 0,_=>none
 | k + 1,x4=>
   bif decide (x4 < x1.1) then
    (vz F x2 x4).bind fun r6=>
    bif (!r6) then
     some false
    else
     (uY F x2 x1 k) (w64 (x4 + 1))
   else
    some ((x2.length:Int) == x1.1)
theorem zi9 (H:H55 D σ F) (x2:LI) (x1:GR) :∀ (k:Nat) (x4:Int) (s:Nat→V),zk [(1,eL x2),(2,bG 2 x1),(4,jb false),(5,ji x4)] s→uY F x2 x1 k x4=some r→Run D σ (R55 r) (.run zhf [.lp zhf,.bk 0,.sq zl1]) s:=by
 intro k
 induction k with
 | zero=>intro x4 s _ h;exact nm h
 | succ k ih=>
   intro x4 s hs h
   rw [uY] at h
   obtain ⟨h1,h2,h4,h5⟩:=hs
   refine .seq (.seq (rg (gm h5 fun h6=>g1 2 (.ref (.bx 2) 0 [0] (ji x1.1)) h2 fun h7=>g1 7 (ji x1.1) h7 fun h8=>g2 6 8 (jb (decide (x4 < x1.1))) h6 h8 fun h9=>gq (.nsq (zg h9 h (fun h=>?_) (fun h=>?_))))))
   · refine .skip (.nsq (.seq (.block (.seq (rg (gm h1 fun h12=>gm h5 fun h13=>?_))))))
     obtain ⟨r6,Er6,h⟩:=bind_some h
     refine zy (m:=0) (al:=false) (r:=Enc.enc (r6:Bool)) [eL x2,Enc.enc (x4:Int)] (zc (v:=eL x2) h12 rfl (Enc.erase_enc (x2:LI)) (zc (v:=ji x4) h13 rfl rfl zp)) (H.c64 _ _ _ Er6) H.g64 rfl rfl rfl rfl (g1 14 (jb (!r6)) (rf (jb r6)) fun h15=>gq (.nsq (zg h15 h (fun h=>?_) (fun h=>?_))))
     · refine .seq (rg (g0 (jb false) fun h4=>gq (.nsq (.ret ?_))))
       obtain rfl:=oi h
       exact rrA (zf h4) rfl
     refine .skip (.nbk (.nsq (rg (gm h5 fun h10=>g1 10 (ji (w64 (x4 + 1))) h10 fun h11=>gm h11 fun h5=>gq (.nlp ?_)))))
     exact ih (w64 (x4 + 1)) _ ⟨h1,h2,h4,h5⟩ h
   refine .exit (.esq (.elp (.ebk (.nsq (.seq (rg (gm h1 fun h16=>gl x2 h16 fun h17=>g1 2 (.ref (.bx 2) 0 [0] (ji x1.1)) h2 fun h18=>g1 18 (ji x1.1) h18 fun h19=>g2 17 19 (jb ((x2.length:Int) == x1.1)) h17 h19 fun h20=>gm h20 fun h4=>gq (.nsq (.ret ?_)))))))))
   obtain rfl:=oi h
   exact rrA (zf h4) rfl
def XG (F:Nat) (x1:GR) (x2:LI):Option Bool:=
 uY F x2 x1 F 0
theorem t55 (H:H55 D σ F) (x1:GR) (x2:LI) (s:Nat→V) (hs:zk [(0,gV x1),(1,eL x2)] s) (h:XG F x1 x2=some r):Run D σ (R55 r) (.run A55 []) s:=by
 unfold XG at h
 obtain ⟨h0,h1⟩:=hs
 refine .seq (zo (zT ?_))
 refine ez [(0,_),(1,_),(2,_)] ⟨za h0 rfl mIE,za h1 rfl me,zb rfl⟩ ?_
 rintro s ⟨h0,h1,h2⟩
 refine xo (gV x1) (zx h0 rfl) h2 rfl (g0 (jb false) fun h4=>gq (.nsq (.seq (.seq (rg (g0 (ji 0) fun h5=>gq (.nsq (.block (.loop ?_)))))))))
 exact zi9 H x2 x1 F 0 _ ⟨h1,rfl,h4,h5⟩ h
end
def e55 (F:Nat):Ent:=ent 55 (fun (x:(GR×LI×Unit))=>XG F x.1 x.2.1) (fun (r:Bool)=>(Enc.enc (r:Bool))) 0 false []
abbrev C55 (D:List V→Option V) (F:Nat):Prop:=∀ (x0:GR) (x1:LI) r,XG F x0 x1=some r→D [Enc.enc x0,Enc.enc x1]=some (Enc.enc (r:Bool))
theorem p55 {F:Nat}:C55 (e55 F).den F:=fun x0 x1 _ h=>zK (x0,x1,()) h
theorem o55 (hF:zr Try.prog D σ) (H:H55 D σ F):(e55 F).Ok Try.prog:=okZ (f:=55) Try.func55 fun ⟨x0,x1,_⟩ y hy=>cR hF Try.func55 c55 (t55 H x0 x1 _ ⟨rfl,rfl⟩ hy)
def zpV:AC:=(.seq (rr [jv 5 (.load (.ag [.s,.p]) (.t 2)),jx 6 (.call (jf 33) [.t 5]),jm 7 6,jg 8 7 true (.load (.ag [.s,.p]) (.t 2)),jg 9 7 true (.mov (.t 1)),.mk (some 10) (some (7,true)) false (.call (jf 55) [.t 8,.t 9]),jv 11 (.pick (.t 7) (.t 10) kf),jm 4 11]) .ret)
def A26:AC:=(.seq (.reg [.clr [2]] [jx 2 (.box (.t 0)),jv 4 (.mov kf)] []) zpV)
def zuP:List An:=[⟨0,[.clr [2]],[],[],[]⟩]
theorem c26:cq Try.prog Try.f26 zuP=some A26:=by kernel_rfl
structure H26 (D:Den) (σ:Sig) (F:Nat):Prop where
 c33:C33 (D 33) F
 g33:σ 33=some (0,false)
 c55:C55 (D 55) F
 g55:σ 55=some (0,false)
abbrev R26 (r:Bool):(Nat→V)→Prop:=RR Try.prog [.tmp 4] 0 false (Enc.enc (r:Bool))
section
variable {r:Bool}
def vT (F:Nat) (x1:GR) (x2:LI):Option Bool:=
 (uK F x1).bind fun r3=>
 bif r3 then
  (XG F x1 x2).bind fun r4=>
  some r4
 else
  some false
theorem t26 (H:H26 D σ F) (x1:GR) (x2:LI) (s:Nat→V) (hs:zk [(0,gV x1),(1,eL x2)] s) (h:vT F x1 x2=some r):Run D σ (R26 r) (.run A26 []) s:=by
 unfold vT at h
 obtain ⟨h0,h1⟩:=hs
 refine .seq (zo (zT ?_))
 refine ez [(0,_),(1,_),(2,_)] ⟨za h0 rfl mIE,za h1 rfl me,zb rfl⟩ ?_
 rintro s ⟨h0,h1,h2⟩
 refine xo (gV x1) (zx h0 rfl) h2 rfl (g0 (jb false) fun h4=>gq (.nsq (.seq (rg (g1 2 (gV x1) (rf (bG 2 x1)) fun h5=>?_)))))
 obtain ⟨r3,Er3,h⟩:=bind_some h
 refine zy (m:=0) (al:=false) (r:=Enc.enc (r3:Bool)) [Enc.enc (x1:GR)] (zc (v:=gV x1) h5 rfl (Enc.erase_enc (x1:GR)) zp) (H.c33 _ _ Er3) H.g33 rfl rfl rfl rfl (gm (rf (jb r3)) fun h7=>zU h (fun hg3 h=>?_) (fun hg3 h=>?_))
 · refine zh (ct h7 hg3) (g1 2 (gV x1) (rf (bG 2 x1)) fun h8=>zh (ct h7 hg3) (gm h1 fun h9=>?_))
   obtain ⟨r4,Er4,h⟩:=bind_some h
   refine zh (ct h7 hg3) (zy (m:=0) (al:=false) (r:=Enc.enc (r4:Bool)) [Enc.enc (x1:GR),eL x2] (zc (v:=gV x1) h8 rfl (Enc.erase_enc (x1:GR)) (zc (v:=eL x2) h9 rfl (Enc.erase_enc (x2:LI)) zp)) (H.c55 _ _ _ Er4) H.g55 rfl rfl rfl rfl (g2 7 10 (jb r4) (ct h7 hg3) (rf (jb r4)) fun h11=>gm h11 fun h4=>gq (.nsq (.ret ?_))))
   obtain rfl:=oi h
   exact rrA (zf h4) rfl
 iterate 3 refine zw (ct h7 hg3) ?_
 refine g2 7 10 (jb false) (ct h7 hg3) (rf (.tup [])) fun h11=>gm h11 fun h4=>gq (.nsq (.ret ?_))
 obtain rfl:=oi h
 exact rrA (zf h4) rfl
end
def e26 (F:Nat):Ent:=ent 26 (fun (x:(GR×LI×Unit))=>vT F x.1 x.2.1) (fun (r:Bool)=>(Enc.enc (r:Bool))) 0 false []
abbrev C26 (D:List V→Option V) (F:Nat):Prop:=∀ (x0:GR) (x1:LI) r,vT F x0 x1=some r→D [Enc.enc x0,Enc.enc x1]=some (Enc.enc (r:Bool))
theorem p26 {F:Nat}:C26 (e26 F).den F:=fun x0 x1 _ h=>zK (x0,x1,()) h
theorem o26 (hF:zr Try.prog D σ) (H:H26 D σ F):(e26 F).Ok Try.prog:=okZ (f:=26) Try.func26 fun ⟨x0,x1,_⟩ y hy=>cR hF Try.func26 c26 (t26 H x0 x1 _ ⟨rfl,rfl⟩ hy)
def ztS:AC:=(.cond (.t 11) .skip (.exit 0))
def zsI:AC:=(.block 1 (rr [jm 12 5,jv 13 (.bin .add (.t 12) (jn 1)),jm 5 13]))
def zhc:AC:=(.seq (.seq (rr [jm 6 0,jm 7 5,jv 8 (.idx (.t 6) (.t 7) 1),jl 9 8,jm 10 1,jv 11 (.bin .neq (.t 9) (.t 10))]) ztS) zsI)
def zlt:AC:=(.seq (rr [jm 14 5,jm 4 14]) .ret)
def zoz:AC:=(.seq (.block 0 (.loop zhc)) zlt)
def ztR:AC:=(.seq (rr [jv 5 (.mov (jn 0))]) zoz)
def A56:AC:=(.seq (rr [jv 4 (.mov (jn 0))]) ztR)
def zuF:List An:=[]
theorem c56:cq Try.prog Try.f56 zuF=some A56:=by kernel_rfl
structure H56 (D:Den) (σ:Sig) (F:Nat):Prop where
 mk ::
abbrev R56 (r:Int):(Nat→V)→Prop:=RR Try.prog [.tmp 4] 0 false (Enc.enc (r:Int))
section
variable {r:Int}
def ux (F:Nat) (x1:LI) (x2:Int) :Nat→Int→Option Int
 | 0,_=>none
 | k + 1,x4=>
   (idx x1 x4).bind fun v6=>
   bif (v6 != x2) then
    (ux F x1 x2 k) (w64 (x4 + 1))
   else
    some x4
theorem zjH (H:H56 D σ F) (x1:LI) (x2:Int) :∀ (k:Nat) (x4:Int) (s:Nat→V),zk [(0,eL x1),(1,ji x2),(4,ji 0),(5,ji x4)] s→ux F x1 x2 k x4=some r→Run D σ (R56 r) (.run zhc [.lp zhc,.bk 0,.sq zlt]) s:=by
 intro k
 induction k with
 | zero=>intro x4 s _ h;exact nm h
 | succ k ih=>
   intro x4 s hs h
   rw [ux] at h
   obtain ⟨h0,h1,h4,h5⟩:=hs
   refine .seq (.seq (rg (gm h0 fun h6=>gm h5 fun h7=>?_)))
   obtain ⟨v6,Ev6,h⟩:=bind_some h
   refine gv (.ref .sh 0 [] (ji v6)) (yq (t:=.sh) (lo:=0) (xs:=x1) h6 h7 Ev6 rfl rfl) fun h8=>g1 8 (ji v6) h8 fun h9=>gm h1 fun h10=>g2 9 10 (jb (v6 != x2)) h9 h10 fun h11=>gq (.nsq (zg h11 h (fun h=>?_) (fun h=>?_)))
   · refine .skip (.nsq (.block (rg (gm h5 fun h12=>g1 12 (ji (w64 (x4 + 1))) h12 fun h13=>gm h13 fun h5=>gq (.nbk (.nlp ?_))))))
     exact ih (w64 (x4 + 1)) _ ⟨h0,h1,h4,h5⟩ h
   refine .exit (.esq (.elp (.ebk (.nsq (.seq (rg (gm h5 fun h14=>gm h14 fun h4=>gq (.nsq (.ret ?_)))))))))
   obtain rfl:=oi h
   exact rrA (zf h4) rfl
def Zl (F:Nat) (x1:LI) (x2:Int):Option Int:=
 ux F x1 x2 F 0
theorem t56 (H:H56 D σ F) (x1:LI) (x2:Int) (s:Nat→V) (hs:zk [(0,eL x1),(1,ji x2)] s) (h:Zl F x1 x2=some r):Run D σ (R56 r) (.run A56 []) s:=by
 unfold Zl at h
 obtain ⟨h0,h1⟩:=hs
 refine .seq (rg (g0 (ji 0) fun h4=>gq (.nsq (.seq (rg (g0 (ji 0) fun h5=>gq (.nsq (.seq (.block (.loop ?_))))))))))
 exact zjH H x1 x2 F 0 _ ⟨h0,h1,h4,h5⟩ h
end
def e56 (F:Nat):Ent:=ent 56 (fun (x:(LI×Int×Unit))=>Zl F x.1 x.2.1) (fun (r:Int)=>(Enc.enc (r:Int))) 0 false []
abbrev C56 (D:List V→Option V) (F:Nat):Prop:=∀ (x0:LI) (x1:Int) r,Zl F x0 x1=some r→D [Enc.enc x0,Enc.enc x1]=some (Enc.enc (r:Int))
theorem p56 {F:Nat}:C56 (e56 F).den F:=fun x0 x1 _ h=>zK (x0,x1,()) h
theorem o56 (hF:zr Try.prog D σ) (H:H56 D σ F):(e56 F).Ok Try.prog:=okZ (f:=56) Try.func56 fun ⟨x0,x1,_⟩ y hy=>cR hF Try.func56 c56 (t56 H x0 x1 _ ⟨rfl,rfl⟩ hy)
def zpU:AC:=(.cond (.t 13) .skip (.exit 0))
def zo2:AC:=(rr [jm 32 5,jm 33 7,jm 34 8,jv 35 (.bin .sub (.t 33) (.t 34)),jm 36 8,jm 37 7,jv 38 (.bin .sub (.t 36) (.t 37)),jx 39 (.call (jf 43) [.t 35,.t 38]),jx 40 (.call (jf 43) [.t 32,.t 39]),jm 5 40])
def ztD:AC:=(rr [jm 14 6,jv 15 (.bin .add (.t 14) (jn 1)),jm 6 15])
def zqb:AC:=(.seq (.block 1 (.seq (rr [jm 16 1,jv 17 (.fld (.t 2) 1 1),jv 18 (.load .p (.t 17)),jm 19 6,jv 20 (.idx (.t 18) (.t 19) 2),jv 21 (.idxA (.t 20) (jn 0) 2 1),jl 22 21,jx 23 (.call (jf 56) [.t 16,.t 22]),jm 24 1,jv 25 (.fld (.t 2) 1 1),jv 26 (.load .p (.t 25)),jm 27 6,jv 28 (.idx (.t 26) (.t 27) 2),jv 29 (.idxA (.t 28) (jn 1) 2 1),jl 30 29,jx 31 (.call (jf 56) [.t 24,.t 30]),jm 7 23,jm 8 31]) zo2)) ztD)
def zg4:AC:=(.seq (.seq (rr [jm 9 6,jv 10 (.fld (.t 2) 1 1),jv 11 (.load .p (.t 10)),jk 12 11,jv 13 (.bin .lss (.t 9) (.t 12))]) zpU) zqb)
def zl0:AC:=(.seq (rr [jm 41 5,jm 4 41]) .ret)
def zsk:AC:=(.block 0 (.loop zg4))
def zpO:AC:=(.seq (.seq (rr [jv 6 (.mov (jn 0))]) zsk) zl0)
def zoC:AC:=(.seq (rr [jv 5 (.mov (jn 0))]) zpO)
def A27:AC:=(.seq (.reg [.clr [2]] [jx 2 (.box (.t 0)),jv 4 (.mov (jn 0))] []) zoC)
def zuJ:List An:=[⟨0,[.clr [2]],[],[],[]⟩]
theorem c27:cq Try.prog Try.f27 zuJ=some A27:=by kernel_rfl
structure H27 (D:Den) (σ:Sig) (F:Nat):Prop where
 c56:C56 (D 56) F
 g56:σ 56=some (0,false)
 c43:C43 (D 43) F
 g43:σ 43=some (0,false)
abbrev R27 (r:Int):(Nat→V)→Prop:=RR Try.prog [.tmp 4] 0 false (Enc.enc (r:Int))
section
variable {r:Int}
def uo (F:Nat) (x2:LI) (x1:GR) :Nat→Int→Int→Option Int
 | 0,_,_=>none
 | k + 1,x9,x10=>
   bif decide (x10 < (x1.2.length:Int)) then
    (idx x1.2 x10).bind fun v17=>
    (Zl F x2 v17.1).bind fun r18=>
    (idx x1.2 x10).bind fun v19=>
    (Zl F x2 v19.2).bind fun r20=>
    (ua F (w64 (r18 - r20)) (w64 (r20 - r18))).bind fun r21=>
    (ua F x9 r21).bind fun r22=>
    (uo F x2 x1 k) r22 (w64 (x10 + 1))
   else
    some x9
theorem zhU (H:H27 D σ F) (x2:LI) (x1:GR) :∀ (k:Nat) (x9:Int) (x10:Int) (s:Nat→V),zk [(1,eL x2),(2,bG 2 x1),(4,ji 0),(5,ji x9),(6,ji x10)] s→uo F x2 x1 k x9 x10=some r→Run D σ (R27 r) (.run zg4 [.lp zg4,.bk 0,.sq zl0]) s:=by
 intro k
 induction k with
 | zero=>intro x9 x10 s _ h;exact nm h
 | succ k ih=>
   intro x9 x10 s hs h
   rw [uo] at h
   obtain ⟨h1,h2,h4,h5,h6⟩:=hs
   refine .seq (.seq (rg (gm h6 fun h9=>g1 2 (.ref (.bx 2) 0 [1] (eP x1.2)) h2 fun h10=>g1 10 (eP x1.2) h10 fun h11=>gl x1.2 h11 fun h12=>g2 9 12 (jb (decide (x10 < (x1.2.length:Int)))) h9 h12 fun h13=>gq (.nsq (zg h13 h (fun h=>?_) (fun h=>?_))))))
   · refine .skip (.nsq (.seq (.block (.seq (rg (gm h1 fun h16=>g1 2 (.ref (.bx 2) 0 [1] (eP x1.2)) h2 fun h17=>g1 17 (eP x1.2) h17 fun h18=>gm h6 fun h19=>?_))))))
     obtain ⟨v17,Ev17,h⟩:=bind_some h
     refine gv (.ref .sh 0 [] (.agg [ji v17.1,ji v17.2])) (yq (t:=.sh) (lo:=0) (xs:=x1.2) h18 h19 Ev17 rfl rfl) fun h20=>g1 20 (.ref .sh 0 [0] (ji v17.1)) h20 fun h21=>g1 21 (ji v17.1) h21 fun h22=>?_
     obtain ⟨r18,Er18,h⟩:=bind_some h
     refine zy (m:=0) (al:=false) (r:=Enc.enc (r18:Int)) [eL x2,Enc.enc (v17.1:Int)] (zc (v:=eL x2) h16 rfl (Enc.erase_enc (x2:LI)) (zc (v:=ji v17.1) h22 rfl rfl zp)) (H.c56 _ _ _ Er18) H.g56 rfl rfl rfl rfl (gm h1 fun h24=>g1 2 (.ref (.bx 2) 0 [1] (eP x1.2)) h2 fun h25=>g1 25 (eP x1.2) h25 fun h26=>gm h6 fun h27=>?_)
     obtain ⟨v19,Ev19,h⟩:=bind_some h
     refine gv (.ref .sh 0 [] (.agg [ji v19.1,ji v19.2])) (yq (t:=.sh) (lo:=0) (xs:=x1.2) h26 h27 Ev19 rfl rfl) fun h28=>g1 28 (.ref .sh 0 [1] (ji v19.2)) h28 fun h29=>g1 29 (ji v19.2) h29 fun h30=>?_
     obtain ⟨r20,Er20,h⟩:=bind_some h
     refine zy (m:=0) (al:=false) (r:=Enc.enc (r20:Int)) [eL x2,Enc.enc (v19.2:Int)] (zc (v:=eL x2) h24 rfl (Enc.erase_enc (x2:LI)) (zc (v:=ji v19.2) h30 rfl rfl zp)) (H.c56 _ _ _ Er20) H.g56 rfl rfl rfl rfl (gm (rf (ji r18)) fun h7=>gm (rf (ji r20)) fun h8=>gq (.nsq (rg (gm h5 fun h32=>gm h7 fun h33=>gm h8 fun h34=>g2 33 34 (ji (w64 (r18 - r20))) h33 h34 fun h35=>gm h8 fun h36=>gm h7 fun h37=>g2 36 37 (ji (w64 (r20 - r18))) h36 h37 fun h38=>?_))))
     obtain ⟨r21,Er21,h⟩:=bind_some h
     refine zy (m:=0) (al:=false) (r:=Enc.enc (r21:Int)) [Enc.enc (w64 (r18 - r20):Int),Enc.enc (w64 (r20 - r18):Int)] (zc (v:=ji (w64 (r18 - r20))) h35 rfl rfl (zc (v:=ji (w64 (r20 - r18))) h38 rfl rfl zp)) (H.c43 _ _ _ Er21) H.g43 rfl rfl rfl rfl ?_
     obtain ⟨r22,Er22,h⟩:=bind_some h
     refine zy (m:=0) (al:=false) (r:=Enc.enc (r22:Int)) [Enc.enc (x9:Int),Enc.enc (r21:Int)] (zc (v:=ji x9) h32 rfl rfl (zc (v:=ji r21) rfl rfl rfl zp)) (H.c43 _ _ _ Er22) H.g43 rfl rfl rfl rfl (gm (rf (ji r22)) fun h5=>gz [(1,_),(2,_),(4,_),(5,_),(6,_)] ⟨h1,h2,h4,h5,h6⟩ ?_)
     rintro s ⟨h1,h2,h4,h5,h6⟩
     refine .nbk (.nsq (rg (gm h6 fun h14=>g1 14 (ji (w64 (x10 + 1))) h14 fun h15=>gm h15 fun h6=>gq (.nlp ?_))))
     exact ih r22 (w64 (x10 + 1)) _ ⟨h1,h2,h4,h5,h6⟩ h
   refine .exit (.esq (.elp (.ebk (.nsq (.seq (rg (gm h5 fun h41=>gm h41 fun h4=>gq (.nsq (.ret ?_)))))))))
   obtain rfl:=oi h
   exact rrA (zf h4) rfl
def XA (F:Nat) (x1:GR) (x2:LI):Option Int:=
 uo F x2 x1 F 0 0
theorem t27 (H:H27 D σ F) (x1:GR) (x2:LI) (s:Nat→V) (hs:zk [(0,gV x1),(1,eL x2)] s) (h:XA F x1 x2=some r):Run D σ (R27 r) (.run A27 []) s:=by
 unfold XA at h
 obtain ⟨h0,h1⟩:=hs
 refine .seq (zo (zT ?_))
 refine ez [(0,_),(1,_),(2,_)] ⟨za h0 rfl mIE,za h1 rfl me,zb rfl⟩ ?_
 rintro s ⟨h0,h1,h2⟩
 refine xo (gV x1) (zx h0 rfl) h2 rfl (g0 (ji 0) fun h4=>gq (.nsq (.seq (rg (g0 (ji 0) fun h5=>gq (.nsq (.seq (.seq (rg (g0 (ji 0) fun h6=>gq (.nsq (.block (.loop ?_)))))))))))))
 exact zhU H x2 x1 F 0 0 _ ⟨h1,rfl,h4,h5,h6⟩ h
end
def e27 (F:Nat):Ent:=ent 27 (fun (x:(GR×LI×Unit))=>XA F x.1 x.2.1) (fun (r:Int)=>(Enc.enc (r:Int))) 0 false []
abbrev C27 (D:List V→Option V) (F:Nat):Prop:=∀ (x0:GR) (x1:LI) r,XA F x0 x1=some r→D [Enc.enc x0,Enc.enc x1]=some (Enc.enc (r:Int))
theorem p27 {F:Nat}:C27 (e27 F).den F:=fun x0 x1 _ h=>zK (x0,x1,()) h
theorem o27 (hF:zr Try.prog D σ) (H:H27 D σ F):(e27 F).Ok Try.prog:=okZ (f:=27) Try.func27 fun ⟨x0,x1,_⟩ y hy=>cR hF Try.func27 c27 (t27 H x0 x1 _ ⟨rfl,rfl⟩ hy)
def zvu:AC:=(.cond (.t 9) (.seq (rr [jv 4 (.mov (jn 0)),jv 5 (.mov kf)]) .ret) .skip)
def zwk:AC:=(.seq (rr [jv 10 (.load (.ag [.s,.p]) (.t 2)),jm 11 1,jx 12 (.call (jf 27) [.t 10,.t 11]),jm 4 12,jv 5 (.mov kt)]) .ret)
def zva:AC:=(.seq (.seq (rr [jv 6 (.load (.ag [.s,.p]) (.t 2)),jm 7 1,jx 8 (.call (jf 26) [.t 6,.t 7]),jv 9 (.un .not (.t 8))]) zvu) zwk)
def A7:AC:=(.seq (.reg [.clr [2]] [jx 2 (.box (.t 0)),jv 4 (.mov (jn 0)),jv 5 (.mov kf)] []) zva)
def an7:List An:=[⟨0,[.clr [2]],[],[],[]⟩]
theorem c7:cq Try.prog Try.f7 an7=some A7:=by kernel_rfl
structure H7 (D:Den) (σ:Sig) (F:Nat):Prop where
 c26:C26 (D 26) F
 g26:σ 26=some (0,false)
 c27:C27 (D 27) F
 g27:σ 27=some (0,false)
abbrev R7 (r:(Int×Bool)):(Nat→V)→Prop:=RR Try.prog [.tmp 4,.tmp 5] 0 false (.tup [Enc.enc (r.1:Int),Enc.enc (r.2:Bool)])
section
variable {r:(Int×Bool)}
def vO (F:Nat) (x1:GR) (x2:LI):Option (Int×Bool):=
 (vT F x1 x2).bind fun r3=>
 bif (!r3) then
  some (0,false)
 else
  (XA F x1 x2).bind fun r4=>
  some (r4,true)
theorem t7 (H:H7 D σ F) (x1:GR) (x2:LI) (s:Nat→V) (hs:zk [(0,gV x1),(1,eL x2)] s) (h:vO F x1 x2=some r):Run D σ (R7 r) (.run A7 []) s:=by
 unfold vO at h
 obtain ⟨h0,h1⟩:=hs
 refine .seq (zo (zT ?_))
 refine ez [(0,_),(1,_),(2,_)] ⟨za h0 rfl mIE,za h1 rfl me,zb rfl⟩ ?_
 rintro s ⟨h0,h1,h2⟩
 refine xo (gV x1) (zx h0 rfl) h2 rfl (g0 (ji 0) fun h4=>g0 (jb false) fun h5=>gq (.nsq (.seq (.seq (rg (g1 2 (gV x1) (rf (bG 2 x1)) fun h6=>gm h1 fun h7=>?_))))))
 obtain ⟨r3,Er3,h⟩:=bind_some h
 refine zy (m:=0) (al:=false) (r:=Enc.enc (r3:Bool)) [Enc.enc (x1:GR),eL x2] (zc (v:=gV x1) h6 rfl (Enc.erase_enc (x1:GR)) (zc (v:=eL x2) h7 rfl (Enc.erase_enc (x2:LI)) zp)) (H.c26 _ _ _ Er3) H.g26 rfl rfl rfl rfl (g1 8 (jb (!r3)) (rf (jb r3)) fun h9=>gq (.nsq (zg h9 h (fun h=>?_) (fun h=>?_))))
 · refine .seq (rg (g0 (ji 0) fun h4=>g0 (jb false) fun h5=>gq (.nsq (.ret ?_))))
   obtain rfl:=oi h
   exact rrB (zf h4) (zf h5) rfl
 refine .skip (.nsq (.seq (rg (g1 2 (gV x1) (rf (bG 2 x1)) fun h10=>gm h1 fun h11=>?_))))
 obtain ⟨r4,Er4,h⟩:=bind_some h
 refine zy (m:=0) (al:=false) (r:=Enc.enc (r4:Int)) [Enc.enc (x1:GR),eL x2] (zc (v:=gV x1) h10 rfl (Enc.erase_enc (x1:GR)) (zc (v:=eL x2) h11 rfl (Enc.erase_enc (x2:LI)) zp)) (H.c27 _ _ _ Er4) H.g27 rfl rfl rfl rfl (gm (rf (ji r4)) fun h4=>g0 (jb true) fun h5=>gq (.nsq (.ret ?_)))
 obtain rfl:=oi h
 exact rrB (zf h4) (zf h5) rfl
end
def e7 (F:Nat):Ent:=ent 7 (fun (x:(GR×LI×Unit))=>vO F x.1 x.2.1) (fun (r:(Int×Bool))=>(.tup [Enc.enc (r.1:Int),Enc.enc (r.2:Bool)])) 0 false []
abbrev C7 (D:List V→Option V) (F:Nat):Prop:=∀ (x0:GR) (x1:LI) r,vO F x0 x1=some r→D [Enc.enc x0,Enc.enc x1]=some (.tup [Enc.enc (r.1:Int),Enc.enc (r.2:Bool)])
theorem p7 {F:Nat}:C7 (e7 F).den F:=fun x0 x1 _ h=>zK (x0,x1,()) h
theorem o7 (hF:zr Try.prog D σ) (H:H7 D σ F):(e7 F).Ok Try.prog:=okZ (f:=7) Try.func7 fun ⟨x0,x1,_⟩ y hy=>cR hF Try.func7 c7 (t7 H x0 x1 _ ⟨rfl,rfl⟩ hy)
def ztg:AC:=(rr [jv 28 (.fld (.t 3) 0 0),jv 29 (.load .p (.t 28)),jv 30 (.idxA (.t 5) (jn 1) 2 1),jl 31 30,jv 32 (.idx (.t 29) (.t 31) 1),jl 33 32,jv 34 (.idxA (.t 5) (jn 0) 2 1),jl 35 34,jv 36 (.bin .shl (jn 1) (.t 35)),jv 37 (.bin .or (.t 33) (.t 36)),jv 38 (.idx (.t 29) (.t 31) 1),jz (.store .s (.t 38) (.t 37))])
def zoN:AC:=(.seq (rr [jv 17 (.fld (.t 3) 0 0),jv 18 (.load .p (.t 17)),jv 19 (.idxA (.t 5) (jn 0) 2 1),jl 20 19,jv 21 (.idx (.t 18) (.t 20) 1),jl 22 21,jv 23 (.idxA (.t 5) (jn 1) 2 1),jl 24 23,jv 25 (.bin .shl (jn 1) (.t 24)),jv 26 (.bin .or (.t 22) (.t 25)),jv 27 (.idx (.t 18) (.t 20) 1),jz (.store .s (.t 27) (.t 26))]) ztg)
def zrD:AC:=(rr [jv 39 (.bin .add (.t 13) (jn 1)),jm 13 39])
def zrV:AC:=(.seq (.block 1 (.seq (.reg [.clr [5]] [jv 15 (.idx (.t 11) (.t 13) 2),jv 16 (.load (.ag [.s,.s]) (.t 15)),jx 5 (.alloc (.agg [i0,i0])),jz (.store (.ag [.s,.s]) (.t 5) (.t 16))] []) zoN)) zrD)
def zr7:AC:=(.seq (.cond (.t 14) .skip (.exit 0)) zrV)
def zjr:AC:=(.seq (rr [jv 14 (.bin .lss (.t 13) (.t 12))]) zr7)
def zlg:AC:=(.seq (rr [jv 40 (.load (.ag [.p]) (.t 3)),jz (.store (.ag [.p]) (.t 2) (.t 40))]) .ret)
def znt:AC:=(.block 0 (.loop zjr))
def zoJ:AC:=(.seq (.seq (rr [jv 10 (.fld (.t 1) 1 1),jv 11 (.load .p (.t 10)),jk 12 11,jv 13 (.mov (jn 0))]) znt) zlg)
def zqk:AC:=(.seq (.reg [.clr [8,3]] [jv 6 (.fld (.t 1) 0 0),jl 7 6,jx 8 (.mk (.t 7) i0 i0),jv 9 (.bld (.agg [.sl .nl .s 0 []]) [(0,0,.t 8)]),jx 3 (.alloc (.agg [.sl .nl .s 0 []])),jz (.store (.ag [.p]) (.t 3) (.t 9))] []) zoJ)
def A28:AC:=(.seq (.reg [.clr [1,2]] [jx 1 (.box (.t 0)),jx 2 (.alloc (.agg [.sl .nl .s 0 []]))] []) zqk)
def zvy:List An:=[⟨0,[.clr [1,2]],[],[],[]⟩,⟨1,[.clr [8,3]],[],[],[]⟩,⟨4,[.clr [5]],[],[],[]⟩]
theorem c28:cq Try.prog Try.f28 zvy=some A28:=by kernel_rfl
structure H28 (D:Den) (σ:Sig) (F:Nat):Prop where
 mk ::
abbrev R28 (r:(S1 LI)):(Nat→V)→Prop:=RR Try.prog [.cell 2 51] 0 false (Enc.enc (r:(S1 LI)))
section
variable {r:(S1 LI)}
def ZR (F:Nat) (x1:GR) :Nat→LI→Int→Option (S1 LI)
 | 0,_,_=>none
 | k + 1,x10,x11=>
   bif decide (x11 < (x1.2.length:Int)) then
    (idx x1.2 x11).bind fun v19=>
    (idx x10 v19.1).bind fun v20=>
    (uB .i64 1 v19.2).bind fun q21=>
    (idx x10 v19.1).bind fun v22=>
    (idx (x10.set v19.1.toNat (ior .i64 v20 q21)) v19.2).bind fun v23=>
    (uB .i64 1 v19.1).bind fun q24=>
    (idx (x10.set v19.1.toNat (ior .i64 v20 q21)) v19.2).bind fun v25=>
    (ZR F x1 k) ((x10.set v19.1.toNat (ior .i64 v20 q21)).set v19.2.toNat (ior .i64 v23 q24)) (w64 (x11 + 1))
   else
    some (S1.mk x10)
theorem zjO (H:H28 D σ F) (x1:GR) :∀ (k:Nat) (x10:LI) (x11:Int) (s:Nat→V),zk [(2,.ref (.bx 2) 0 [] (.agg [nI])),(3,.ref (.bx 3) 0 [] (.agg [oI 8 [] (.of x10)])),(11,eP x1.2),(12,ji (x1.2.length:Int)),(13,ji x11)] s→ZR F x1 k x10 x11=some r→Run D σ (R28 r) (.run zjr [.lp zjr,.bk 0,.sq zlg]) s:=by
 intro k
 induction k with
 | zero=>intro x10 x11 s _ h;exact nm h
 | succ k ih=>
   intro x10 x11 s hs h
   rw [ZR] at h
   obtain ⟨h2,h3,h11,h12,h13⟩:=hs
   refine .seq (rg (g2 13 12 (jb (decide (x11 < (x1.2.length:Int)))) h13 h12 fun h14=>gq (.nsq (.seq (zg h14 h (fun h=>?_) (fun h=>?_))))))
   · refine .skip (.nsq (.seq (.block (.seq (zo (zT ?_))))))
     refine ez [(2,_),(3,_),(5,_),(11,_),(12,_),(13,_)] ⟨za h2 rfl (zi rfl (zF (ze rfl zm))),za h3 rfl (zi rfl (zF (ze (zl (r:=8) (p:=[]) rfl rfl) zm))),zb rfl,za h11 rfl me,za h12 rfl mi,za h13 rfl mi⟩ ?_
     rintro s ⟨h2,h3,h5,h11,h12,h13⟩
     obtain ⟨v19,Ev19,h⟩:=bind_some h
     refine gv (.ref .sh 0 [] (.agg [ji v19.1,ji v19.2])) (yq (t:=.sh) (lo:=0) (xs:=x1.2) h11 h13 Ev19 rfl rfl) fun h15=>g1 15 (.agg [ji v19.1,ji v19.2]) h15 fun h16=>wk h5 (yd (.agg [ji v19.1,ji v19.2]) (zx rfl rfl) (zx h16 rfl) (ww (by first | rfl | simp [V.toks,V.tokss,Enc.toks_enc,ya])) ?_)
     refine gz [(2,.ref (.bx 2) 0 [] (.agg [nI])),(3,.ref (.bx 3) 0 [] (.agg [oI 8 [] (.of x10)])),(5,.ref (.bx 5) 0 [] (.agg [ji v19.1,ji v19.2])),(11,eP x1.2),(12,ji (x1.2.length:Int)),(13,ji x11)] ⟨zd h2 (zH rfl rfl (yD (zq rfl rfl))),zd h3 (zH rfl rfl (yD (zq (vm rfl rfl) rfl))),zd rfl rfl,zd h11 uE,zd h12 rfl,zd h13 rfl⟩ ?_
     rintro s ⟨h2,h3,h5,h11,h12,h13⟩
     refine .nsq (.seq (rg (g1 3 (.ref (.bx 3) 0 [0] (oI 8 [] (.of x10))) h3 fun h17=>g1 17 (oI 8 [] (.of x10)) h17 fun h18=>g1 5 (.ref (.bx 5) 0 [0] (ji v19.1)) h5 fun h19=>g1 19 (ji v19.1) h19 fun h20=>?_)))
     obtain ⟨v20,Ev20,h⟩:=bind_some h
     refine gv (.ref (.at 8 []) v19.1.toNat [] (ji v20)) (wU (o:=.of x10) h18 h20 Ev20 rfl) fun h21=>g1 21 (ji v20) h21 fun h22=>g1 5 (.ref (.bx 5) 0 [1] (ji v19.2)) h5 fun h23=>g1 23 (ji v19.2) h23 fun h24=>?_
     obtain ⟨q21,Eq21,h⟩:=bind_some h
     refine gv (ji q21) (vW rfl h24 Eq21) fun h25=>g2 22 25 (ji (ior .i64 v20 q21)) h22 h25 fun h26=>?_
     obtain ⟨v22,Ev22,h⟩:=bind_some h
     refine gv (.ref (.at 8 []) v19.1.toNat [] (ji v22)) (wU (o:=.of x10) h18 h20 Ev22 rfl) fun h27=>yd (ji (ior .i64 v20 q21)) (zx h27 rfl) (zx h26 rfl) (ww (by first | rfl | simp [V.toks,V.tokss,Enc.toks_enc,ya])) (gz [(2,.ref (.bx 2) 0 [] (.agg [nI])),(3,.ref (.bx 3) 0 [] (.agg [oI 8 [] (.of (x10.set v19.1.toNat (ior .i64 v20 q21)))])),(5,.ref (.bx 5) 0 [] (.agg [ji v19.1,ji v19.2])),(11,eP x1.2),(12,ji (x1.2.length:Int)),(13,ji x11)] ⟨zd h2 (zH rfl rfl (yD (zq rfl rfl))),zd h3 (zH rfl rfl (yD (zq Xh rfl))),zd h5 rfl,zd h11 uE,zd h12 rfl,zd h13 rfl⟩ ?_)
     rintro s ⟨h2,h3,h5,h11,h12,h13⟩
     refine .nsq (rg (g1 3 (.ref (.bx 3) 0 [0] (oI 8 [] (.of (x10.set v19.1.toNat (ior .i64 v20 q21))))) h3 fun h28=>g1 28 (oI 8 [] (.of (x10.set v19.1.toNat (ior .i64 v20 q21)))) h28 fun h29=>g1 5 (.ref (.bx 5) 0 [1] (ji v19.2)) h5 fun h30=>g1 30 (ji v19.2) h30 fun h31=>?_))
     obtain ⟨v23,Ev23,h⟩:=bind_some h
     refine gv (.ref (.at 8 []) v19.2.toNat [] (ji v23)) (wU (o:=.of (x10.set v19.1.toNat (ior .i64 v20 q21))) h29 h31 Ev23 rfl) fun h32=>g1 32 (ji v23) h32 fun h33=>g1 5 (.ref (.bx 5) 0 [0] (ji v19.1)) h5 fun h34=>g1 34 (ji v19.1) h34 fun h35=>?_
     obtain ⟨q24,Eq24,h⟩:=bind_some h
     refine gv (ji q24) (vW rfl h35 Eq24) fun h36=>g2 33 36 (ji (ior .i64 v23 q24)) h33 h36 fun h37=>?_
     obtain ⟨v25,Ev25,h⟩:=bind_some h
     refine gv (.ref (.at 8 []) v19.2.toNat [] (ji v25)) (wU (o:=.of (x10.set v19.1.toNat (ior .i64 v20 q21))) h29 h31 Ev25 rfl) fun h38=>yd (ji (ior .i64 v23 q24)) (zx h38 rfl) (zx h37 rfl) (ww (by first | rfl | simp [V.toks,V.tokss,Enc.toks_enc,ya])) ?_
     refine gz [(2,.ref (.bx 2) 0 [] (.agg [nI])),(3,.ref (.bx 3) 0 [] (.agg [oI 8 [] (.of ((x10.set v19.1.toNat (ior .i64 v20 q21)).set v19.2.toNat (ior .i64 v23 q24)))])),(11,eP x1.2),(12,ji (x1.2.length:Int)),(13,ji x11)] ⟨zd h2 (zH rfl rfl (yD (zq rfl rfl))),zd h3 (zH rfl rfl (yD (zq Xh rfl))),zd h11 uE,zd h12 rfl,zd h13 rfl⟩ ?_
     rintro s ⟨h2,h3,h11,h12,h13⟩
     refine .nbk (.nsq (rg (g1 13 (ji (w64 (x11 + 1))) h13 fun h39=>gm h39 fun h13=>gq (.nlp ?_))))
     exact ih ((x10.set v19.1.toNat (ior .i64 v20 q21)).set v19.2.toNat (ior .i64 v23 q24)) (w64 (x11 + 1)) _ ⟨h2,h3,h11,h12,h13⟩ h
   refine .exit (.esq (.elp (.ebk (.nsq (.seq (rg (g1 3 (.agg [oI 8 [] (.of x10)]) h3 fun h40=>yd (.agg [oI 8 [] (.of x10)]) (zx h2 rfl) (zx h40 rfl) (ww (by first | rfl | simp [V.toks,V.tokss,Enc.toks_enc,ya])) (gz [(2,.ref (.bx 2) 0 [] (.agg [oI 8 [] (.of x10)]))] (zd h2 rfl) ?_))))))))
   rintro s h2
   refine .nsq (.ret ?_)
   obtain rfl:=oi h
   exact rrA (uI h2 (by kernel_rfl)) (ud (zkn (zP (wl (o:=.of x10)) xA)) (JZ (wA (wx rfl) Xu)))
def vw (F:Nat) (x1:GR):Option (S1 LI):=
 (mkN x1.1 (0:Int)).bind fun mk2=>
 ZR F x1 F mk2 0
theorem t28 (H:H28 D σ F) (x1:GR) (s:Nat→V) (hs:zk [(0,gV x1)] s) (h:vw F x1=some r):Run D σ (R28 r) (.run A28 []) s:=by
 unfold vw at h
 have h0:=hs
 refine .seq (zo (zT ?_))
 refine ez [(0,_),(1,_),(2,_)] ⟨za h0 rfl mIE,zb rfl,zb rfl⟩ ?_
 rintro s ⟨h0,h1,h2⟩
 refine xo (gV x1) (zx h0 rfl) h1 rfl (wk h2 (gq (.nsq (.seq (zo (zT ?_))))))
 refine ez [(1,_),(2,_),(3,_),(8,_)] ⟨za rfl rfl (zi rfl mIE),za rfl rfl (zi rfl (zF (ze rfl zm))),zb rfl,zb rfl⟩ ?_
 rintro s ⟨h1,h2,h3,h8⟩
 refine g1 1 (.ref (.bx 1) 0 [0] (ji x1.1)) h1 fun h6=>g1 6 (ji x1.1) h6 fun h7=>?_
 obtain ⟨mk2,Emk2,h⟩:=bind_some h
 refine zkL (0:Int) h7 rfl h8 Emk2 (g1 8 (.agg [oI 8 [] (.of mk2)]) (rf (oI 8 [] (.of mk2))) fun h9=>wk h3 (yd (.agg [oI 8 [] (.of mk2)]) (zx rfl rfl) (zx h9 rfl) (ww (by first | rfl | simp [V.toks,V.tokss,Enc.toks_enc,ya])) (gz [(1,bG 1 x1),(2,.ref (.bx 2) 0 [] (.agg [nI])),(3,.ref (.bx 3) 0 [] (.agg [oI 8 [] (.of mk2)]))] ⟨zd h1 (zH rfl rfl uIE),zd h2 (zH rfl rfl (yD (zq rfl rfl))),zd rfl rfl⟩ ?_)))
 rintro s ⟨h1,h2,h3⟩
 refine .nsq (.seq (.seq (rg (g1 1 (.ref (.bx 1) 0 [1] (eP x1.2)) h1 fun h10=>g1 10 (eP x1.2) h10 fun h11=>gl x1.2 h11 fun h12=>g0 (ji 0) fun h13=>gq (.nsq (.block (.loop ?_)))))))
 exact zjO H x1 F mk2 0 _ ⟨h2,h3,h11,h12,h13⟩ h
end
def e28 (F:Nat):Ent:=ent 28 (fun (x:(GR×Unit))=>vw F x.1) (fun (r:(S1 LI))=>(Enc.enc (r:(S1 LI)))) 0 false []
abbrev C28 (D:List V→Option V) (F:Nat):Prop:=∀ (x0:GR) r,vw F x0=some r→D [Enc.enc x0]=some (Enc.enc (r:(S1 LI)))
theorem p28 {F:Nat}:C28 (e28 F).den F:=fun x0 _ h=>zK (x0,()) h
theorem o28 (hF:zr Try.prog D σ) (H:H28 D σ F):(e28 F).Ok Try.prog:=okZ (f:=28) Try.func28 fun ⟨x0,_⟩ y hy=>cR hF Try.func28 c28 (t28 H x0 _ rfl hy)
def zsc:AC:=(.cond (.t 8) .skip (.exit 0))
def ztA:AC:=(.cond (.t 15) (.reg [.clr [18,19]] [jm 16 3,jm 17 4,jx 18 (.lit i0 1 [(0,0,.t 17)]),jx 19 (.app .s (.t 16) (.t 18)),jm 3 19] [.home 19 3]) .skip)
def zlm:AC:=(rr [jm 9 4,jv 10 (.bin .add (.t 9) (jn 1)),jm 4 10])
def zrz:AC:=(.seq (.block 1 (.seq (rr [jm 11 0,jm 12 4,jv 13 (.bin .shr (.t 11) (.t 12)),jv 14 (.bin .and (.t 13) (jn 1)),jv 15 (.bin .eql (.t 14) (jn 1))]) ztA)) zlm)
def Qq:AC:=(.seq (.seq (rr [jm 5 0,jm 6 4,jv 7 (.bin .shr (.t 5) (.t 6)),jv 8 (.bin .neq (.t 7) (jn 0))]) zsc) zrz)
def zet:AC:=(.seq (.reg [] [jm 20 3,jm 2 20] [.home 3 2]) .ret)
def zr2:AC:=(.block 0 (.loop Qq))
def ztV:AC:=(.seq (.seq (rr [jv 4 (.mov (jn 0))]) zr2) zet)
def zpP:AC:=(.seq (rr [jv 3 (.mov (.k (.sl .nl .s 0 [])))]) ztV)
def A67:AC:=(.seq (rr [jv 2 (.mov (.k (.sl .nl .s 0 [])))]) zpP)
def zvc:List An:=[⟨6,[.clr [18,19]],[],[],[.home 19 3]⟩,⟨7,[],[],[],[.home 3 2]⟩]
theorem c67:cq Try.prog Try.f67 zvc=some A67:=by kernel_rfl
structure H67 (D:Den) (σ:Sig) (F:Nat):Prop where
 mk ::
abbrev R67 (r:LI):(Nat→V)→Prop:=RR Try.prog [.tmp 2] 0 false (eL r)
section
variable {r:LI}
def X1 (F:Nat) (x1:Int) (x8:Int) (c1:(NL Int)→Int→Option LI) (x17:(NL Int)):Option LI:=
 c1 x17 (w64 (x8 + 1))
theorem zci (H:H67 D σ F) (x1:Int) (x8:Int) (c1:(NL Int)→Int→Option LI) (Hc1:∀ (x7:(NL Int)) (x8:Int) (s:Nat→V),zk [(0,ji x1),(2,nI),(3,oI 3 [] x7),(4,ji x8)] s→c1 x7 x8=some r→Run D σ (R67 r) (.run Qq [.lp Qq,.bk 0,.sq zet]) s) (x17:(NL Int)) (s:Nat→V) (hs:zk [(0,ji x1),(2,nI),(3,oI 3 [] x17),(4,ji x8)] s) (h:X1 F x1 x8 c1 x17=some r):Run D σ (R67 r) (.nrm [.bk 1,.sq zlm,.lp Qq,.bk 0,.sq zet]) s:=by
 unfold X1 at h
 obtain ⟨h0,h2,h3,h4⟩:=hs
 refine .nbk (.nsq (rg (gm h4 fun h9=>g1 9 (ji (w64 (x8 + 1))) h9 fun h10=>gm h10 fun h4=>gq (.nlp ?_))))
 exact Hc1 x17 (w64 (x8 + 1)) _ ⟨h0,h2,h3,h4⟩ h
def vI (F:Nat) (x1:Int) :Nat→(NL Int)→Int→Option LI
 | 0,_,_=>none
 | k + 1,x7,x8=>
   (Wk .i64 x1 x8).bind fun q14=>
   bif (q14 != 0) then
    (Wk .i64 x1 x8).bind fun q15=>
    bif ((yp .i64 q15 1) == 1) then
     (wJ x7.list [x8]).bind fun ap18=>
     X1 F x1 x8 (vI F x1 k) (.of ap18)
    else
     X1 F x1 x8 (vI F x1 k) x7
   else
    some x7.list
theorem zho (H:H67 D σ F) (x1:Int) :∀ (k:Nat) (x7:(NL Int)) (x8:Int) (s:Nat→V),zk [(0,ji x1),(2,nI),(3,oI 3 [] x7),(4,ji x8)] s→vI F x1 k x7 x8=some r→Run D σ (R67 r) (.run Qq [.lp Qq,.bk 0,.sq zet]) s:=by
 intro k
 induction k with
 | zero=>intro x7 x8 s _ h;exact nm h
 | succ k ih=>
   intro x7 x8 s hs h
   rw [vI] at h
   obtain ⟨h0,h2,h3,h4⟩:=hs
   refine .seq (.seq (rg (gm h0 fun h5=>gm h4 fun h6=>?_)))
   obtain ⟨q14,Eq14,h⟩:=bind_some h
   refine gv (ji q14) (YA h5 h6 Eq14) fun h7=>g1 7 (jb (q14 != 0)) h7 fun h8=>gq (.nsq (zg h8 h (fun h=>?_) (fun h=>?_)))
   · refine .skip (.nsq (.seq (.block (.seq (rg (gm h0 fun h11=>gm h4 fun h12=>?_))))))
     obtain ⟨q15,Eq15,h⟩:=bind_some h
     refine gv (ji q15) (YA h11 h12 Eq15) fun h13=>g1 13 (ji (yp .i64 q15 1)) h13 fun h14=>g1 14 (jb ((yp .i64 q15 1) == 1)) h14 fun h15=>gq (.nsq (zg h15 h (fun h=>?_) (fun h=>?_)))
     · refine zo (zT ?_)
       refine ez [(0,_),(2,_),(3,_),(4,_),(18,_),(19,_)] ⟨za h0 rfl mi,za h2 rfl rfl,za h3 rfl (zl (r:=3) (p:=[]) rfl rfl),za h4 rfl mi,zb rfl,zb rfl⟩ ?_
       rintro s ⟨h0,h2,h3,h4,h18,h19⟩
       refine gv (oI 3 [] x7) (Wm h3 ZL) fun h16=>gm h4 fun h17=>xq [(17,ji x8)] [Enc.enc (x8:Int)] h17 rfl rfl h18 ?_
       obtain ⟨ap18,Eap18,h⟩:=bind_some h
       refine Xd (q:=3) (p:=[]) (o:=(x7:NL Int)) (ys:=([x8]:LI)) (t2:=.at 18 []) (lo2:=0) h16 rfl rfl h19 (ZB (o:=(x7:NL Int)) Eap18 (by split <;> simp)) (fun s17 ha17=>gm (rf (oI 19 [] (.of ap18))) fun h3=>yL (yr (r:=19) (x:=3) (v:=_) h3 rfl (fun s18 hz18=>?_)))
       refine ez [(0,ji x1),(2,nI),(3,oI 3 [] (.of ap18)),(4,ji x8)] ⟨hz18 0 _ _ (show s17 0=(ji x1) from zL ha17 h0 mi) mi,hz18 2 _ nI (show s17 2=nI from zL ha17 h2 rfl) rfl,hz18 3 _ _ h3 (zl (r:=19) (p:=[]) rfl rfl),hz18 4 _ _ (show s17 4=(ji x8) from zL ha17 h4 mi) mi⟩ ?_
       rintro s ⟨h0,h2,h3,h4⟩
       exact zci H x1 x8 (vI F x1 k) ih (.of ap18) _ ⟨h0,h2,h3,h4⟩ h
     refine .skip ?_
     exact zci H x1 x8 (vI F x1 k) ih x7 _ ⟨h0,h2,h3,h4⟩ h
   refine .exit (.esq (.elp (.ebk (.nsq (.seq (rg (gv (oI 3 [] x7) (Wm h3 ZL) fun h20=>gv (oI 3 [] x7) (Wm h20 ZL) fun h2=>yL (yr (r:=3) (x:=2) (v:=_) h2 ZL (fun s19 hz19=>?_)))))))))
   refine ez [(2,oI 2 [] x7)] (hz19 2 _ _ h2 (zl (r:=3) (p:=[]) rfl rfl)) ?_
   rintro s h2
   refine .nsq (.ret ?_)
   obtain rfl:=oi h
   exact rrA (zf h2) (ud (wl (o:=x7)) (wx rfl))
def uU (F:Nat) (x1:Int):Option LI:=
 vI F x1 F .nil 0
theorem t67 (H:H67 D σ F) (x1:Int) (s:Nat→V) (hs:zk [(0,ji x1)] s) (h:uU F x1=some r):Run D σ (R67 r) (.run A67 []) s:=by
 unfold uU at h
 have h0:=hs
 refine .seq (rg (g0 nI fun h2=>gq (.nsq (.seq (rg (g0 nI fun h3=>gq (.nsq (.seq (.seq (rg (g0 (ji 0) fun h4=>gq (.nsq (.block (.loop ?_))))))))))))))
 exact zho H x1 F .nil 0 _ ⟨h0,h2,h3,h4⟩ h
end
def e67 (F:Nat):Ent:=ent 67 (fun (x:(Int×Unit))=>uU F x.1) (fun (r:LI)=>(eL r)) 0 false []
abbrev C67 (D:List V→Option V) (F:Nat):Prop:=∀ (x0:Int) r,uU F x0=some r→D [Enc.enc x0]=some (eL r)
theorem p67 {F:Nat}:C67 (e67 F).den F:=fun x0 _ h=>zK (x0,()) h
theorem o67 (hF:zr Try.prog D σ) (H:H67 D σ F):(e67 F).Ok Try.prog:=okZ (f:=67) Try.func67 fun ⟨x0,_⟩ y hy=>cR hF Try.func67 c67 (t67 H x0 _ rfl hy)
def zqw:AC:=(.seq (rr [jm 32 0,jv 33 (.conv .i64 (.t 32)),jv 34 (.bin .and (.t 33) (jn 127)),jm 2 34]) .ret)
def ztE:AC:=(.seq (rr [jm 28 0,jm 29 0,jv 30 (.bin .shr (.t 29) (.k (.int .u64 (.ofNat 32)))),jv 31 (.bin .add (.t 28) (.t 30)),jm 0 31]) zqw)
def zsB:AC:=(.seq (rr [jm 24 0,jm 25 0,jv 26 (.bin .shr (.t 25) (.k (.int .u64 (.ofNat 16)))),jv 27 (.bin .add (.t 24) (.t 26)),jm 0 27]) ztE)
def zrh:AC:=(.seq (rr [jm 20 0,jm 21 0,jv 22 (.bin .shr (.t 21) (.k (.int .u64 (.ofNat 8)))),jv 23 (.bin .add (.t 20) (.t 22)),jm 0 23]) zsB)
def ztu:AC:=(.seq (rr [jm 15 0,jv 16 (.bin .shr (.t 15) (.k (.int .u64 (.ofNat 4)))),jm 17 0,jv 18 (.bin .add (.t 16) (.t 17)),jv 19 (.bin .and (.t 18) (.k (.int .u64 (.ofNat 1085102592571150095)))),jm 0 19]) zrh)
def zpQ:AC:=(.seq (rr [jm 9 0,jv 10 (.bin .shr (.t 9) (.k (.int .u64 (.ofNat 2)))),jv 11 (.bin .and (.t 10) (.k (.int .u64 (.ofNat 3689348814741910323)))),jm 12 0,jv 13 (.bin .and (.t 12) (.k (.int .u64 (.ofNat 3689348814741910323)))),jv 14 (.bin .add (.t 11) (.t 13)),jm 0 14]) ztu)
def zoO:AC:=(.seq (rr [jm 3 0,jv 4 (.bin .shr (.t 3) (.k (.int .u64 (.ofNat 1)))),jv 5 (.bin .and (.t 4) (.k (.int .u64 (.ofNat 6148914691236517205)))),jm 6 0,jv 7 (.bin .and (.t 6) (.k (.int .u64 (.ofNat 6148914691236517205)))),jv 8 (.bin .add (.t 5) (.t 7)),jm 0 8]) zpQ)
def A69:AC:=(.seq (rr [jv 2 (.mov (jn 0))]) zoO)
def zuS:List An:=[]
theorem c69:cq Try.prog Try.f69 zuS=some A69:=by kernel_rfl
structure H69 (D:Den) (σ:Sig) (F:Nat):Prop where
 mk ::
abbrev R69 (r:Int):(Nat→V)→Prop:=RR Try.prog [.tmp 2] 0 false (Enc.enc (r:Int))
section
variable {r:Int}
def vX (F:Nat) (x1:(Kd .u64)):Option Int:=
 (Wk .u64 x1.v 1).bind fun q2=>
 (Wk .u64 (IntKind.u64.wrap ((yp .u64 q2 6148914691236517205) + (yp .u64 x1.v 6148914691236517205))) 2).bind fun q3=>
 (Wk .u64 (IntKind.u64.wrap ((yp .u64 q3 3689348814741910323) + (yp .u64 (IntKind.u64.wrap ((yp .u64 q2 6148914691236517205) + (yp .u64 x1.v 6148914691236517205))) 3689348814741910323))) 4).bind fun q4=>
 (Wk .u64 (yp .u64 (IntKind.u64.wrap (q4 + (IntKind.u64.wrap ((yp .u64 q3 3689348814741910323) + (yp .u64 (IntKind.u64.wrap ((yp .u64 q2 6148914691236517205) + (yp .u64 x1.v 6148914691236517205))) 3689348814741910323))))) 1085102592571150095) 8).bind fun q5=>
 (Wk .u64 (IntKind.u64.wrap ((yp .u64 (IntKind.u64.wrap (q4 + (IntKind.u64.wrap ((yp .u64 q3 3689348814741910323) + (yp .u64 (IntKind.u64.wrap ((yp .u64 q2 6148914691236517205) + (yp .u64 x1.v 6148914691236517205))) 3689348814741910323))))) 1085102592571150095) + q5)) 16).bind fun q6=>
 (Wk .u64 (IntKind.u64.wrap ((IntKind.u64.wrap ((yp .u64 (IntKind.u64.wrap (q4 + (IntKind.u64.wrap ((yp .u64 q3 3689348814741910323) + (yp .u64 (IntKind.u64.wrap ((yp .u64 q2 6148914691236517205) + (yp .u64 x1.v 6148914691236517205))) 3689348814741910323))))) 1085102592571150095) + q5)) + q6)) 32).bind fun q7=>
 some (yp .i64 (w64 (IntKind.u64.wrap ((IntKind.u64.wrap ((IntKind.u64.wrap ((yp .u64 (IntKind.u64.wrap (q4 + (IntKind.u64.wrap ((yp .u64 q3 3689348814741910323) + (yp .u64 (IntKind.u64.wrap ((yp .u64 q2 6148914691236517205) + (yp .u64 x1.v 6148914691236517205))) 3689348814741910323))))) 1085102592571150095) + q5)) + q6)) + q7))) 127)
theorem t69 (H:H69 D σ F) (x1:(Kd .u64)) (s:Nat→V) (hs:zk [(0,.int .u64 x1.v)] s) (h:vX F x1=some r):Run D σ (R69 r) (.run A69 []) s:=by
 unfold vX at h
 have h0:=hs
 refine .seq (rg (g0 (ji 0) fun h2=>gq (.nsq (.seq (rg (gm h0 fun h3=>?_))))))
 obtain ⟨q2,Eq2,h⟩:=bind_some h
 refine gv (.int .u64 q2) (YA h3 rfl Eq2) fun h4=>g1 4 (.int .u64 (yp .u64 q2 6148914691236517205)) h4 fun h5=>gm h0 fun h6=>g1 6 (.int .u64 (yp .u64 x1.v 6148914691236517205)) h6 fun h7=>g2 5 7 (.int .u64 (IntKind.u64.wrap ((yp .u64 q2 6148914691236517205) + (yp .u64 x1.v 6148914691236517205)))) h5 h7 fun h8=>gm h8 fun h0=>gq (.nsq (.seq (rg (gm h0 fun h9=>?_))))
 obtain ⟨q3,Eq3,h⟩:=bind_some h
 refine gv (.int .u64 q3) (YA h9 rfl Eq3) fun h10=>g1 10 (.int .u64 (yp .u64 q3 3689348814741910323)) h10 fun h11=>gm h0 fun h12=>g1 12 (.int .u64 (yp .u64 (IntKind.u64.wrap ((yp .u64 q2 6148914691236517205) + (yp .u64 x1.v 6148914691236517205))) 3689348814741910323)) h12 fun h13=>g2 11 13 (.int .u64 (IntKind.u64.wrap ((yp .u64 q3 3689348814741910323) + (yp .u64 (IntKind.u64.wrap ((yp .u64 q2 6148914691236517205) + (yp .u64 x1.v 6148914691236517205))) 3689348814741910323)))) h11 h13 fun h14=>gm h14 fun h0=>gq (.nsq (.seq (rg (gm h0 fun h15=>?_))))
 obtain ⟨q4,Eq4,h⟩:=bind_some h
 refine gv (.int .u64 q4) (YA h15 rfl Eq4) fun h16=>gm h0 fun h17=>g2 16 17 (.int .u64 (IntKind.u64.wrap (q4 + (IntKind.u64.wrap ((yp .u64 q3 3689348814741910323) + (yp .u64 (IntKind.u64.wrap ((yp .u64 q2 6148914691236517205) + (yp .u64 x1.v 6148914691236517205))) 3689348814741910323)))))) h16 h17 fun h18=>g1 18 (.int .u64 (yp .u64 (IntKind.u64.wrap (q4 + (IntKind.u64.wrap ((yp .u64 q3 3689348814741910323) + (yp .u64 (IntKind.u64.wrap ((yp .u64 q2 6148914691236517205) + (yp .u64 x1.v 6148914691236517205))) 3689348814741910323))))) 1085102592571150095)) h18 fun h19=>gm h19 fun h0=>gq (.nsq (.seq (rg (gm h0 fun h20=>gm h0 fun h21=>?_))))
 obtain ⟨q5,Eq5,h⟩:=bind_some h
 refine gv (.int .u64 q5) (YA h21 rfl Eq5) fun h22=>g2 20 22 (.int .u64 (IntKind.u64.wrap ((yp .u64 (IntKind.u64.wrap (q4 + (IntKind.u64.wrap ((yp .u64 q3 3689348814741910323) + (yp .u64 (IntKind.u64.wrap ((yp .u64 q2 6148914691236517205) + (yp .u64 x1.v 6148914691236517205))) 3689348814741910323))))) 1085102592571150095) + q5))) h20 h22 fun h23=>gm h23 fun h0=>gq (.nsq (.seq (rg (gm h0 fun h24=>gm h0 fun h25=>?_))))
 obtain ⟨q6,Eq6,h⟩:=bind_some h
 refine gv (.int .u64 q6) (YA h25 rfl Eq6) fun h26=>g2 24 26 (.int .u64 (IntKind.u64.wrap ((IntKind.u64.wrap ((yp .u64 (IntKind.u64.wrap (q4 + (IntKind.u64.wrap ((yp .u64 q3 3689348814741910323) + (yp .u64 (IntKind.u64.wrap ((yp .u64 q2 6148914691236517205) + (yp .u64 x1.v 6148914691236517205))) 3689348814741910323))))) 1085102592571150095) + q5)) + q6))) h24 h26 fun h27=>gm h27 fun h0=>gz [(0,_),(2,_)] ⟨h0,h2⟩ ?_
 rintro s ⟨h0,h2⟩
 refine .nsq (.seq (rg (gm h0 fun h28=>gm h0 fun h29=>?_)))
 obtain ⟨q7,Eq7,h⟩:=bind_some h
 refine gv (.int .u64 q7) (YA h29 rfl Eq7) fun h30=>g2 28 30 (.int .u64 (IntKind.u64.wrap ((IntKind.u64.wrap ((IntKind.u64.wrap ((yp .u64 (IntKind.u64.wrap (q4 + (IntKind.u64.wrap ((yp .u64 q3 3689348814741910323) + (yp .u64 (IntKind.u64.wrap ((yp .u64 q2 6148914691236517205) + (yp .u64 x1.v 6148914691236517205))) 3689348814741910323))))) 1085102592571150095) + q5)) + q6)) + q7))) h28 h30 fun h31=>?_
 refine gm h31 fun h0=>gq (.nsq (.seq (rg (gm h0 fun h32=>g1 32 (ji (w64 (IntKind.u64.wrap ((IntKind.u64.wrap ((IntKind.u64.wrap ((yp .u64 (IntKind.u64.wrap (q4 + (IntKind.u64.wrap ((yp .u64 q3 3689348814741910323) + (yp .u64 (IntKind.u64.wrap ((yp .u64 q2 6148914691236517205) + (yp .u64 x1.v 6148914691236517205))) 3689348814741910323))))) 1085102592571150095) + q5)) + q6)) + q7)))) h32 fun h33=>?_))))
 refine g1 33 (ji (yp .i64 (w64 (IntKind.u64.wrap ((IntKind.u64.wrap ((IntKind.u64.wrap ((yp .u64 (IntKind.u64.wrap (q4 + (IntKind.u64.wrap ((yp .u64 q3 3689348814741910323) + (yp .u64 (IntKind.u64.wrap ((yp .u64 q2 6148914691236517205) + (yp .u64 x1.v 6148914691236517205))) 3689348814741910323))))) 1085102592571150095) + q5)) + q6)) + q7))) 127)) h33 fun h34=>gm h34 fun h2=>gq (.nsq (.ret ?_))
 obtain rfl:=oi h
 exact rrA (zf h2) rfl
end
def e69 (F:Nat):Ent:=ent 69 (fun (x:((Kd .u64)×Unit))=>vX F x.1) (fun (r:Int)=>(Enc.enc (r:Int))) 0 false []
abbrev C69 (D:List V→Option V) (F:Nat):Prop:=∀ (x0:(Kd .u64)) r,vX F x0=some r→D [Enc.enc x0]=some (Enc.enc (r:Int))
theorem p69 {F:Nat}:C69 (e69 F).den F:=fun x0 _ h=>zK (x0,()) h
theorem o69 {D:Den} {σ:Sig} {F:Nat} (hF:zr Try.prog D σ) (H:H69 D σ F):(e69 F).Ok Try.prog:=by
 refine Ln (f:=69) (show unk 69=69 from rfl) (fun args r h=>?_) ⟨Try.f69,Try.func69,rfl,rfl⟩
 obtain ⟨⟨x0,_⟩,y,rfl,hy,rfl⟩:=Wc h
 exact Yz hF (by kernel_rfl) Try.func69 rfl c69 (show 1≤Try.f69.ntmps by decide) (t69 H x0 _ rfl hy)
def zpI:AC:=(.seq (rr [jm 6 0,jx 7 (.call (jf 69) [.t 6]),jm 2 7]) .ret)
def zpn:AC:=(.seq (.cond kf (.seq (rr [jm 3 0,jv 4 (.conv .u32 (.t 3)),jx 5 (.call (jf 68) [.t 4]),jm 2 5]) .ret) .skip) zpI)
def A41:AC:=(.seq (rr [jv 2 (.mov (jn 0))]) zpn)
def zv2:List An:=[]
theorem c41:cq Try.prog Try.f41 zv2=some A41:=by kernel_rfl
structure H41 (D:Den) (σ:Sig) (F:Nat):Prop where
 c69:C69 (D 69) F
 g69:σ 69=some (0,false)
abbrev R41 (r:Int):(Nat→V)→Prop:=RR Try.prog [.tmp 2] 0 false (Enc.enc (r:Int))
section
variable {r:Int}
def we (F:Nat) (x1:(Kd .u64)):Option Int:=
 (vX F (Kd.mk x1.v:Kd .u64)).bind fun r2=>
 some r2
theorem t41 (H:H41 D σ F) (x1:(Kd .u64)) (s:Nat→V) (hs:zk [(0,.int .u64 x1.v)] s) (h:we F x1=some r):Run D σ (R41 r) (.run A41 []) s:=by
 unfold we at h
 have h0:=hs
 refine .seq (rg (g0 (ji 0) fun h2=>gq (.nsq (.seq (zgk rfl (.skip (.nsq (.seq (rg (gm h0 fun h6=>?_))))))))))
 obtain ⟨r2,Er2,h⟩:=bind_some h
 refine zy (m:=0) (al:=false) (r:=Enc.enc (r2:Int)) [Enc.enc ((Kd.mk x1.v:Kd .u64):(Kd .u64))] (zc (v:=.int .u64 x1.v) h6 rfl rfl zp) (H.c69 _ _ Er2) H.g69 rfl rfl rfl rfl (gm (rf (ji r2)) fun h2=>gq (.nsq (.ret ?_)))
 obtain rfl:=oi h
 exact rrA (zf h2) rfl
end
def e41 (F:Nat):Ent:=ent 41 (fun (x:((Kd .u64)×Unit))=>we F x.1) (fun (r:Int)=>(Enc.enc (r:Int))) 0 false []
abbrev C41 (D:List V→Option V) (F:Nat):Prop:=∀ (x0:(Kd .u64)) r,we F x0=some r→D [Enc.enc x0]=some (Enc.enc (r:Int))
theorem p41 {F:Nat}:C41 (e41 F).den F:=fun x0 _ h=>zK (x0,()) h
theorem o41 {D:Den} {σ:Sig} {F:Nat} (hF:zr Try.prog D σ) (H:H41 D σ F):(e41 F).Ok Try.prog:=by
 refine Ln (f:=41) (show unk 41=41 from rfl) (fun args r h=>?_) ⟨Try.f41,Try.func41,rfl,rfl⟩
 obtain ⟨⟨x0,_⟩,y,rfl,hy,rfl⟩:=Wc h
 exact Yz hF (by kernel_rfl) Try.func41 rfl c41 (show 1≤Try.f41.ntmps by decide) (t41 H x0 _ rfl hy)
def zoT:AC:=(rr [jm 21 7,jv 22 (.fld (.t 3) 0 0),jv 23 (.load .p (.t 22)),jm 24 9,jv 25 (.idx (.t 23) (.t 24) 1),jl 26 25,jm 27 1,jv 28 (.bin .andNot (.t 26) (.t 27)),jv 29 (.conv .u64 (.t 28)),jx 30 (.call (jf 41) [.t 29]),jv 31 (.bin .add (.t 21) (.t 30)),jm 7 31])
def zoP:AC:=(rr [jv 32 (.bin .add (.t 17) (jn 1)),jm 17 32])
def zo3:AC:=(.seq (.block 1 (.seq (rr [jv 19 (.idx (.t 15) (.t 17) 1),jl 20 19,jm 9 20]) zoT)) zoP)
def zsV:AC:=(.seq (.cond (.t 18) .skip (.exit 0)) zo3)
def ziv:AC:=(.seq (rr [jv 18 (.bin .lss (.t 17) (.t 16))]) zsV)
def zlk:AC:=(.seq (rr [jm 33 7,jm 6 33]) .ret)
def zmz:AC:=(.block 0 (.loop ziv))
def zsN:AC:=(.seq (.seq (rr [jm 14 1,jx 15 (.call (jf 67) [.t 14]),jk 16 15,jv 17 (.mov (jn 0))]) zmz) zlk)
def zqQ:AC:=(.seq (rr [jv 7 (.mov (jn 0))]) zsN)
def zqK:AC:=(.seq (rr [jm 10 1,jm 11 2,jv 12 (.bin .shl (jn 1) (.t 11)),jv 13 (.bin .or (.t 10) (.t 12)),jm 1 13]) zqQ)
def A36:AC:=(.seq (.reg [.clr [3]] [jx 3 (.box (.t 0)),jv 6 (.mov (jn 0))] []) zqK)
def zwf:List An:=[⟨0,[.clr [3]],[],[],[]⟩]
theorem c36:cq Try.prog Try.f36 zwf=some A36:=by kernel_rfl
structure H36 (D:Den) (σ:Sig) (F:Nat):Prop where
 c67:C67 (D 67) F
 g67:σ 67=some (0,false)
 c41:C41 (D 41) F
 g41:σ 41=some (0,false)
abbrev R36 (r:Int):(Nat→V)→Prop:=RR Try.prog [.tmp 6] 0 false (Enc.enc (r:Int))
section
variable {r:Int}
def vG (F:Nat) (x2:Int) (q4:Int) (x1:(S1 LI)) (r5:LI) :Nat→Int→Int→Option Int
 | 0,_,_=>none
 | k + 1,x9,x10=>
   bif decide (x10 < (r5.length:Int)) then
    (idx r5 x10).bind fun v14=>
    (idx x1.a v14).bind fun v15=>
    (we F (Kd.mk (IntKind.u64.wrap (xp .i64 v15 (ior .i64 x2 q4))):Kd .u64)).bind fun r16=>
    (vG F x2 q4 x1 r5 k) (w64 (x9 + r16)) (w64 (x10 + 1))
   else
    some x9
theorem zjW (H:H36 D σ F) (x2:Int) (q4:Int) (x1:(S1 LI)) (r5:LI) :∀ (k:Nat) (x9:Int) (x10:Int) (s:Nat→V),zk [(1,ji (ior .i64 x2 q4)),(3,.ref (.bx 3) 0 [] (.agg [eL x1.a])),(6,ji 0),(7,ji x9),(15,eL r5),(16,ji (r5.length:Int)),(17,ji x10)] s→vG F x2 q4 x1 r5 k x9 x10=some r→Run D σ (R36 r) (.run ziv [.lp ziv,.bk 0,.sq zlk]) s:=by
 intro k
 induction k with
 | zero=>intro x9 x10 s _ h;exact nm h
 | succ k ih=>
   intro x9 x10 s hs h
   rw [vG] at h
   obtain ⟨h1,h3,h6,h7,h15,h16,h17⟩:=hs
   refine .seq (rg (g2 17 16 (jb (decide (x10 < (r5.length:Int)))) h17 h16 fun h18=>gq (.nsq (.seq (zg h18 h (fun h=>?_) (fun h=>?_))))))
   · refine .skip (.nsq (.seq (.block (.seq (rg ?_)))))
     obtain ⟨v14,Ev14,h⟩:=bind_some h
     refine gv (.ref .sh 0 [] (ji v14)) (yq (t:=.sh) (lo:=0) (xs:=r5) h15 h17 Ev14 rfl rfl) fun h19=>g1 19 (ji v14) h19 fun h20=>gm h20 fun h9=>gq (.nsq (rg (gm h7 fun h21=>g1 3 (.ref (.bx 3) 0 [0] (eL x1.a)) h3 fun h22=>g1 22 (eL x1.a) h22 fun h23=>gm h9 fun h24=>?_)))
     obtain ⟨v15,Ev15,h⟩:=bind_some h
     refine gv (.ref .sh 0 [] (ji v15)) (yq (t:=.sh) (lo:=0) (xs:=x1.a) h23 h24 Ev15 rfl rfl) fun h25=>g1 25 (ji v15) h25 fun h26=>gm h1 fun h27=>g2 26 27 (ji (xp .i64 v15 (ior .i64 x2 q4))) h26 h27 fun h28=>g1 28 (.int .u64 (IntKind.u64.wrap (xp .i64 v15 (ior .i64 x2 q4)))) h28 fun h29=>?_
     obtain ⟨r16,Er16,h⟩:=bind_some h
     refine zy (m:=0) (al:=false) (r:=Enc.enc (r16:Int)) [Enc.enc ((Kd.mk (IntKind.u64.wrap (xp .i64 v15 (ior .i64 x2 q4))):Kd .u64):(Kd .u64))] (zc (v:=.int .u64 (IntKind.u64.wrap (xp .i64 v15 (ior .i64 x2 q4)))) h29 rfl rfl zp) (H.c41 _ _ Er16) H.g41 rfl rfl rfl rfl (g2 21 30 (ji (w64 (x9 + r16))) h21 (rf (ji r16)) fun h31=>gm h31 fun h7=>gq (.nbk (.nsq (rg (g1 17 (ji (w64 (x10 + 1))) h17 fun h32=>gm h32 fun h17=>gq (.nlp ?_))))))
     exact ih (w64 (x9 + r16)) (w64 (x10 + 1)) _ ⟨h1,h3,h6,h7,h15,h16,h17⟩ h
   refine .exit (.esq (.elp (.ebk (.nsq (.seq (rg (gm h7 fun h33=>gm h33 fun h6=>gq (.nsq (.ret ?_)))))))))
   obtain rfl:=oi h
   exact rrA (zf h6) rfl
def ve (F:Nat) (x1:(S1 LI)) (x2:Int) (x3:Int):Option Int:=
 (uB .i64 1 x3).bind fun q4=>
 (uU F (ior .i64 x2 q4)).bind fun r5=>
 vG F x2 q4 x1 r5 F 0 0
theorem t36 (H:H36 D σ F) (x1:(S1 LI)) (x2:Int) (x3:Int) (s:Nat→V) (hs:zk [(0,.agg [eL x1.a]),(1,ji x2),(2,ji x3)] s) (h:ve F x1 x2 x3=some r):Run D σ (R36 r) (.run A36 []) s:=by
 unfold ve at h
 obtain ⟨h0,h1,h2⟩:=hs
 refine .seq (zo (zT ?_))
 refine ez [(0,_),(1,_),(2,_),(3,_)] ⟨za h0 rfl (zF (ze me zm)),za h1 rfl mi,za h2 rfl mi,zb rfl⟩ ?_
 rintro s ⟨h0,h1,h2,h3⟩
 refine xo (.agg [eL x1.a]) (zx h0 rfl) h3 rfl (g0 (ji 0) fun h6=>gq (.nsq (.seq (rg (gm h1 fun h10=>gm h2 fun h11=>?_)))))
 obtain ⟨q4,Eq4,h⟩:=bind_some h
 refine gv (ji q4) (vW rfl h11 Eq4) fun h12=>g2 10 12 (ji (ior .i64 x2 q4)) h10 h12 fun h13=>gm h13 fun h1=>gq (.nsq (.seq (rg (g0 (ji 0) fun h7=>gq (.nsq (.seq (.seq (rg (gm h1 fun h14=>?_)))))))))
 obtain ⟨r5,Er5,h⟩:=bind_some h
 refine zy (m:=0) (al:=false) (r:=eL r5) [Enc.enc (ior .i64 x2 q4:Int)] (zc (v:=ji (ior .i64 x2 q4)) h14 rfl rfl zp) (H.c67 _ _ Er5) H.g67 rfl rfl rfl rfl (gl r5 rfl fun h16=>g0 (ji 0) fun h17=>gq (.nsq (.block (.loop ?_))))
 exact zjW H x2 q4 x1 r5 F 0 0 _ ⟨h1,rfl,h6,h7,rfl,h16,h17⟩ h
end
def e36 (F:Nat):Ent:=ent 36 (fun (x:((S1 LI)×Int×Int×Unit))=>ve F x.1 x.2.1 x.2.2.1) (fun (r:Int)=>(Enc.enc (r:Int))) 0 false []
abbrev C36 (D:List V→Option V) (F:Nat):Prop:=∀ (x0:(S1 LI)) (x1:Int) (x2:Int) r,ve F x0 x1 x2=some r→D [Enc.enc x0,Enc.enc x1,Enc.enc x2]=some (Enc.enc (r:Int))
theorem p36 {F:Nat}:C36 (e36 F).den F:=fun x0 x1 x2 _ h=>zK (x0,x1,x2,()) h
theorem o36 (hF:zr Try.prog D σ) (H:H36 D σ F):(e36 F).Ok Try.prog:=okZ (f:=36) Try.func36 fun ⟨x0,x1,x2,_⟩ y hy=>cR hF Try.func36 c36 (t36 H x0 x1 x2 _ ⟨rfl,rfl,rfl⟩ hy)
def ztI:AC:=(rr [jm 22 6,jm 23 8,jv 24 (.bin .shl (jn 1) (.t 23)),jv 25 (.bin .or (.t 22) (.t 24)),jm 6 25])
def zox:AC:=(.seq (.reg [.clr [20,21]] [jm 15 5,jv 16 (.load (.ag [.p]) (.t 2)),jm 17 6,jm 18 8,jx 19 (.call (jf 36) [.t 16,.t 17,.t 18]),jx 20 (.lit i0 1 [(0,0,.t 19)]),jx 21 (.app .s (.t 15) (.t 20)),jm 5 21] [.home 21 5]) ztI)
def zq5:AC:=(rr [jv 26 (.bin .add (.t 11) (jn 1)),jm 11 26])
def zuz:AC:=(.seq (.block 1 (.seq (rr [jv 13 (.idx (.t 9) (.t 11) 1),jl 14 13,jm 8 14]) zox)) zq5)
def zq2:AC:=(.seq (.cond (.t 12) .skip (.exit 0)) zuz)
def zhx:AC:=(.seq (rr [jv 12 (.bin .lss (.t 11) (.t 10))]) zq2)
def zlw:AC:=(.seq (.reg [] [jm 27 5,jm 4 27] [.home 5 4]) .ret)
def zmN:AC:=(.block 0 (.loop zhx))
def zok:AC:=(.seq (.seq (rr [jm 9 1,jk 10 9,jv 11 (.mov (jn 0))]) zmN) zlw)
def zou:AC:=(.seq (rr [jv 6 (.mov (jn 0))]) zok)
def zra:AC:=(.seq (rr [jv 5 (.mov (.k (.sl .nl .s 0 [])))]) zou)
def A29:AC:=(.seq (.reg [.clr [2]] [jx 2 (.box (.t 0)),jv 4 (.mov (.k (.sl .nl .s 0 [])))] []) zra)
def zuO:List An:=[⟨0,[.clr [2]],[],[],[]⟩,⟨6,[.clr [20,21]],[],[],[.home 21 5]⟩,⟨9,[],[],[],[.home 5 4]⟩]
theorem c29:cq Try.prog Try.f29 zuO=some A29:=by kernel_rfl
structure H29 (D:Den) (σ:Sig) (F:Nat):Prop where
 c36:C36 (D 36) F
 g36:σ 36=some (0,false)
abbrev R29 (r:LI):(Nat→V)→Prop:=RR Try.prog [.tmp 4] 0 false (eL r)
section
variable {r:LI}
def xJ (F:Nat) (x1:(S1 LI)) (x2:LI) :Nat→(NL Int)→Int→Int→Option LI
 | 0,_,_,_=>none
 | k + 1,x7,x8,x9=>
   bif decide (x9 < (x2.length:Int)) then
    (idx x2 x9).bind fun v14=>
    (ve F x1 x8 v14).bind fun r15=>
    (wJ x7.list [r15]).bind fun ap16=>
    (uB .i64 1 v14).bind fun q17=>
    (xJ F x1 x2 k) (.of ap16) (ior .i64 x8 q17) (w64 (x9 + 1))
   else
    some x7.list
theorem zhy (H:H29 D σ F) (x1:(S1 LI)) (x2:LI) :∀ (k:Nat) (x7:(NL Int)) (x8:Int) (x9:Int) (s:Nat→V),zk [(2,.ref (.bx 2) 0 [] (.agg [eL x1.a])),(4,nI),(5,oI 5 [] x7),(6,ji x8),(9,eL x2),(10,ji (x2.length:Int)),(11,ji x9)] s→xJ F x1 x2 k x7 x8 x9=some r→Run D σ (R29 r) (.run zhx [.lp zhx,.bk 0,.sq zlw]) s:=by
 intro k
 induction k with
 | zero=>intro x7 x8 x9 s _ h;exact nm h
 | succ k ih=>
   intro x7 x8 x9 s hs h
   rw [xJ] at h
   obtain ⟨h2,h4,h5,h6,h9,h10,h11⟩:=hs
   refine .seq (rg (g2 11 10 (jb (decide (x9 < (x2.length:Int)))) h11 h10 fun h12=>gq (.nsq (.seq (zg h12 h (fun h=>?_) (fun h=>?_))))))
   · refine .skip (.nsq (.seq (.block (.seq (rg ?_)))))
     obtain ⟨v14,Ev14,h⟩:=bind_some h
     refine gv (.ref .sh 0 [] (ji v14)) (yq (t:=.sh) (lo:=0) (xs:=x2) h9 h11 Ev14 rfl rfl) fun h13=>g1 13 (ji v14) h13 fun h14=>gm h14 fun h8=>gq (.nsq (.seq (zo (zT ?_))))
     refine ez [(2,_),(4,_),(5,_),(6,_),(8,_),(9,_),(10,_),(11,_),(20,_),(21,_)] ⟨za h2 rfl (zi rfl (zF (ze me zm))),za h4 rfl rfl,za h5 rfl (zl (r:=5) (p:=[]) rfl rfl),za h6 rfl mi,za h8 rfl mi,za h9 rfl me,za h10 rfl mi,za h11 rfl mi,zb rfl,zb rfl⟩ ?_
     rintro s ⟨h2,h4,h5,h6,h8,h9,h10,h11,h20,h21⟩
     refine gv (oI 5 [] x7) (Wm h5 ZL) fun h15=>g1 2 (.agg [eL x1.a]) h2 fun h16=>gm h6 fun h17=>gm h8 fun h18=>?_
     obtain ⟨r15,Er15,h⟩:=bind_some h
     refine zy (m:=0) (al:=false) (r:=Enc.enc (r15:Int)) [Enc.enc (x1:(S1 LI)),Enc.enc (x8:Int),Enc.enc (v14:Int)] (zc (v:=.agg [eL x1.a]) h16 rfl (Enc.erase_enc (x1:(S1 LI))) (zc (v:=ji x8) h17 rfl rfl (zc (v:=ji v14) h18 rfl rfl zp))) (H.c36 _ _ _ _ Er15) H.g36 rfl rfl rfl rfl (xq [(19,ji r15)] [Enc.enc (r15:Int)] rfl rfl rfl h20 ?_)
     obtain ⟨ap16,Eap16,h⟩:=bind_some h
     refine Xd (q:=5) (p:=[]) (o:=(x7:NL Int)) (ys:=([r15]:LI)) (t2:=.at 20 []) (lo2:=0) h15 rfl rfl h21 (ZB (o:=(x7:NL Int)) Eap16 (by split <;> simp)) (fun s9 ha9=>gm (rf (oI 21 [] (.of ap16))) fun h5=>yL (yr (r:=21) (x:=5) (v:=_) h5 rfl (fun s10 hz10=>?_)))
     refine ez [(2,.ref (.bx 2) 0 [] (.agg [eL x1.a])),(4,nI),(5,oI 5 [] (.of ap16)),(6,ji x8),(8,ji v14),(9,eL x2),(10,ji (x2.length:Int)),(11,ji x9)] ⟨hz10 2 _ _ (show s9 2=(.ref (.bx 2) 0 [] (.agg [eL x1.a])) from zL ha9 h2 (zi rfl (zF (ze me zm)))) (zi rfl (zF (ze me zm))),hz10 4 _ nI (show s9 4=nI from zL ha9 h4 rfl) rfl,hz10 5 _ _ h5 (zl (r:=21) (p:=[]) rfl rfl),hz10 6 _ _ (show s9 6=(ji x8) from zL ha9 h6 mi) mi,hz10 8 _ _ (show s9 8=(ji v14) from zL ha9 h8 mi) mi,hz10 9 _ _ (show s9 9=(eL x2) from zL ha9 h9 me) me,hz10 10 _ _ (show s9 10=(ji (x2.length:Int)) from zL ha9 h10 mi) mi,hz10 11 _ _ (show s9 11=(ji x9) from zL ha9 h11 mi) mi⟩ ?_
     rintro s ⟨h2,h4,h5,h6,h8,h9,h10,h11⟩
     refine .nsq (rg (gm h6 fun h22=>gm h8 fun h23=>?_))
     obtain ⟨q17,Eq17,h⟩:=bind_some h
     refine gv (ji q17) (vW rfl h23 Eq17) fun h24=>g2 22 24 (ji (ior .i64 x8 q17)) h22 h24 fun h25=>gm h25 fun h6=>gq (.nbk (.nsq (rg (g1 11 (ji (w64 (x9 + 1))) h11 fun h26=>gm h26 fun h11=>gq (.nlp ?_)))))
     exact ih (.of ap16) (ior .i64 x8 q17) (w64 (x9 + 1)) _ ⟨h2,h4,h5,h6,h9,h10,h11⟩ h
   refine .exit (.esq (.elp (.ebk (.nsq (.seq (rg (gv (oI 5 [] x7) (Wm h5 ZL) fun h27=>gv (oI 5 [] x7) (Wm h27 ZL) fun h4=>yL (yr (r:=5) (x:=4) (v:=_) h4 ZL (fun s11 hz11=>?_)))))))))
   refine ez [(4,oI 4 [] x7)] (hz11 4 _ _ h4 (zl (r:=5) (p:=[]) rfl rfl)) ?_
   rintro s h4
   refine .nsq (.ret ?_)
   obtain rfl:=oi h
   exact rrA (zf h4) (ud (wl (o:=x7)) (wx rfl))
def wT (F:Nat) (x1:(S1 LI)) (x2:LI):Option LI:=
 xJ F x1 x2 F .nil 0 0
theorem t29 (H:H29 D σ F) (x1:(S1 LI)) (x2:LI) (s:Nat→V) (hs:zk [(0,.agg [eL x1.a]),(1,eL x2)] s) (h:wT F x1 x2=some r):Run D σ (R29 r) (.run A29 []) s:=by
 unfold wT at h
 obtain ⟨h0,h1⟩:=hs
 refine .seq (zo (zT ?_))
 refine ez [(0,_),(1,_),(2,_)] ⟨za h0 rfl (zF (ze me zm)),za h1 rfl me,zb rfl⟩ ?_
 rintro s ⟨h0,h1,h2⟩
 refine xo (.agg [eL x1.a]) (zx h0 rfl) h2 rfl (g0 nI fun h4=>gq (.nsq (.seq (rg (g0 nI fun h5=>gq (.nsq (.seq (rg (g0 (ji 0) fun h6=>gq (.nsq (.seq (.seq (rg (gm h1 fun h9=>gl x2 h9 fun h10=>g0 (ji 0) fun h11=>gq (.nsq (.block (.loop ?_)))))))))))))))))
 exact zhy H x1 x2 F .nil 0 0 _ ⟨rfl,h4,h5,h6,h9,h10,h11⟩ h
end
def e29 (F:Nat):Ent:=ent 29 (fun (x:((S1 LI)×LI×Unit))=>wT F x.1 x.2.1) (fun (r:LI)=>(eL r)) 0 false []
abbrev C29 (D:List V→Option V) (F:Nat):Prop:=∀ (x0:(S1 LI)) (x1:LI) r,wT F x0 x1=some r→D [Enc.enc x0,Enc.enc x1]=some (eL r)
theorem p29 {F:Nat}:C29 (e29 F).den F:=fun x0 x1 _ h=>zK (x0,x1,()) h
theorem o29 (hF:zr Try.prog D σ) (H:H29 D σ F):(e29 F).Ok Try.prog:=okZ (f:=29) Try.func29 fun ⟨x0,x1,_⟩ y hy=>cR hF Try.func29 c29 (t29 H x0 x1 _ ⟨rfl,rfl⟩ hy)
end Go.Zq
