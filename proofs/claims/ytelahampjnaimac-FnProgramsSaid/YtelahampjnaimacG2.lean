/- Functions of the program as typed functions, and that the machine runs as they say (part 2). No further condition. -/
import Derived.Test.YtelahampjnaimacK4
import Derived.Test.YtelahampjnaimacProg
import Derived.Test.YtelahampjnaimacChecked
import Derived.KernelRfl
import Derived.Test.YtelahampjnaimacG1
set_option linter.unusedVariables false
set_option linter.unusedSimpArgs false
namespace Go.Zq
open Go.Proofs
variable {D:Den} {σ:Sig} {F:Nat}
def ztr:AC:=(.seq (rr [jm 3 0,jx 4 (.callT (jf 67) [.t 3,jn 8] [0] []),jz (.store (.ag [.s,.p]) (.t 2) (.t 4))]) .ret)
def A46:AC:=(.seq (.reg [.clr [2]] [jx 2 (.alloc (.agg [i0,.sl .nl (.ag [.s,.s]) 0 []]))] []) ztr)
def zvR:List An:=[⟨0,[.clr [2]],[],[],[]⟩,⟨1,[],[],[2000000],[]⟩]
theorem c46:cq Try.prog Try.f46 zvR=some A46:=by kernel_rfl
structure H46 (D:Den) (σ:Sig) (F:Nat):Prop where
 c67:C67 (D 67) F
 g67:σ 67=some (uK,false)
abbrev R46 (r:(GR×CU)):(Nat→V)→Prop:=RT Try.prog [.cell 2 26] (Enc.enc (r.1:GR)) [cuV zO r.2]
section
variable {r:(GR×CU)}
def wc (F:Nat) (x1:CC):Option (GR×CU):=
 (wn F (Cu.mk x1.v) 8).bind fun r2=>
 some (r2.1,r2.2)
theorem t46 (H:H46 D σ F) (x1:CC) (s:Nat→V) (hs:zr [(0,bC x1.v)] s) (h:wc F x1=some r):Run D σ (R46 r) (.run A46 []) s:=by
 unfold wc at h
 have h0:=hs
 refine .seq (zw (zW ?_))
 refine ez [(0,_),(2,_)] ⟨za h0 rfl (zj rfl wW),ze rfl⟩ ?_
 rintro s ⟨h0,h2⟩
 refine y9 h2 (gq (.nsq (.seq (rg (gm h0 fun h3=>?_)))))
 obtain ⟨r2,Er2,h⟩:=zc h
 refine vf (r:=zO) (b:=0) (x:=x1.v) (x':=r2.2) (vs:=[Enc.enc (8:Int)]) (res:=Enc.enc (r2.1:GR)) h0 (by exact (zJ (v:=cuV zO x1.v) h3 rfl (zJ (v:=Enc.enc (8:Int)) rfl rfl yp))) (yb te yk) fm1 (H.c67 _ _ _ Er2) H.g67 te rfl (fun s2 hb2 ha2=>z5 (gV r2.1) (zB (show s2 2=(bZ 2) from ha2 2 (bZ 2) _ rfl rfl (zj rfl (mIx rfl))) rfl) (zB rfl rfl) (xo (by first | rfl | simp [V.toks,V.tokss,Enc.toks_enc,zY])) ?_)
 refine gz [(0,bC r2.2),(2,bG 2 r2.1)] ⟨zd (show s2 0=(bC r2.2) from hb2 0 h0) (zH rfl rfl WI),zd (show s2 2=(bZ 2) from ha2 2 (bZ 2) _ rfl rfl (zj rfl (mIx rfl))) rfl⟩ ?_
 rintro s ⟨h0,h2⟩
 refine .nsq (.ret ?_)
 obtain rfl:=oi h
 exact rt1 (t:=0) (xZ h2 (by kernel_rfl)) h0
end
def e46 (F:Nat):Ent:=ent 46 (fun (x:(CC×Unit))=>wc F x.1) (fun (r:(GR×CU))=>(.tup [Enc.enc (r.1:GR),.tup [cuV zO r.2]])) uK false []
abbrev C46 (D:List V→Option V) (F:Nat):Prop:=∀ (x0:CC) r,wc F x0=some r→D [Arg.arg x0]=some (.tup [Enc.enc (r.1:GR),.tup [cuV zO r.2]])
theorem p46 {F:Nat}:C46 (e46 F).den F:=fun x0 _ h=>zS (x0,()) h
theorem o46 (hF:zG Try.prog D σ) (H:H46 D σ F):(e46 F).Ok Try.prog:=okZ (f:=46) Try.func46 fun ⟨x0,_⟩ y hy=>cT hF Try.func46 c46 (t46 H x0 _ rfl hy)
def zrx:AC:=(.cond (.t 13) .skip (.exit 0))
def zsq:AC:=(.reg [.clr [21,25,27,28,32]] [jy 21 (.lit i0 0 []),jm 22 5,jm 23 7,jv 24 (.slice (.t 22) none (some (.t 23)) 1),jy 25 (.appS .s (.t 21) (.t 24)),jm 26 6,jx 27 (.lit i0 1 [(0,0,.t 26)]),jy 28 (.appS .s (.t 25) (.t 27)),jm 29 5,jm 30 7,jv 31 (.slice (.t 29) (some (.t 30)) none 1),jx 32 (.appS .s (.t 28) (.t 31)),jm 5 32] [.home 32 5])
def zrP:AC:=(rr [jm 14 6,jv 15 (.bin .add (.t 14) (jn 1)),jm 6 15])
def ztD:AC:=(.seq (.block 1 (.seq (rr [jm 16 0,jm 17 5,jk 18 17,jv 19 (.bin .add (.t 18) (jn 1)),jx 20 (.callT (jf 69) [.t 16,.t 19] [0] []),jm 7 20]) zsq)) zrP)
def ziR:AC:=(.seq (.seq (rr [jm 9 6,jv 10 (.fld (.t 3) 0 0),jl 11 10,jx 12 (.call (jf 68) [.t 11,jn 8]),jv 13 (.bin .lss (.t 9) (.t 12))]) zrx) ztD)
def ztz:AC:=(.cond (.t 34) (.reg [.clr [37,39,40]] [jm 35 5,jm 36 0,jx 37 (.litS i0 3 [(0,0,jn 0),(1,1,jn (-1)),(2,2,jn 8)]),jx 38 (.callT (jf 70) [.t 36,.t 37] [0] []),jx 39 (.lit i0 1 [(0,0,.t 38)]),jx 40 (.app .s (.t 35) (.t 39)),jm 5 40] [.home 40 5]) .skip)
def zr7:AC:=(.seq (.reg [] [jm 41 5,jm 4 41] [.home 5 4,.frz 4]) .ret)
def zlr:AC:=(.seq (.seq (rr [jm 33 0,jx 34 (.callT (jf 48) [.t 33,jn 24] [0] [])]) ztz) zr7)
def zoc:AC:=(.block 0 (.loop ziR))
def zoo:AC:=(.seq (.seq (rr [jv 6 (.mov (jn 0))]) zoc) zlr)
def zsh:AC:=(.seq (.reg [.clr [8]] [jx 8 (.lit i0 0 []),jm 5 8] [.home 8 5]) zoo)
def A47:AC:=(.seq (.reg [.clr [3]] [jx 3 (.box (.t 1)),jv 4 (.mov (.k (.sl .nl .s 0 [])))] []) zsh)
def zvP:List An:=[⟨0,[.clr [3]],[],[],[]⟩,⟨1,[.clr [8]],[],[],[.home 8 5]⟩,⟨5,[],[],[5000000],[]⟩,⟨6,[.clr [21,25,27,28,32]],[0,4,7],[4,7,11],[.home 32 5]⟩,⟨7,[],[],[2000000],[]⟩,⟨8,[.clr [37,39,40]],[],[4000000,6002],[.home 40 5]⟩,⟨9,[],[],[],[.home 5 4,.frz 4]⟩]
theorem c47:cq Try.prog Try.f47 zvP=some A47:=by kernel_rfl
structure H47 (D:Den) (σ:Sig) (F:Nat):Prop where
 c68:C68 (D 68) F
 g68:σ 68=some (0,false)
 c69:C69 (D 69) F
 g69:σ 69=some (uK,false)
 c48:C48 (D 48) F
 g48:σ 48=some (uK,false)
 c70:C70 (D 70) F
 g70:σ 70=some (uK,false)
abbrev R47 (r:(LI×CU)):(Nat→V)→Prop:=RT Try.prog [.tmp 4] (eL r.1) [cuV zO r.2]
section
variable {r:(LI×CU)}
def xz (F:Nat) (x2:GR) :Nat→LB→Int→Int→LI→Int→Option (LI×CU)
 | 0,_,_,_,_,_=>none
 | k + 1,x10,x11,x12,x13,x14=>
   (YK F x2.1 8).bind fun r22=>
   bif decide (x14 < r22) then
    (yj F (cu x10 x11 x12) (w64 ((x13.length:Int) + 1))).bind fun r23=>
    (sub x13 0 r23.1).bind fun sub24=>
    (vz [] sub24).bind fun ap25=>
    (vz ap25 [x14]).bind fun ap26=>
    (sub x13 r23.1 (x13.length:Int)).bind fun sub27=>
    (vz ap26 sub27).bind fun ap28=>
    (xz F x2 k) r23.2.a r23.2.b r23.2.c.v ap28 (w64 (x14 + 1))
   else
    (xY F (cu x10 x11 x12) 24).bind fun r29=>
    bif r29.1 then
     (yR F (Cu.mk r29.2) [0,(-1),8]).bind fun r30=>
     (vz x13 [r30.1]).bind fun ap31=>
     some (ap31,r30.2)
    else
     some (x13,r29.2)
theorem zh5 (H:H47 D σ F) (x2:GR) :∀ (k:Nat) (x10:LB) (x11:Int) (x12:Int) (x13:LI) (x14:Int) (s:Nat→V),zr [(0,.ref (.bx zO) 0 [] (.agg [eB x10,ji x11,.int .u64 x12])),(3,bG 3 x2),(4,nI),(5,oI 5 [] (.of x13)),(6,ji x14)] s→xz F x2 k x10 x11 x12 x13 x14=some r→Run D σ (R47 r) (.run ziR [.lp ziR,.bk 0,.sq zlr]) s:=by
 intro k
 induction k with
 | zero=>intro x10 x11 x12 x13 x14 s _ h;exact nm h
 | succ k ih=>
   intro x10 x11 x12 x13 x14 s hs h
   rw [xz] at h
   obtain ⟨h0,h3,h4,h5,h6⟩:=hs
   refine .seq (.seq (rg (gm h6 fun h9=>g1 3 (.ref (.bx 3) 0 [0] (ji x2.1)) h3 fun h10=>g1 10 (ji x2.1) h10 fun h11=>?_)))
   obtain ⟨r22,Er22,h⟩:=zc h
   refine gcF [Enc.enc (x2.1:Int),Enc.enc (8:Int)] (zf h11 rfl rfl (zf (v:=ji 8) rfl rfl rfl zC)) (H.c68 _ _ _ Er22) H.g68 (g2 9 12 (jb (decide (x14 < r22))) h9 (rf (ji r22)) fun h13=>gq (.nsq (zn h13 h (fun h=>?_) (fun h=>?_))))
   · refine .skip (.nsq (.seq (.block (.seq (rg (gm h0 fun h16=>gm h5 fun h17=>gv (ji (x13.length:Int)) (Mi (o:=.of x13) h17) fun h18=>g1 18 (ji (w64 ((x13.length:Int) + 1))) h18 fun h19=>?_))))))
     obtain ⟨r23,Er23,h⟩:=zc h
     refine vf (r:=zO) (b:=0) (x:=((S3.mk x10 x11 (Kd.mk x12:Kd .u64)):CU)) (x':=r23.2) (vs:=[Enc.enc (w64 ((x13.length:Int) + 1):Int)]) (res:=Enc.enc (r23.1:Int)) h0 (by exact (zJ (v:=cuV zO ((S3.mk x10 x11 (Kd.mk x12:Kd .u64)):CU)) h16 rfl (zJ (v:=Enc.enc (w64 ((x13.length:Int) + 1):Int)) h19 rfl yp))) (yb te yk) fm1 (H.c69 _ _ _ Er23) H.g69 te rfl (fun s10 hb10 ha10=>gm (rf (ji r23.1)) fun h7=>?_)
     refine gz [(0,_),(3,bG 3 x2),(4,nI),(5,oI 5 [] (.of x13)),(6,ji x14),(7,_)] ⟨(show s10 0=(bC r23.2) from hb10 0 h0),(show s10 3=(bG 3 x2) from ha10 3 _ _ h3 rfl (zj rfl mIE)),(show s10 4=nI from ha10 4 _ _ h4 rfl rfl),(show s10 5=(oI 5 [] (.of x13)) from ha10 5 _ _ h5 rfl (zl (r:=5) (p:=[]) rfl rfl)),(show s10 6=(ji x14) from ha10 6 _ _ h6 rfl mi),h7⟩ ?_
     rintro s ⟨h0,h3,h4,h5,h6,h7⟩
     refine .nsq (zw (zW ?_))
     refine ez [(0,_),(3,_),(4,_),(5,_),(6,_),(7,_),(21,_),(25,_),(27,_),(28,_),(32,_)] ⟨za h0 rfl (zj rfl wW),za h3 rfl (zj rfl mIE),za h4 rfl rfl,za h5 rfl (zl (r:=5) (p:=[]) rfl rfl),za h6 rfl mi,za h7 rfl mi,ze rfl,ze rfl,ze rfl,ze rfl,ze rfl⟩ ?_
     rintro s ⟨h0,h3,h4,h5,h6,h7,h21,h25,h27,h28,h32⟩
     refine zaz [] [] trivial rfl rfl h21 (gm h5 fun h22=>gm h7 fun h23=>?_)
     obtain ⟨sub24,Esub24,h⟩:=zc h
     refine gv (.sl (.at 5 []) (Enc.shp Int) (Int.toNat 0) ((sub24:LI).map Enc.enc)) (N4 (xs:=x13) h22 (YN) (YD h23) Esub24 rfl) fun h24=>?_
     obtain ⟨ap25,Eap25,h⟩:=zc h
     refine UT (p:=[]) (xs:=[]) (ys:=(sub24:LI)) (t2:=.at 5 []) (lo2:=Int.toNat 0) rfl h24 rfl h25 rfl Eap25 (gm h6 fun h26=>xb [(26,ji x14)] [Enc.enc (x14:Int)] h26 rfl rfl h27 ?_)
     obtain ⟨ap26,Eap26,h⟩:=zc h
     refine UT (p:=[]) (xs:=ap25) (ys:=([x14]:LI)) (t2:=.at 27 []) (lo2:=0) rfl rfl rfl h28 rfl Eap26 (gm h5 fun h29=>gm h7 fun h30=>?_)
     obtain ⟨sub27,Esub27,h⟩:=zc h
     refine gv (.sl (.at 5 []) (Enc.shp Int) (Int.toNat r23.1) ((sub27:LI).map Enc.enc)) (N4 (xs:=x13) h29 (YD h30) (YN) Esub27 rfl) fun h31=>?_
     obtain ⟨ap28,Eap28,h⟩:=zc h
     refine UT (p:=[]) (xs:=ap26) (ys:=(sub27:LI)) (t2:=.at 5 []) (lo2:=Int.toNat r23.1) rfl h31 rfl h32 rfl Eap28 (gm (rf (oI 32 [] (.of ap28))) fun h5=>yK (yo (r:=32) (x:=5) (v:=_) h5 rfl (fun s12 hz12=>?_)))
     refine ez [(0,bC r23.2),(3,bG 3 x2),(4,nI),(5,oI 5 [] (.of ap28)),(6,ji x14)] ⟨hz12 0 _ _ h0 (zj rfl wW),hz12 3 _ _ h3 (zj rfl mIE),hz12 4 _ _ h4 rfl,hz12 5 _ _ h5 (zl (r:=32) (p:=[]) rfl rfl),hz12 6 _ _ h6 mi⟩ ?_
     rintro s ⟨h0,h3,h4,h5,h6⟩
     refine .nbk (.nsq (rg (gm h6 fun h14=>g1 14 (ji (w64 (x14 + 1))) h14 fun h15=>gm h15 fun h6=>gq (.nlp ?_))))
     exact ih r23.2.a r23.2.b r23.2.c.v ap28 (w64 (x14 + 1)) _ ⟨h0,h3,h4,h5,h6⟩ h
   refine .exit (.esq (.elp (.ebk (.nsq (.seq (.seq (rg (gm h0 fun h33=>?_))))))))
   obtain ⟨r29,Er29,h⟩:=zc h
   refine vf (r:=zO) (b:=0) (x:=((S3.mk x10 x11 (Kd.mk x12:Kd .u64)):CU)) (x':=r29.2) (vs:=[Enc.enc (24:Int)]) (res:=Enc.enc (r29.1:Bool)) h0 (by exact (zJ (v:=cuV zO ((S3.mk x10 x11 (Kd.mk x12:Kd .u64)):CU)) h33 rfl (zJ (v:=Enc.enc (24:Int)) rfl rfl yp))) (yb te yk) fm1 (H.c48 _ _ _ Er29) H.g48 te rfl (fun s13 hb13 ha13=>gz [(0,_),(4,nI),(5,oI 5 [] (.of x13)),(34,jb r29.1)] ⟨(show s13 0=(bC r29.2) from hb13 0 h0),(show s13 4=nI from ha13 4 _ _ h4 rfl rfl),(show s13 5=(oI 5 [] (.of x13)) from ha13 5 _ _ h5 rfl (zl (r:=5) (p:=[]) rfl rfl)),rfl⟩ ?_)
   rintro s ⟨h0,h4,h5,h34⟩
   refine .nsq (zn h34 h (fun h=>?_) (fun h=>?_))
   · refine zw (zW ?_)
     refine ez [(0,_),(4,_),(5,_),(37,_),(39,_),(40,_)] ⟨za h0 rfl (zj rfl wW),za h4 rfl rfl,za h5 rfl (zl (r:=5) (p:=[]) rfl rfl),ze rfl,ze rfl,ze rfl⟩ ?_
     rintro s ⟨h0,h4,h5,h37,h39,h40⟩
     refine gm h5 fun h35=>gm h0 fun h36=>KU [] ([0,(-1),8]:LI) trivial rfl rfl rfl h37 (fun s15 hd_15 hl_15=>?_)
     obtain ⟨r30,Er30,h⟩:=zc h
     refine vf (r:=zO) (b:=0) (x:=r29.2) (x':=r30.2) (vs:=[Enc.enc ([0,(-1),8]:LI)]) (res:=Enc.enc (r30.1:Int)) (show s15 0=(bC r29.2) from (hl_15 0 (by decide)).trans h0) (by exact (zJ (v:=cuV zO r29.2) (show s15 36=(bC r29.2) from (hl_15 36 (by decide)).trans h36) rfl (zJ (v:=Enc.enc ([0,(-1),8]:LI)) (show s15 37=(eL [0,(-1),8]) from hd_15) rfl yp))) (yb te yk) fm1 (H.c70 _ _ _ Er30) H.g70 te rfl (fun s16 hb16 ha16=>xb [(38,ji r30.1)] [Enc.enc (r30.1:Int)] rfl rfl rfl (show s16 39 = .gone from ha16 39 _ _ (show s15 39 = .gone from (hl_15 39 (by decide)).trans h39) rfl rfl) ?_)
     obtain ⟨ap31,Eap31,h⟩:=zc h
     refine Z0 (q:=5) (p:=[]) (o:=.of (x13:LI)) (ys:=([r30.1]:LI)) (t2:=.at 39 []) (lo2:=0) (show s16 35=(oI 5 [] (.of x13)) from ha16 35 _ _ (show s15 35=(oI 5 [] (.of x13)) from (hl_15 35 (by decide)).trans h35) rfl (zl (r:=5) (p:=[]) rfl rfl)) rfl rfl (show s16 40 = .gone from ha16 40 _ _ (show s15 40 = .gone from (hl_15 40 (by decide)).trans h40) rfl rfl) (vK (o:=.of (x13:LI)) Eap31 trivial) (fun s17 ha17=>gm (rf (oI 40 [] (.of ap31))) fun h5=>yK (yo (r:=40) (x:=5) (v:=_) h5 rfl (fun s18 hz18=>?_)))
     refine ez [(0,bC r30.2),(4,nI),(5,oI 5 [] (.of ap31))] ⟨hz18 0 _ _ (show s17 0=(bC r30.2) from zy ha17 (show s16 0=(bC r30.2) from hb16 0 (show s15 0=(bC r29.2) from (hl_15 0 (by decide)).trans h0)) (zj rfl wW)) (zj rfl wW),hz18 4 _ nI (show s17 4=nI from zy ha17 (show s16 4=nI from ha16 4 _ _ (show s15 4=nI from (hl_15 4 (by decide)).trans h4) rfl rfl) rfl) rfl,hz18 5 _ _ h5 (zl (r:=40) (p:=[]) rfl rfl)⟩ ?_
     rintro s ⟨h0,h4,h5⟩
     refine .nsq (.seq (rg (gm h5 fun h41=>gm h41 fun h4=>yK (yo (r:=5) (x:=4) (v:=_) h4 rfl (fun s19 hz19=>Yt (x:=4) (v:=oI 4 [] (.of ap31)) [.at 4 []] (by exact (hz19 4 _ _ h4 (zl (r:=5) (p:=[]) rfl rfl))) z8 (fun s20 hz20=>?_))))))
     refine ez [(0,bC r30.2),(4,eL ap31)] ⟨hz20 0 (bC r30.2) (bC r30.2) (hz19 0 _ _ h0 (zj rfl wW)) (yV rfl Nu rfl),hz20 4 (oI 4 [] (.of ap31)) (eL ap31) (hz19 4 _ _ h4 (zl (r:=5) (p:=[]) rfl rfl)) vJ⟩ ?_
     rintro s ⟨h0,h4⟩
     refine .nsq (.ret ?_)
     obtain rfl:=oi h
     exact rt1 (t:=0) (zm h4) h0
   refine .skip (.nsq (.seq (rg (gm h5 fun h41=>gm h41 fun h4=>yK (yo (r:=5) (x:=4) (v:=_) h4 rfl (fun s21 hz21=>Yt (x:=4) (v:=oI 4 [] (.of x13)) [.at 4 []] (by exact (hz21 4 _ _ h4 (zl (r:=5) (p:=[]) rfl rfl))) z8 (fun s22 hz22=>?_)))))))
   refine ez [(0,bC r29.2),(4,eL x13)] ⟨hz22 0 (bC r29.2) (bC r29.2) (hz21 0 _ _ h0 (zj rfl wW)) (yV rfl Nu rfl),hz22 4 (oI 4 [] (.of x13)) (eL x13) (hz21 4 _ _ h4 (zl (r:=5) (p:=[]) rfl rfl)) vJ⟩ ?_
   rintro s ⟨h0,h4⟩
   refine .nsq (.ret ?_)
   obtain rfl:=oi h
   exact rt1 (t:=0) (zm h4) h0
def wN (F:Nat) (x1:CC) (x2:GR):Option (LI×CU):=
 xz F x2 F x1.v.a x1.v.b x1.v.c.v [] 0
theorem t47 (H:H47 D σ F) (x1:CC) (x2:GR) (s:Nat→V) (hs:zr [(0,bC x1.v),(1,gV x2)] s) (h:wN F x1 x2=some r):Run D σ (R47 r) (.run A47 []) s:=by
 unfold wN at h
 obtain ⟨h0,h1⟩:=hs
 refine .seq (zw (zW ?_))
 refine ez [(0,_),(1,_),(3,_)] ⟨za h0 rfl (zj rfl wW),za h1 rfl mIE,ze rfl⟩ ?_
 rintro s ⟨h0,h1,h3⟩
 refine xn (gV x2) (zB h1 rfl) h3 rfl (g0 nI fun h4=>gq (.nsq (.seq (zw (zW ?_)))))
 refine ez [(0,_),(3,_),(4,_),(8,_)] ⟨za h0 rfl (zj rfl wW),za rfl rfl (zj rfl mIE),za h4 rfl rfl,ze rfl⟩ ?_
 rintro s ⟨h0,h3,h4,h8⟩
 refine xb [] [] trivial rfl rfl h8 (gm (rf (oI 8 [] (.of []))) fun h5=>yK (yo (r:=8) (x:=5) (v:=_) h5 rfl (fun s3 hz3=>?_)))
 refine ez [(0,bC x1.v),(3,bG 3 x2),(4,nI),(5,oI 5 [] (.of []))] ⟨hz3 0 _ _ h0 (zj rfl wW),hz3 3 _ _ h3 (zj rfl mIE),hz3 4 _ _ h4 rfl,hz3 5 _ _ h5 (zl (r:=8) (p:=[]) rfl rfl)⟩ ?_
 rintro s ⟨h0,h3,h4,h5⟩
 refine .nsq (.seq (.seq (rg (g0 (ji 0) fun h6=>gq (.nsq (.block (.loop ?_)))))))
 exact zh5 H x2 F x1.v.a x1.v.b x1.v.c.v [] 0 _ ⟨h0,h3,h4,h5,h6⟩ h
end
def e47 (F:Nat):Ent:=ent 47 (fun (x:(CC×GR×Unit))=>wN F x.1 x.2.1) (fun (r:(LI×CU))=>(.tup [eL r.1,.tup [cuV zO r.2]])) uK false []
abbrev C47 (D:List V→Option V) (F:Nat):Prop:=∀ (x0:CC) (x1:GR) r,wN F x0 x1=some r→D [Arg.arg x0,Enc.enc x1]=some (.tup [eL r.1,.tup [cuV zO r.2]])
theorem p47 {F:Nat}:C47 (e47 F).den F:=fun x0 x1 _ h=>zS (x0,x1,()) h
theorem o47 (hF:zG Try.prog D σ) (H:H47 D σ F):(e47 F).Ok Try.prog:=okZ (f:=47) Try.func47 fun ⟨x0,x1,_⟩ y hy=>cT hF Try.func47 c47 (t47 H x0 x1 _ ⟨rfl,rfl⟩ hy)
def ztx:AC:=(.seq (rr [jm 7 0,jm 8 1,jv 9 (.bin .geq (.t 7) (.t 8)),jm 10 9,jg 11 10 true (.mov (.t 0)),jg 12 10 true (.mov (.t 2)),jg 13 10 true (.bin .leq (.t 11) (.t 12)),jv 14 (.pick (.t 10) (.t 13) kf),jm 6 14]) .ret)
def A50:AC:=(.seq (rr [jv 6 (.mov kf)]) ztx)
def zv8:List An:=[]
theorem c50:cq Try.prog Try.f50 zv8=some A50:=by kernel_rfl
structure H50 (D:Den) (σ:Sig) (F:Nat):Prop where
 mk ::
abbrev R50 (r:Bool):(Nat→V)→Prop:=RR Try.prog [.tmp 6] 0 false (Enc.enc (r:Bool))
section
variable {r:Bool}
def WX (F:Nat) (x1:Int) (x2:Int) (x3:Int):Option Bool:=
 bif decide (x1≥x2) then
  some (decide (x1≤x3))
 else
  some false
theorem t50 (H:H50 D σ F) (x1:Int) (x2:Int) (x3:Int) (s:Nat→V) (hs:zr [(0,ji x1),(1,ji x2),(2,ji x3)] s) (h:WX F x1 x2 x3=some r):Run D σ (R50 r) (.run A50 []) s:=by
 unfold WX at h
 obtain ⟨h0,h1,h2⟩:=hs
 refine .seq (rg (g0 (jb false) fun h6=>gq (.nsq (.seq (rg (gm h0 fun h7=>gm h1 fun h8=>g2 7 8 (jb (decide (x1≥x2))) h7 h8 fun h9=>gm h9 fun h10=>zX h (fun hg4 h=>?_) (fun hg4 h=>?_)))))))
 · refine zp (ct h10 hg4) (gm h0 fun h11=>zp (ct h10 hg4) (gm h2 fun h12=>zp (ct h10 hg4) (g2 11 12 (jb (decide (x1≤x3))) h11 h12 fun h13=>g2 10 13 (jb (decide (x1≤x3))) (ct h10 hg4) h13 fun h14=>gm h14 fun h6=>gq (.nsq (.ret ?_)))))
   obtain rfl:=oi h
   exact rrA (zm h6) rfl
 iterate 3 refine yq (ct h10 hg4) ?_
 refine g2 10 13 (jb false) (ct h10 hg4) (rf (.tup [])) fun h14=>gm h14 fun h6=>gq (.nsq (.ret ?_))
 obtain rfl:=oi h
 exact rrA (zm h6) rfl
end
def e50 (F:Nat):Ent:=ent 50 (fun (x:(Int×Int×Int×Unit))=>WX F x.1 x.2.1 x.2.2.1) (fun (r:Bool)=>(Enc.enc (r:Bool))) 0 false []
abbrev C50 (D:List V→Option V) (F:Nat):Prop:=∀ (x0:Int) (x1:Int) (x2:Int) r,WX F x0 x1 x2=some r→D [Enc.enc x0,Enc.enc x1,Enc.enc x2]=some (Enc.enc (r:Bool))
theorem p50 {F:Nat}:C50 (e50 F).den F:=fun x0 x1 x2 _ h=>zS (x0,x1,x2,()) h
theorem o50 (hF:zG Try.prog D σ) (H:H50 D σ F):(e50 F).Ok Try.prog:=okZ (f:=50) Try.func50 fun ⟨x0,x1,x2,_⟩ y hy=>cR hF Try.func50 c50 (t50 H x0 x1 x2 _ ⟨rfl,rfl,rfl⟩ hy)
def zoB:AC:=(.cond (.t 9) .skip (.exit 0))
def zk0:AC:=(.cond (.t 54) (.seq (rr [jv 2 (.mov kf)]) .ret) .skip)
def zqV:AC:=(.seq (rr [jv 17 (.idxA (.t 4) (jn 0) 2 1),jl 18 17,jv 19 (.fld (.t 1) 0 0),jl 20 19,jv 21 (.bin .sub (.t 20) (jn 1)),jx 22 (.call (jf 50) [.t 18,jn 0,.t 21]),jv 23 (.un .not (.t 22)),jm 24 23,jg 25 24 false (.idxA (.t 4) (jn 1) 2 1),jg 26 24 false (.load .s (.t 25)),jg 27 24 false (.fld (.t 1) 0 0),jg 28 24 false (.load .s (.t 27)),jg 29 24 false (.bin .sub (.t 28) (jn 1)),.mk (some 30) (some (24,false)) false (.call (jf 50) [.t 26,jn 0,.t 29]),jg 31 24 false (.un .not (.t 30)),jv 32 (.pick (.t 24) kt (.t 31)),jm 33 32,jg 34 33 false (.idxA (.t 4) (jn 0) 2 1),jg 35 33 false (.load .s (.t 34)),jg 36 33 false (.idxA (.t 4) (jn 1) 2 1),jg 37 33 false (.load .s (.t 36)),jg 38 33 false (.bin .geq (.t 35) (.t 37)),jv 39 (.pick (.t 33) kt (.t 38)),jm 40 39,jg 41 40 false (.mov (.t 3)),jg 42 40 false (.bin .gtr (.t 41) (jn 0)),jg 43 40 false (.mov (.t 42)),jg 44 43 true (.fld (.t 1) 1 1),jg 45 43 true (.load .p (.t 44)),jg 46 43 true (.mov (.t 3)),jg 47 43 true (.bin .sub (.t 46) (jn 1)),jg 48 43 true (.idx (.t 45) (.t 47) 2),jg 49 43 true (.load (.ag [.s,.s]) (.t 48)),jg 50 43 true (.load (.ag [.s,.s]) (.t 4)),.mk (some 51) (some (43,true)) false (.call (jf 51) [.t 49,.t 50]),jg 52 43 true (.un .not (.t 51)),jg 53 40 false (.pick (.t 43) (.t 52) kf),jv 54 (.pick (.t 40) kt (.t 53))]) zk0)
def zl0:AC:=(rr [jm 10 3,jv 11 (.bin .add (.t 10) (jn 1)),jm 3 11])
def zqQ:AC:=(.seq (.block 1 (.seq (.reg [.clr [4]] [jv 12 (.fld (.t 1) 1 1),jv 13 (.load .p (.t 12)),jm 14 3,jv 15 (.idx (.t 13) (.t 14) 2),jv 16 (.load (.ag [.s,.s]) (.t 15)),jx 4 (.alloc (.agg [i0,i0])),jz (.store (.ag [.s,.s]) (.t 4) (.t 16))] []) zqV)) zl0)
def Qm:AC:=(.seq (.seq (rr [jm 5 3,jv 6 (.fld (.t 1) 1 1),jv 7 (.load .p (.t 6)),jk 8 7,jv 9 (.bin .lss (.t 5) (.t 8))]) zoB) zqQ)
def zd7:AC:=(.seq (rr [jv 55 (.fld (.t 1) 0 0),jl 56 55,jx 57 (.call (jf 50) [.t 56,jn 0,jn 8]),jm 2 57]) .ret)
def zqR:AC:=(.block 0 (.loop Qm))
def zrL:AC:=(.seq (.seq (rr [jv 3 (.mov (jn 0))]) zqR) zd7)
def A28:AC:=(.seq (.reg [.clr [1]] [jx 1 (.box (.t 0)),jv 2 (.mov kf)] []) zrL)
def zv1:List An:=[⟨0,[.clr [1]],[],[],[]⟩,⟨4,[.clr [4]],[],[],[]⟩]
theorem c28:cq Try.prog Try.f28 zv1=some A28:=by kernel_rfl
structure H28 (D:Den) (σ:Sig) (F:Nat):Prop where
 c50:C50 (D 50) F
 g50:σ 50=some (0,false)
 c51:C51 (D 51) F
 g51:σ 51=some (0,false)
abbrev R28 (r:Bool):(Nat→V)→Prop:=RR Try.prog [.tmp 2] 0 false (Enc.enc (r:Bool))
section
variable {r:Bool}
def uR (F:Nat) (x1:GR) (x12:Int) (c1:Int→Option Bool) (x28:Bool):Option Bool:=
 bif x28 then
  some false
 else
  c1 (w64 (x12 + 1))
theorem Jk (H:H28 D σ F) (x1:GR) (x12:Int) (c1:Int→Option Bool) (Hc1:∀ (x12:Int) (s:Nat→V),zr [(1,bG 1 x1),(2,jb false),(3,ji x12)] s→c1 x12=some r→Run D σ (R28 r) (.run Qm [.lp Qm,.bk 0,.sq zd7]) s) (x28:Bool) (s:Nat→V) (hs:zr [(1,bG 1 x1),(2,jb false),(3,ji x12),(54,jb x28)] s) (h:uR F x1 x12 c1 x28=some r):Run D σ (R28 r) (.nrm [.sq zk0,.bk 1,.sq zl0,.lp Qm,.bk 0,.sq zd7]) s:=by
 unfold uR at h
 obtain ⟨h1,h2,h3,h54⟩:=hs
 refine .nsq (zn h54 h (fun h=>?_) (fun h=>?_))
 · refine .seq (rg (g0 (jb false) fun h2=>gq (.nsq (.ret ?_))))
   obtain rfl:=oi h
   exact rrA (zm h2) rfl
 refine .skip (.nbk (.nsq (rg (gm h3 fun h10=>g1 10 (ji (w64 (x12 + 1))) h10 fun h11=>gm h11 fun h3=>gq (.nlp ?_)))))
 exact Hc1 (w64 (x12 + 1)) _ ⟨h1,h2,h3⟩ h
def xu (F:Nat) (x1:GR) :Nat→Int→Option Bool
 | 0,_=>none
 | k + 1,x12=>
   bif decide (x12 < (x1.2.length:Int)) then
    (idx x1.2 x12).bind fun v23=>
    (WX F v23.1 0 (w64 (x1.1 - 1))).bind fun r29=>
    bif (!r29) then
     uR F x1 x12 (xu F x1 k) true
    else
     (WX F v23.2 0 (w64 (x1.1 - 1))).bind fun r30=>
     bif (!r30) then
      uR F x1 x12 (xu F x1 k) true
     else
      bif decide (v23.1≥v23.2) then
       uR F x1 x12 (xu F x1 k) true
      else
       bif decide (x12 > 0) then
        (idx x1.2 (w64 (x12 - 1))).bind fun v31=>
        (ZK F v31 v23).bind fun r32=>
        uR F x1 x12 (xu F x1 k) (!r32)
       else
        uR F x1 x12 (xu F x1 k) false
   else
    (WX F x1.1 0 8).bind fun r33=>
    some r33
theorem zgX (H:H28 D σ F) (x1:GR) :∀ (k:Nat) (x12:Int) (s:Nat→V),zr [(1,bG 1 x1),(2,jb false),(3,ji x12)] s→xu F x1 k x12=some r→Run D σ (R28 r) (.run Qm [.lp Qm,.bk 0,.sq zd7]) s:=by
 intro k
 induction k with
 | zero=>intro x12 s _ h;exact nm h
 | succ k ih=>
   intro x12 s hs h
   rw [xu] at h
   obtain ⟨h1,h2,h3⟩:=hs
   refine .seq (.seq (rg (gm h3 fun h5=>g1 1 (.ref (.bx 1) 0 [1] (eP x1.2)) h1 fun h6=>g1 6 (eP x1.2) h6 fun h7=>gl x1.2 h7 fun h8=>g2 5 8 (jb (decide (x12 < (x1.2.length:Int)))) h5 h8 fun h9=>gq (.nsq (zn h9 h (fun h=>?_) (fun h=>?_))))))
   · refine .skip (.nsq (.seq (.block (.seq (zw (zW ?_))))))
     refine ez [(1,_),(2,_),(3,_),(4,_)] ⟨za h1 rfl (zj rfl mIE),za h2 rfl mb,za h3 rfl mi,ze rfl⟩ ?_
     rintro s ⟨h1,h2,h3,h4⟩
     refine g1 1 (.ref (.bx 1) 0 [1] (eP x1.2)) h1 fun h12=>g1 12 (eP x1.2) h12 fun h13=>gm h3 fun h14=>?_
     obtain ⟨v23,Ev23,h⟩:=zc h
     refine gv (.ref .sh 0 [] (.agg [ji v23.1,ji v23.2])) (yg (t:=.sh) (lo:=0) (xs:=x1.2) h13 h14 Ev23 rfl rfl) fun h15=>g1 15 (.agg [ji v23.1,ji v23.2]) h15 fun h16=>y9 h4 (z5 (.agg [ji v23.1,ji v23.2]) (zB rfl rfl) (zB h16 rfl) (xo (by first | rfl | simp [V.toks,V.tokss,Enc.toks_enc,zY])) (gz [(1,bG 1 x1),(2,jb false),(3,ji x12),(4,.ref (.bx 4) 0 [] (.agg [ji v23.1,ji v23.2]))] ⟨zd h1 (zH rfl rfl uIE),zd h2 rfl,zd h3 rfl,zd rfl rfl⟩ ?_))
     rintro s ⟨h1,h2,h3,h4⟩
     refine .nsq (.seq (rg (g1 4 (.ref (.bx 4) 0 [0] (ji v23.1)) h4 fun h17=>g1 17 (ji v23.1) h17 fun h18=>g1 1 (.ref (.bx 1) 0 [0] (ji x1.1)) h1 fun h19=>g1 19 (ji x1.1) h19 fun h20=>g1 20 (ji (w64 (x1.1 - 1))) h20 fun h21=>?_)))
     obtain ⟨r29,Er29,h⟩:=zc h
     refine gcF [Enc.enc (v23.1:Int),Enc.enc (0:Int),Enc.enc (w64 (x1.1 - 1):Int)] (zf h18 rfl rfl (zf (v:=ji 0) rfl rfl rfl (zf h21 rfl rfl zC))) (H.c50 _ _ _ _ Er29) H.g50 (g1 22 (jb (!r29)) (rf (jb r29)) fun h23=>gm h23 fun h24=>zX h (fun hg8 h=>?_) (fun hg8 h=>?_))
     · iterate 7 refine yq (ct h24 hg8) ?_
       refine g2 24 31 (jb true) (ct h24 hg8) (rf (.tup [])) fun h32=>gm h32 fun h33=>yq h33 ?_
       iterate 4 refine yq h33 ?_
       refine g2 33 38 (jb true) h33 (rf (.tup [])) fun h39=>gm h39 fun h40=>yq h40 ?_
       iterate 2 refine yq h40 ?_
       iterate 9 refine XO rfl ?_
       refine yq h40 (g2 40 53 (jb true) h40 (rf (.tup [])) fun h54=>gz [(1,_),(2,_),(3,_),(54,_)] ⟨h1,h2,h3,h54⟩ ?_)
       rintro s ⟨h1,h2,h3,h54⟩
       exact Jk H x1 x12 (xu F x1 k) ih true _ ⟨h1,h2,h3,h54⟩ h
     refine zp (ct h24 hg8) (g1 4 (.ref (.bx 4) 0 [1] (ji v23.2)) h4 fun h25=>zp (ct h24 hg8) (g1 25 (ji v23.2) h25 fun h26=>zp (ct h24 hg8) (g1 1 (.ref (.bx 1) 0 [0] (ji x1.1)) h1 fun h27=>zp (ct h24 hg8) (g1 27 (ji x1.1) h27 fun h28=>zp (ct h24 hg8) (g1 28 (ji (w64 (x1.1 - 1))) h28 fun h29=>?_)))))
     obtain ⟨r30,Er30,h⟩:=zc h
     refine zp (ct h24 hg8) (gcF [Enc.enc (v23.2:Int),Enc.enc (0:Int),Enc.enc (w64 (x1.1 - 1):Int)] (zf h26 rfl rfl (zf (v:=ji 0) rfl rfl rfl (zf h29 rfl rfl zC))) (H.c50 _ _ _ _ Er30) H.g50 (zp (ct h24 hg8) (g1 30 (jb (!r30)) (rf (jb r30)) fun h31=>g2 24 31 (jb (!r30)) (ct h24 hg8) h31 fun h32=>gm h32 fun h33=>zX h (fun hg17 h=>?_) (fun hg17 h=>?_))))
     · iterate 5 refine yq (ct h33 hg17) ?_
       refine g2 33 38 (jb true) (ct h33 hg17) (rf (.tup [])) fun h39=>gm h39 fun h40=>yq h40 ?_
       iterate 2 refine yq h40 ?_
       iterate 9 refine XO rfl ?_
       refine yq h40 (g2 40 53 (jb true) h40 (rf (.tup [])) fun h54=>gz [(1,_),(2,_),(3,_),(54,_)] ⟨h1,h2,h3,h54⟩ ?_)
       rintro s ⟨h1,h2,h3,h54⟩
       exact Jk H x1 x12 (xu F x1 k) ih true _ ⟨h1,h2,h3,h54⟩ h
     refine zp (ct h33 hg17) (g1 4 (.ref (.bx 4) 0 [0] (ji v23.1)) h4 fun h34=>zp (ct h33 hg17) (g1 34 (ji v23.1) h34 fun h35=>zp (ct h33 hg17) (g1 4 (.ref (.bx 4) 0 [1] (ji v23.2)) h4 fun h36=>zp (ct h33 hg17) (g1 36 (ji v23.2) h36 fun h37=>zp (ct h33 hg17) (g2 35 37 (jb (decide (v23.1≥v23.2))) h35 h37 fun h38=>g2 33 38 (jb (decide (v23.1≥v23.2))) (ct h33 hg17) h38 fun h39=>gm h39 fun h40=>zX h (fun hg24 h=>?_) (fun hg24 h=>?_))))))
     · iterate 3 refine yq (ct h40 hg24) ?_
       iterate 9 refine XO rfl ?_
       refine yq (ct h40 hg24) (g2 40 53 (jb true) (ct h40 hg24) (rf (.tup [])) fun h54=>gz [(1,_),(2,_),(3,_),(54,_)] ⟨h1,h2,h3,h54⟩ ?_)
       rintro s ⟨h1,h2,h3,h54⟩
       exact Jk H x1 x12 (xu F x1 k) ih true _ ⟨h1,h2,h3,h54⟩ h
     refine zp (ct h40 hg24) (gm h3 fun h41=>zp (ct h40 hg24) (g1 41 (jb (decide (x12 > 0))) h41 fun h42=>zp (ct h40 hg24) (gm h42 fun h43=>zX h (fun hg27 h=>?_) (fun hg27 h=>?_))))
     · refine zp (ct h43 hg27) (g1 1 (.ref (.bx 1) 0 [1] (eP x1.2)) h1 fun h44=>zp (ct h43 hg27) (g1 44 (eP x1.2) h44 fun h45=>zp (ct h43 hg27) (gm h3 fun h46=>zp (ct h43 hg27) (g1 46 (ji (w64 (x12 - 1))) h46 fun h47=>?_))))
       obtain ⟨v31,Ev31,h⟩:=zc h
       refine zp (ct h43 hg27) (gv (.ref .sh 0 [] (.agg [ji v31.1,ji v31.2])) (yg (t:=.sh) (lo:=0) (xs:=x1.2) h45 h47 Ev31 rfl rfl) fun h48=>zp (ct h43 hg27) (g1 48 (.agg [ji v31.1,ji v31.2]) h48 fun h49=>zp (ct h43 hg27) (g1 4 (.agg [ji v23.1,ji v23.2]) h4 fun h50=>?_)))
       obtain ⟨r32,Er32,h⟩:=zc h
       refine zp (ct h43 hg27) (gcF [Enc.enc (v31:(Int×Int)),Enc.enc (v23:(Int×Int))] (zf h49 rfl (Enc.erase_enc (v31:(Int×Int))) (zf h50 rfl (Enc.erase_enc (v23:(Int×Int))) zC)) (H.c51 _ _ _ Er32) H.g51 (zp (ct h43 hg27) (g1 51 (jb (!r32)) (rf (jb r32)) fun h52=>zp (ct h40 hg24) (g2 43 52 (jb (!r32)) (ct h43 hg27) h52 fun h53=>g2 40 53 (jb (!r32)) (ct h40 hg24) h53 fun h54=>gz [(1,_),(2,_),(3,_),(54,_)] ⟨h1,h2,h3,h54⟩ ?_))))
       rintro s ⟨h1,h2,h3,h54⟩
       exact Jk H x1 x12 (xu F x1 k) ih (!r32) _ ⟨h1,h2,h3,h54⟩ h
     iterate 9 refine yq (ct h43 hg27) ?_
     refine zp (ct h40 hg24) (g2 43 52 (jb false) (ct h43 hg27) (rf (.tup [])) fun h53=>g2 40 53 (jb false) (ct h40 hg24) h53 fun h54=>gz [(1,_),(2,_),(3,_),(54,_)] ⟨h1,h2,h3,h54⟩ ?_)
     rintro s ⟨h1,h2,h3,h54⟩
     exact Jk H x1 x12 (xu F x1 k) ih false _ ⟨h1,h2,h3,h54⟩ h
   refine .exit (.esq (.elp (.ebk (.nsq (.seq (rg (g1 1 (.ref (.bx 1) 0 [0] (ji x1.1)) h1 fun h55=>g1 55 (ji x1.1) h55 fun h56=>?_)))))))
   obtain ⟨r33,Er33,h⟩:=zc h
   refine gcF [Enc.enc (x1.1:Int),Enc.enc (0:Int),Enc.enc (8:Int)] (zf h56 rfl rfl (zf (v:=ji 0) rfl rfl rfl (zf (v:=ji 8) rfl rfl rfl zC))) (H.c50 _ _ _ _ Er33) H.g50 (gm (rf (jb r33)) fun h2=>gq (.nsq (.ret ?_)))
   obtain rfl:=oi h
   exact rrA (zm h2) rfl
def ug (F:Nat) (x1:GR):Option Bool:=
 xu F x1 F 0
theorem t28 (H:H28 D σ F) (x1:GR) (s:Nat→V) (hs:zr [(0,gV x1)] s) (h:ug F x1=some r):Run D σ (R28 r) (.run A28 []) s:=by
 unfold ug at h
 have h0:=hs
 refine .seq (zw (zW ?_))
 refine ez [(0,_),(1,_)] ⟨za h0 rfl mIE,ze rfl⟩ ?_
 rintro s ⟨h0,h1⟩
 refine xn (gV x1) (zB h0 rfl) h1 rfl (g0 (jb false) fun h2=>gq (.nsq (.seq (.seq (rg (g0 (ji 0) fun h3=>gq (.nsq (.block (.loop ?_)))))))))
 exact zgX H x1 F 0 _ ⟨rfl,h2,h3⟩ h
end
def e28 (F:Nat):Ent:=ent 28 (fun (x:(GR×Unit))=>ug F x.1) (fun (r:Bool)=>(Enc.enc (r:Bool))) 0 false []
abbrev C28 (D:List V→Option V) (F:Nat):Prop:=∀ (x0:GR) r,ug F x0=some r→D [Enc.enc x0]=some (Enc.enc (r:Bool))
theorem p28 {F:Nat}:C28 (e28 F).den F:=fun x0 _ h=>zS (x0,()) h
theorem o28 (hF:zG Try.prog D σ) (H:H28 D σ F):(e28 F).Ok Try.prog:=okZ (f:=28) Try.func28 fun ⟨x0,_⟩ y hy=>cR hF Try.func28 c28 (t28 H x0 _ rfl hy)
def zo8:AC:=(.cond (.t 9) .skip (.exit 0))
def zrz:AC:=(.cond (.t 17) (.seq (rr [jv 4 (.mov kt)]) .ret) .skip)
def zsZ:AC:=(rr [jm 10 5,jv 11 (.bin .add (.t 10) (jn 1)),jm 5 11])
def ztN:AC:=(.seq (.block 1 (.seq (rr [jm 12 0,jm 13 5,jv 14 (.idx (.t 12) (.t 13) 1),jl 15 14,jm 16 1,jv 17 (.bin .eql (.t 15) (.t 16))]) zrz)) zsZ)
def zjc:AC:=(.seq (.seq (rr [jm 6 5,jm 7 0,jk 8 7,jv 9 (.bin .lss (.t 6) (.t 8))]) zo8) ztN)
def zlf:AC:=(.seq (rr [jv 4 (.mov kf)]) .ret)
def ztE:AC:=(.block 0 (.loop zjc))
def zs1:AC:=(.seq (.seq (rr [jv 5 (.mov (jn 0))]) ztE) zlf)
def A35:AC:=(.seq (rr [jv 4 (.mov kf)]) zs1)
def zvf:List An:=[]
theorem c35:cq Try.prog Try.f35 zvf=some A35:=by kernel_rfl
structure H35 (D:Den) (σ:Sig) (F:Nat):Prop where
 mk ::
abbrev R35 (r:Bool):(Nat→V)→Prop:=RR Try.prog [.tmp 4] 0 false (Enc.enc (r:Bool))
section
variable {r:Bool}
def Yi (F:Nat) (x1:LI) (x2:Int) :Nat→Int→Option Bool
 | 0,_=>none
 | k + 1,x4=>
   bif decide (x4 < (x1.length:Int)) then
    (idx x1 x4).bind fun v6=>
    bif (v6 == x2) then
     some true
    else
     (Yi F x1 x2 k) (w64 (x4 + 1))
   else
    some false
theorem zjB (H:H35 D σ F) (x1:LI) (x2:Int) :∀ (k:Nat) (x4:Int) (s:Nat→V),zr [(0,eL x1),(1,ji x2),(4,jb false),(5,ji x4)] s→Yi F x1 x2 k x4=some r→Run D σ (R35 r) (.run zjc [.lp zjc,.bk 0,.sq zlf]) s:=by
 intro k
 induction k with
 | zero=>intro x4 s _ h;exact nm h
 | succ k ih=>
   intro x4 s hs h
   rw [Yi] at h
   obtain ⟨h0,h1,h4,h5⟩:=hs
   refine .seq (.seq (rg (gm h5 fun h6=>gm h0 fun h7=>gl x1 h7 fun h8=>g2 6 8 (jb (decide (x4 < (x1.length:Int)))) h6 h8 fun h9=>gq (.nsq (zn h9 h (fun h=>?_) (fun h=>?_))))))
   · refine .skip (.nsq (.seq (.block (.seq (rg (gm h0 fun h12=>gm h5 fun h13=>?_))))))
     obtain ⟨v6,Ev6,h⟩:=zc h
     refine gv (.ref .sh 0 [] (ji v6)) (yg (t:=.sh) (lo:=0) (xs:=x1) h12 h13 Ev6 rfl rfl) fun h14=>g1 14 (ji v6) h14 fun h15=>gm h1 fun h16=>g2 15 16 (jb (v6 == x2)) h15 h16 fun h17=>gq (.nsq (zn h17 h (fun h=>?_) (fun h=>?_)))
     · refine .seq (rg (g0 (jb true) fun h4=>gq (.nsq (.ret ?_))))
       obtain rfl:=oi h
       exact rrA (zm h4) rfl
     refine .skip (.nbk (.nsq (rg (gm h5 fun h10=>g1 10 (ji (w64 (x4 + 1))) h10 fun h11=>gm h11 fun h5=>gq (.nlp ?_)))))
     exact ih (w64 (x4 + 1)) _ ⟨h0,h1,h4,h5⟩ h
   refine .exit (.esq (.elp (.ebk (.nsq (.seq (rg (g0 (jb false) fun h4=>gq (.nsq (.ret ?_)))))))))
   obtain rfl:=oi h
   exact rrA (zm h4) rfl
def wI (F:Nat) (x1:LI) (x2:Int):Option Bool:=
 Yi F x1 x2 F 0
theorem t35 (H:H35 D σ F) (x1:LI) (x2:Int) (s:Nat→V) (hs:zr [(0,eL x1),(1,ji x2)] s) (h:wI F x1 x2=some r):Run D σ (R35 r) (.run A35 []) s:=by
 unfold wI at h
 obtain ⟨h0,h1⟩:=hs
 refine .seq (rg (g0 (jb false) fun h4=>gq (.nsq (.seq (.seq (rg (g0 (ji 0) fun h5=>gq (.nsq (.block (.loop ?_))))))))))
 exact zjB H x1 x2 F 0 _ ⟨h0,h1,h4,h5⟩ h
end
def e35 (F:Nat):Ent:=ent 35 (fun (x:(LI×Int×Unit))=>wI F x.1 x.2.1) (fun (r:Bool)=>(Enc.enc (r:Bool))) 0 false []
abbrev C35 (D:List V→Option V) (F:Nat):Prop:=∀ (x0:LI) (x1:Int) r,wI F x0 x1=some r→D [Enc.enc x0,Enc.enc x1]=some (Enc.enc (r:Bool))
theorem p35 {F:Nat}:C35 (e35 F).den F:=fun x0 x1 _ h=>zS (x0,x1,()) h
theorem o35 (hF:zG Try.prog D σ) (H:H35 D σ F):(e35 F).Ok Try.prog:=okZ (f:=35) Try.func35 fun ⟨x0,x1,_⟩ y hy=>cR hF Try.func35 c35 (t35 H x0 x1 _ ⟨rfl,rfl⟩ hy)
def zpV:AC:=(.cond (.t 9) .skip (.exit 0))
def zsu:AC:=(.cond (.t 15) (.seq (rr [jv 4 (.mov kf)]) .ret) .skip)
def zs9:AC:=(rr [jm 10 5,jv 11 (.bin .add (.t 10) (jn 1)),jm 5 11])
def zpU:AC:=(.seq (.block 1 (.seq (rr [jm 12 1,jm 13 5,jx 14 (.call (jf 35) [.t 12,.t 13]),jv 15 (.un .not (.t 14))]) zsu)) zs9)
def zi4:AC:=(.seq (.seq (rr [jm 6 5,jv 7 (.fld (.t 2) 0 0),jl 8 7,jv 9 (.bin .lss (.t 6) (.t 8))]) zpV) zpU)
def zk7:AC:=(.seq (rr [jm 16 1,jk 17 16,jv 18 (.fld (.t 2) 0 0),jl 19 18,jv 20 (.bin .eql (.t 17) (.t 19)),jm 4 20]) .ret)
def zpZ:AC:=(.block 0 (.loop zi4))
def zq5:AC:=(.seq (.seq (rr [jv 5 (.mov (jn 0))]) zpZ) zk7)
def A64:AC:=(.seq (.reg [.clr [2]] [jx 2 (.box (.t 0)),jv 4 (.mov kf)] []) zq5)
def zwr:List An:=[⟨0,[.clr [2]],[],[],[]⟩]
theorem c64:cq Try.prog Try.f64 zwr=some A64:=by kernel_rfl
structure H64 (D:Den) (σ:Sig) (F:Nat):Prop where
 c35:C35 (D 35) F
 g35:σ 35=some (0,false)
abbrev R64 (r:Bool):(Nat→V)→Prop:=RR Try.prog [.tmp 4] 0 false (Enc.enc (r:Bool))
section
variable {r:Bool}
def Zx (F:Nat) (x2:LI) (x1:GR) :Nat→Int→Option Bool
 | 0,_=>none
 | k + 1,x4=>
   bif decide (x4 < x1.1) then
    (wI F x2 x4).bind fun r6=>
    bif (!r6) then
     some false
    else
     (Zx F x2 x1 k) (w64 (x4 + 1))
   else
    some ((x2.length:Int) == x1.1)
theorem zh6 (H:H64 D σ F) (x2:LI) (x1:GR) :∀ (k:Nat) (x4:Int) (s:Nat→V),zr [(1,eL x2),(2,bG 2 x1),(4,jb false),(5,ji x4)] s→Zx F x2 x1 k x4=some r→Run D σ (R64 r) (.run zi4 [.lp zi4,.bk 0,.sq zk7]) s:=by
 intro k
 induction k with
 | zero=>intro x4 s _ h;exact nm h
 | succ k ih=>
   intro x4 s hs h
   rw [Zx] at h
   obtain ⟨h1,h2,h4,h5⟩:=hs
   refine .seq (.seq (rg (gm h5 fun h6=>g1 2 (.ref (.bx 2) 0 [0] (ji x1.1)) h2 fun h7=>g1 7 (ji x1.1) h7 fun h8=>g2 6 8 (jb (decide (x4 < x1.1))) h6 h8 fun h9=>gq (.nsq (zn h9 h (fun h=>?_) (fun h=>?_))))))
   · refine .skip (.nsq (.seq (.block (.seq (rg (gm h1 fun h12=>gm h5 fun h13=>?_))))))
     obtain ⟨r6,Er6,h⟩:=zc h
     refine gcF [eL x2,Enc.enc (x4:Int)] (zf h12 rfl (Enc.erase_enc (x2:LI)) (zf h13 rfl rfl zC)) (H.c35 _ _ _ Er6) H.g35 (g1 14 (jb (!r6)) (rf (jb r6)) fun h15=>gq (.nsq (zn h15 h (fun h=>?_) (fun h=>?_))))
     · refine .seq (rg (g0 (jb false) fun h4=>gq (.nsq (.ret ?_))))
       obtain rfl:=oi h
       exact rrA (zm h4) rfl
     refine .skip (.nbk (.nsq (rg (gm h5 fun h10=>g1 10 (ji (w64 (x4 + 1))) h10 fun h11=>gm h11 fun h5=>gq (.nlp ?_)))))
     exact ih (w64 (x4 + 1)) _ ⟨h1,h2,h4,h5⟩ h
   refine .exit (.esq (.elp (.ebk (.nsq (.seq (rg (gm h1 fun h16=>gl x2 h16 fun h17=>g1 2 (.ref (.bx 2) 0 [0] (ji x1.1)) h2 fun h18=>g1 18 (ji x1.1) h18 fun h19=>g2 17 19 (jb ((x2.length:Int) == x1.1)) h17 h19 fun h20=>gm h20 fun h4=>gq (.nsq (.ret ?_)))))))))
   obtain rfl:=oi h
   exact rrA (zm h4) rfl
def Wh (F:Nat) (x1:GR) (x2:LI):Option Bool:=
 Zx F x2 x1 F 0
theorem t64 (H:H64 D σ F) (x1:GR) (x2:LI) (s:Nat→V) (hs:zr [(0,gV x1),(1,eL x2)] s) (h:Wh F x1 x2=some r):Run D σ (R64 r) (.run A64 []) s:=by
 unfold Wh at h
 obtain ⟨h0,h1⟩:=hs
 refine .seq (zw (zW ?_))
 refine ez [(0,_),(1,_),(2,_)] ⟨za h0 rfl mIE,za h1 rfl me,ze rfl⟩ ?_
 rintro s ⟨h0,h1,h2⟩
 refine xn (gV x1) (zB h0 rfl) h2 rfl (g0 (jb false) fun h4=>gq (.nsq (.seq (.seq (rg (g0 (ji 0) fun h5=>gq (.nsq (.block (.loop ?_)))))))))
 exact zh6 H x2 x1 F 0 _ ⟨h1,rfl,h4,h5⟩ h
end
def e64 (F:Nat):Ent:=ent 64 (fun (x:(GR×LI×Unit))=>Wh F x.1 x.2.1) (fun (r:Bool)=>(Enc.enc (r:Bool))) 0 false []
abbrev C64 (D:List V→Option V) (F:Nat):Prop:=∀ (x0:GR) (x1:LI) r,Wh F x0 x1=some r→D [Enc.enc x0,Enc.enc x1]=some (Enc.enc (r:Bool))
theorem p64 {F:Nat}:C64 (e64 F).den F:=fun x0 x1 _ h=>zS (x0,x1,()) h
theorem o64 (hF:zG Try.prog D σ) (H:H64 D σ F):(e64 F).Ok Try.prog:=okZ (f:=64) Try.func64 fun ⟨x0,x1,_⟩ y hy=>cR hF Try.func64 c64 (t64 H x0 x1 _ ⟨rfl,rfl⟩ hy)
def zra:AC:=(.seq (rr [jv 5 (.load (.ag [.s,.p]) (.t 2)),jm 6 1,jx 7 (.call (jf 64) [.t 5,.t 6]),jm 4 7]) .ret)
def A42:AC:=(.seq (.reg [.clr [2]] [jx 2 (.box (.t 0)),jv 4 (.mov kf)] []) zra)
def zu8:List An:=[⟨0,[.clr [2]],[],[],[]⟩]
theorem c42:cq Try.prog Try.f42 zu8=some A42:=by kernel_rfl
structure H42 (D:Den) (σ:Sig) (F:Nat):Prop where
 c64:C64 (D 64) F
 g64:σ 64=some (0,false)
abbrev R42 (r:Bool):(Nat→V)→Prop:=RR Try.prog [.tmp 4] 0 false (Enc.enc (r:Bool))
section
variable {r:Bool}
def ZD (F:Nat) (x1:GR) (x2:LI):Option Bool:=
 (Wh F x1 x2).bind fun r3=>
 some r3
theorem t42 (H:H42 D σ F) (x1:GR) (x2:LI) (s:Nat→V) (hs:zr [(0,gV x1),(1,eL x2)] s) (h:ZD F x1 x2=some r):Run D σ (R42 r) (.run A42 []) s:=by
 unfold ZD at h
 obtain ⟨h0,h1⟩:=hs
 refine .seq (zw (zW ?_))
 refine ez [(0,_),(1,_),(2,_)] ⟨za h0 rfl mIE,za h1 rfl me,ze rfl⟩ ?_
 rintro s ⟨h0,h1,h2⟩
 refine xn (gV x1) (zB h0 rfl) h2 rfl (g0 (jb false) fun h4=>gq (.nsq (.seq (rg (g1 2 (gV x1) (rf (bG 2 x1)) fun h5=>gm h1 fun h6=>?_)))))
 obtain ⟨r3,Er3,h⟩:=zc h
 refine gcF [Enc.enc (x1:GR),eL x2] (zf h5 rfl (Enc.erase_enc (x1:GR)) (zf h6 rfl (Enc.erase_enc (x2:LI)) zC)) (H.c64 _ _ _ Er3) H.g64 (gm (rf (jb r3)) fun h4=>gq (.nsq (.ret ?_)))
 obtain rfl:=oi h
 exact rrA (zm h4) rfl
end
def e42 (F:Nat):Ent:=ent 42 (fun (x:(GR×LI×Unit))=>ZD F x.1 x.2.1) (fun (r:Bool)=>(Enc.enc (r:Bool))) 0 false []
abbrev C42 (D:List V→Option V) (F:Nat):Prop:=∀ (x0:GR) (x1:LI) r,ZD F x0 x1=some r→D [Enc.enc x0,Enc.enc x1]=some (Enc.enc (r:Bool))
theorem p42 {F:Nat}:C42 (e42 F).den F:=fun x0 x1 _ h=>zS (x0,x1,()) h
theorem o42 (hF:zG Try.prog D σ) (H:H42 D σ F):(e42 F).Ok Try.prog:=okZ (f:=42) Try.func42 fun ⟨x0,x1,_⟩ y hy=>cR hF Try.func42 c42 (t42 H x0 x1 _ ⟨rfl,rfl⟩ hy)
def zld:AC:=(.cond (.t 31) (.seq (rr [jm 32 0,jm 4 32]) .ret) .skip)
def zkW:AC:=(.seq (.reg [.clr [33,37,39,40,44]] [jy 33 (.lit i0 0 []),jm 34 0,jm 35 5,jv 36 (.slice (.t 34) none (some (.t 35)) 1),jy 37 (.appS .s (.t 33) (.t 36)),jm 38 1,jx 39 (.lit i0 1 [(0,0,.t 38)]),jy 40 (.appS .s (.t 37) (.t 39)),jm 41 0,jm 42 5,jv 43 (.slice (.t 41) (some (.t 42)) none 1),jx 44 (.appS .s (.t 40) (.t 43)),jm 4 44] [.home 44 4]) .ret)
def zlY:AC:=(.cond (.t 17) .skip (.exit 0))
def zlz:AC:=(.block 1 (rr [jm 18 5,jv 19 (.bin .add (.t 18) (jn 1)),jm 5 19]))
def QB:AC:=(.seq (.seq (rr [jm 6 5,jm 7 0,jk 8 7,jv 9 (.bin .lss (.t 6) (.t 8)),jm 10 9,jg 11 10 true (.mov (.t 0)),jg 12 10 true (.mov (.t 5)),jg 13 10 true (.idx (.t 11) (.t 12) 1),jg 14 10 true (.load .s (.t 13)),jg 15 10 true (.mov (.t 1)),jg 16 10 true (.bin .lss (.t 14) (.t 15)),jv 17 (.pick (.t 10) (.t 16) kf)]) zlY) zlz)
def zfs:AC:=(.seq (.seq (rr [jm 20 5,jm 21 0,jk 22 21,jv 23 (.bin .lss (.t 20) (.t 22)),jm 24 23,jg 25 24 true (.mov (.t 0)),jg 26 24 true (.mov (.t 5)),jg 27 24 true (.idx (.t 25) (.t 26) 1),jg 28 24 true (.load .s (.t 27)),jg 29 24 true (.mov (.t 1)),jg 30 24 true (.bin .eql (.t 28) (.t 29)),jv 31 (.pick (.t 24) (.t 30) kf)]) zld) zkW)
def zrh:AC:=(.seq (.block 0 (.loop QB)) zfs)
def zou:AC:=(.seq (rr [jv 5 (.mov (jn 0))]) zrh)
def A43:AC:=(.seq (rr [jv 4 (.mov (.k (.sl .nl .s 0 [])))]) zou)
def zvb:List An:=[⟨6,[.clr [33,37,39,40,44]],[0,4,7],[4,7,11],[.home 44 4]⟩]
theorem c43:cq Try.prog Try.f43 zvb=some A43:=by kernel_rfl
structure H43 (D:Den) (σ:Sig) (F:Nat):Prop where
 mk ::
abbrev R43 (r:LI):(Nat→V)→Prop:=RR Try.prog [.tmp 4] 0 true (eL r)
section
variable {r:LI}
def Xa (F:Nat) (x1:LI) (x2:Int) (x6:Int)  (x13:Bool):Option LI:=
 bif x13 then
  some x1
 else
  (sub x1 0 x6).bind fun sub14=>
  (vz [] sub14).bind fun ap15=>
  (vz ap15 [x2]).bind fun ap16=>
  (sub x1 x6 (x1.length:Int)).bind fun sub17=>
  (vz ap16 sub17).bind fun ap18=>
  some ap18
theorem zc1 (H:H43 D σ F) (x1:LI) (x2:Int) (x6:Int)  (x13:Bool) (s:Nat→V) (hs:zr [(0,eL x1),(1,ji x2),(4,nI),(5,ji x6),(31,jb x13)] s) (h:Xa F x1 x2 x6  x13=some r):Run D σ (R43 r) (.nrm [.sq zld,.sq zkW]) s:=by
 unfold Xa at h
 obtain ⟨h0,h1,h4,h5,h31⟩:=hs
 refine .nsq (zn h31 h (fun h=>?_) (fun h=>?_))
 · refine .seq (rg (gm h0 fun h32=>gm h32 fun h4=>gq (.nsq (.ret ?_))))
   obtain rfl:=oi h
   exact rrA (zm h4) (xV (xd (x:=(x1:LI))))
 refine .skip (.nsq (.seq (zw (zW ?_))))
 refine ez [(0,_),(1,_),(4,_),(5,_),(33,_),(37,_),(39,_),(40,_),(44,_)] ⟨za h0 rfl me,za h1 rfl mi,za h4 rfl rfl,za h5 rfl mi,ze rfl,ze rfl,ze rfl,ze rfl,ze rfl⟩ ?_
 rintro s ⟨h0,h1,h4,h5,h33,h37,h39,h40,h44⟩
 refine zaz [] [] trivial rfl rfl h33 (gm h0 fun h34=>gm h5 fun h35=>?_)
 obtain ⟨sub14,Esub14,h⟩:=zc h
 refine gv (eL sub14) (W6 (xs:=x1) h34 (YN) (YD h35) Esub14 rfl) fun h36=>?_
 obtain ⟨ap15,Eap15,h⟩:=zc h
 refine UT (p:=[]) (xs:=[]) (ys:=(sub14:LI)) (t2:=.sh) (lo2:=0) rfl h36 rfl h37 rfl Eap15 (gm h1 fun h38=>xb [(38,ji x2)] [Enc.enc (x2:Int)] h38 rfl rfl h39 ?_)
 obtain ⟨ap16,Eap16,h⟩:=zc h
 refine UT (p:=[]) (xs:=ap15) (ys:=([x2]:LI)) (t2:=.at 39 []) (lo2:=0) rfl rfl rfl h40 rfl Eap16 (gm h0 fun h41=>gm h5 fun h42=>?_)
 obtain ⟨sub17,Esub17,h⟩:=zc h
 refine gv (eL sub17) (W6 (xs:=x1) h41 (YD h42) (YN) Esub17 rfl) fun h43=>?_
 obtain ⟨ap18,Eap18,h⟩:=zc h
 refine UT (p:=[]) (xs:=ap16) (ys:=(sub17:LI)) (t2:=.sh) (lo2:=0) rfl h43 rfl h44 rfl Eap18 (gm (rf (oI 44 [] (.of ap18))) fun h4=>yK (yo (r:=44) (x:=4) (v:=_) h4 rfl (fun s2 hz2=>?_)))
 refine ez [(4,oI 4 [] (.of ap18))] (hz2 4 _ _ h4 (zl (r:=44) (p:=[]) rfl rfl)) ?_
 rintro s h4
 refine .nsq (.ret ?_)
 obtain rfl:=oi h
 exact rrA (zm h4) (xV (wj (o:=.of ap18)))
def Xb (F:Nat) (x1:LI) (x2:Int) (x6:Int) (c1:Int→Option LI) (x11:Bool):Option LI:=
 bif x11 then
  c1 (w64 (x6 + 1))
 else
  bif decide (x6 < (x1.length:Int)) then
   (idx x1 x6).bind fun v19=>
   Xa F x1 x2 x6 (v19 == x2)
  else
   Xa F x1 x2 x6 false
theorem zcX (H:H43 D σ F) (x1:LI) (x2:Int) (x6:Int) (c1:Int→Option LI) (Hc1:∀ (x6:Int) (s:Nat→V),zr [(0,eL x1),(1,ji x2),(4,nI),(5,ji x6)] s→c1 x6=some r→Run D σ (R43 r) (.run QB [.lp QB,.bk 0,.sq zfs]) s) (x11:Bool) (s:Nat→V) (hs:zr [(0,eL x1),(1,ji x2),(4,nI),(5,ji x6),(17,jb x11)] s) (h:Xb F x1 x2 x6 c1 x11=some r):Run D σ (R43 r) (.nrm [.sq zlY,.sq zlz,.lp QB,.bk 0,.sq zfs]) s:=by
 unfold Xb at h
 obtain ⟨h0,h1,h4,h5,h17⟩:=hs
 refine .nsq (zn h17 h (fun h=>?_) (fun h=>?_))
 · refine .skip (.nsq (.block (rg (gm h5 fun h18=>g1 18 (ji (w64 (x6 + 1))) h18 fun h19=>gm h19 fun h5=>gq (.nbk (.nlp ?_))))))
   exact Hc1 (w64 (x6 + 1)) _ ⟨h0,h1,h4,h5⟩ h
 refine .exit (.esq (.elp (.ebk (.nsq (.seq (.seq (rg (gm h5 fun h20=>gm h0 fun h21=>gl x1 h21 fun h22=>g2 20 22 (jb (decide (x6 < (x1.length:Int)))) h20 h22 fun h23=>gm h23 fun h24=>zX h (fun hg5 h=>?_) (fun hg5 h=>?_)))))))))
 · refine zp (ct h24 hg5) (gm h0 fun h25=>zp (ct h24 hg5) (gm h5 fun h26=>?_))
   obtain ⟨v19,Ev19,h⟩:=zc h
   refine zp (ct h24 hg5) (gv (.ref .sh 0 [] (ji v19)) (yg (t:=.sh) (lo:=0) (xs:=x1) h25 h26 Ev19 rfl rfl) fun h27=>zp (ct h24 hg5) (g1 27 (ji v19) h27 fun h28=>zp (ct h24 hg5) (gm h1 fun h29=>zp (ct h24 hg5) (g2 28 29 (jb (v19 == x2)) h28 h29 fun h30=>g2 24 30 (jb (v19 == x2)) (ct h24 hg5) h30 fun h31=>gq ?_))))
   exact zc1 H x1 x2 x6 (v19 == x2) _ ⟨h0,h1,h4,h5,h31⟩ h
 iterate 6 refine yq (ct h24 hg5) ?_
 refine g2 24 30 (jb false) (ct h24 hg5) (rf (.tup [])) fun h31=>gq ?_
 exact zc1 H x1 x2 x6 false _ ⟨h0,h1,h4,h5,h31⟩ h
def uu (F:Nat) (x1:LI) (x2:Int) :Nat→Int→Option LI
 | 0,_=>none
 | k + 1,x6=>
   bif decide (x6 < (x1.length:Int)) then
    (idx x1 x6).bind fun v20=>
    Xb F x1 x2 x6 (uu F x1 x2 k) (decide (v20 < x2))
   else
    Xb F x1 x2 x6 (uu F x1 x2 k) false
theorem ziw (H:H43 D σ F) (x1:LI) (x2:Int) :∀ (k:Nat) (x6:Int) (s:Nat→V),zr [(0,eL x1),(1,ji x2),(4,nI),(5,ji x6)] s→uu F x1 x2 k x6=some r→Run D σ (R43 r) (.run QB [.lp QB,.bk 0,.sq zfs]) s:=by
 intro k
 induction k with
 | zero=>intro x6 s _ h;exact nm h
 | succ k ih=>
   intro x6 s hs h
   rw [uu] at h
   obtain ⟨h0,h1,h4,h5⟩:=hs
   refine .seq (.seq (rg (gm h5 fun h6=>gm h0 fun h7=>gl x1 h7 fun h8=>g2 6 8 (jb (decide (x6 < (x1.length:Int)))) h6 h8 fun h9=>gm h9 fun h10=>zX h (fun hg5 h=>?_) (fun hg5 h=>?_))))
   · refine zp (ct h10 hg5) (gm h0 fun h11=>zp (ct h10 hg5) (gm h5 fun h12=>?_))
     obtain ⟨v20,Ev20,h⟩:=zc h
     refine zp (ct h10 hg5) (gv (.ref .sh 0 [] (ji v20)) (yg (t:=.sh) (lo:=0) (xs:=x1) h11 h12 Ev20 rfl rfl) fun h13=>zp (ct h10 hg5) (g1 13 (ji v20) h13 fun h14=>zp (ct h10 hg5) (gm h1 fun h15=>zp (ct h10 hg5) (g2 14 15 (jb (decide (v20 < x2))) h14 h15 fun h16=>g2 10 16 (jb (decide (v20 < x2))) (ct h10 hg5) h16 fun h17=>gq ?_))))
     exact zcX H x1 x2 x6 (uu F x1 x2 k) ih (decide (v20 < x2)) _ ⟨h0,h1,h4,h5,h17⟩ h
   iterate 6 refine yq (ct h10 hg5) ?_
   refine g2 10 16 (jb false) (ct h10 hg5) (rf (.tup [])) fun h17=>gq ?_
   exact zcX H x1 x2 x6 (uu F x1 x2 k) ih false _ ⟨h0,h1,h4,h5,h17⟩ h
def Yf (F:Nat) (x1:LI) (x2:Int):Option LI:=
 uu F x1 x2 F 0
theorem t43 (H:H43 D σ F) (x1:LI) (x2:Int) (s:Nat→V) (hs:zr [(0,eL x1),(1,ji x2)] s) (h:Yf F x1 x2=some r):Run D σ (R43 r) (.run A43 []) s:=by
 unfold Yf at h
 obtain ⟨h0,h1⟩:=hs
 refine .seq (rg (g0 nI fun h4=>gq (.nsq (.seq (rg (g0 (ji 0) fun h5=>gq (.nsq (.seq (.block (.loop ?_))))))))))
 exact ziw H x1 x2 F 0 _ ⟨h0,h1,h4,h5⟩ h
end
def e43 (F:Nat):Ent:=ent 43 (fun (x:(LI×Int×Unit))=>Yf F x.1 x.2.1) (fun (r:LI)=>(eL r)) 0 true []
abbrev C43 (D:List V→Option V) (F:Nat):Prop:=∀ (x0:LI) (x1:Int) r,Yf F x0 x1=some r→D [Enc.enc x0,Enc.enc x1]=some (eL r)
theorem p43 {F:Nat}:C43 (e43 F).den F:=fun x0 x1 _ h=>zS (x0,x1,()) h
theorem o43 (hF:zG Try.prog D σ) (H:H43 D σ F):(e43 F).Ok Try.prog:=okZ (f:=43) Try.func43 fun ⟨x0,x1,_⟩ y hy=>cR hF Try.func43 c43 (t43 H x0 x1 _ ⟨rfl,rfl⟩ hy)
def ztF:AC:=(.cond (.t 12) .skip (.exit 0))
def zuh:AC:=(.cond (.t 18) .skip (.exit 2))
def zlL:AC:=(.cond (.t 33) (.reg [.frz 5] [jm 34 5,jm 35 1,jm 36 6,jv 37 (.idx (.t 35) (.t 36) 1),jl 38 37,jx 39 (.call (jf 43) [.t 34,.t 38]),jm 5 39] []) .skip)
def zij:AC:=(rr [jm 19 7,jv 20 (.bin .add (.t 19) (jn 1)),jm 7 20])
def zsf:AC:=(.seq (.block 3 (.seq (rr [jv 21 (.load (.ag [.s,.p]) (.t 2)),jm 22 1,jm 23 6,jv 24 (.idx (.t 22) (.t 23) 1),jl 25 24,jm 26 7,jx 27 (.call (jf 65) [.t 21,.t 25,.t 26]),jm 28 27,jg 29 28 true (.mov (.t 1)),jg 30 28 true (.mov (.t 7)),.mk (some 31) (some (28,true)) false (.call (jf 35) [.t 29,.t 30]),jg 32 28 true (.un .not (.t 31)),jv 33 (.pick (.t 28) (.t 32) kf)]) zlL)) zij)
def KI:AC:=(.seq (.seq (rr [jm 15 7,jv 16 (.fld (.t 2) 0 0),jl 17 16,jv 18 (.bin .lss (.t 15) (.t 17))]) zuh) zsf)
def zpw:AC:=(.block 2 (.loop KI))
def Lk:AC:=(rr [jm 13 6,jv 14 (.bin .add (.t 13) (jn 1)),jm 6 14])
def zsc:AC:=(.seq (.block 1 (.seq (rr [jv 7 (.mov (jn 0))]) zpw)) Lk)
def WK:AC:=(.seq (.seq (rr [jm 9 6,jm 10 1,jk 11 10,jv 12 (.bin .lss (.t 9) (.t 11))]) ztF) zsc)
def W2:AC:=(.seq (rr [jm 40 5,jm 4 40]) .ret)
def znk:AC:=(.block 0 (.loop WK))
def zm0:AC:=(.seq (.seq (rr [jv 6 (.mov (jn 0))]) znk) W2)
def znz:AC:=(.seq (.reg [.clr [8]] [jx 8 (.lit i0 0 []),jm 5 8] [.home 8 5,.frz 5]) zm0)
def A44:AC:=(.seq (.reg [.clr [2]] [jx 2 (.box (.t 0)),jv 4 (.mov (.k (.sl .nl .s 0 [])))] []) znz)
def zwp:List An:=[⟨0,[.clr [2]],[],[],[]⟩,⟨1,[.clr [8]],[],[],[.home 8 5,.frz 5]⟩,⟨9,[.frz 5],[],[],[]⟩]
theorem c44:cq Try.prog Try.f44 zwp=some A44:=by kernel_rfl
structure H44 (D:Den) (σ:Sig) (F:Nat):Prop where
 c65:C65 (D 65) F
 g65:σ 65=some (0,false)
 c35:C35 (D 35) F
 g35:σ 35=some (0,false)
 c43:C43 (D 43) F
 g43:σ 43=some (0,true)
abbrev R44 (r:LI):(Nat→V)→Prop:=RR Try.prog [.tmp 4] 0 true (eL r)
section
variable {r:LI}
def Y1 (F:Nat) (x2:LI) (x1:GR) (x42:Int) (x94:Int) (c1:LI→Int→Option LI) (c4:LI→Int→Option LI) (x113:LI):Option LI:=
 c4 x113 (w64 (x94 + 1))
theorem zci (H:H44 D σ F) (x2:LI) (x1:GR) (x42:Int) (x94:Int) (c1:LI→Int→Option LI) (Hc1:∀ (x41:LI) (x42:Int) (s:Nat→V),zr [(1,eL x2),(2,bG 2 x1),(4,nI),(5,eL x41),(6,ji x42)] s→c1 x41 x42=some r→Run D σ (R44 r) (.run WK [.lp WK,.bk 0,.sq W2]) s) (c4:LI→Int→Option LI) (Hc4:∀ (x93:LI) (x94:Int) (s:Nat→V),zr [(1,eL x2),(2,bG 2 x1),(4,nI),(5,eL x93),(6,ji x42),(7,ji x94)] s→c4 x93 x94=some r→Run D σ (R44 r) (.run KI [.lp KI,.bk 2,.bk 1,.sq Lk,.lp WK,.bk 0,.sq W2]) s) (x113:LI) (s:Nat→V) (hs:zr [(1,eL x2),(2,bG 2 x1),(4,nI),(5,eL x113),(6,ji x42),(7,ji x94)] s) (h:Y1 F x2 x1 x42 x94 c1 c4 x113=some r):Run D σ (R44 r) (.nrm [.bk 3,.sq zij,.lp KI,.bk 2,.bk 1,.sq Lk,.lp WK,.bk 0,.sq W2]) s:=by
 unfold Y1 at h
 obtain ⟨h1,h2,h4,h5,h6,h7⟩:=hs
 refine .nbk (.nsq (rg (gm h7 fun h19=>g1 19 (ji (w64 (x94 + 1))) h19 fun h20=>gm h20 fun h7=>gq (.nlp ?_))))
 exact Hc4 x113 (w64 (x94 + 1)) _ ⟨h1,h2,h4,h5,h6,h7⟩ h
def YZ (F:Nat) (x2:LI) (x1:GR) (x93:LI) (x42:Int) (x94:Int) (c1:LI→Int→Option LI) (c4:LI→Int→Option LI) (x110:Bool):Option LI:=
 bif x110 then
  (idx x2 x42).bind fun v114=>
  (Yf F x93 v114).bind fun r115=>
  Y1 F x2 x1 x42 x94 c1 c4 r115
 else
  Y1 F x2 x1 x42 x94 c1 c4 x93
theorem zcU (H:H44 D σ F) (x2:LI) (x1:GR) (x93:LI) (x42:Int) (x94:Int) (c1:LI→Int→Option LI) (Hc1:∀ (x41:LI) (x42:Int) (s:Nat→V),zr [(1,eL x2),(2,bG 2 x1),(4,nI),(5,eL x41),(6,ji x42)] s→c1 x41 x42=some r→Run D σ (R44 r) (.run WK [.lp WK,.bk 0,.sq W2]) s) (c4:LI→Int→Option LI) (Hc4:∀ (x93:LI) (x94:Int) (s:Nat→V),zr [(1,eL x2),(2,bG 2 x1),(4,nI),(5,eL x93),(6,ji x42),(7,ji x94)] s→c4 x93 x94=some r→Run D σ (R44 r) (.run KI [.lp KI,.bk 2,.bk 1,.sq Lk,.lp WK,.bk 0,.sq W2]) s) (x110:Bool) (s:Nat→V) (hs:zr [(1,eL x2),(2,bG 2 x1),(4,nI),(5,eL x93),(6,ji x42),(7,ji x94),(33,jb x110)] s) (h:YZ F x2 x1 x93 x42 x94 c1 c4 x110=some r):Run D σ (R44 r) (.nrm [.sq zlL,.bk 3,.sq zij,.lp KI,.bk 2,.bk 1,.sq Lk,.lp WK,.bk 0,.sq W2]) s:=by
 unfold YZ at h
 obtain ⟨h1,h2,h4,h5,h6,h7,h33⟩:=hs
 refine .nsq (zn h33 h (fun h=>?_) (fun h=>?_))
 · refine zw (Yt (x:=5) (v:=eL x93) [] (by exact h5) (Enc.toks_enc (x93:LI)) (fun s22 hz22=>?_))
   refine ez [(1,_),(2,_),(4,_),(5,_),(6,_),(7,_)] ⟨hz22 1 _ _ h1 (yQ _),hz22 2 _ _ h2 (yQ _),hz22 4 _ _ h4 (yQ _),hz22 5 _ _ h5 (yQ _),hz22 6 _ _ h6 (yQ _),hz22 7 _ _ h7 (yQ _)⟩ ?_
   rintro s ⟨h1,h2,h4,h5,h6,h7⟩
   refine gm h5 fun h34=>gm h1 fun h35=>gm h6 fun h36=>?_
   obtain ⟨v114,Ev114,h⟩:=zc h
   refine gv (.ref .sh 0 [] (ji v114)) (yg (t:=.sh) (lo:=0) (xs:=x2) h35 h36 Ev114 rfl rfl) fun h37=>g1 37 (ji v114) h37 fun h38=>?_
   obtain ⟨r115,Er115,h⟩:=zc h
   refine xT (m:=0) (al:=true) (r:=eL r115) [eL x93,Enc.enc (v114:Int)] (zf h34 rfl (Enc.erase_enc (x93:LI)) (zf h38 rfl rfl zC)) (H.c43 _ _ _ Er115) H.g43 (we (yc (v:=eL x93) h34 rfl rfl (yc (v:=ji v114) h38 rfl rfl wd))) rfl rfl rfl (gm (rf (eL r115)) fun h5=>gq ?_)
   exact zci H x2 x1 x42 x94 c1 Hc1 c4 Hc4 r115 _ ⟨h1,h2,h4,h5,h6,h7⟩ h
 refine .skip ?_
 exact zci H x2 x1 x42 x94 c1 Hc1 c4 Hc4 x93 _ ⟨h1,h2,h4,h5,h6,h7⟩ h
def wJ (F:Nat) (x2:LI) (x1:GR) (x42:Int) (c1:LI→Int→Option LI):Nat→LI→Int→Option LI
 | 0,_,_=>none
 | k + 1,x93,x94=>
   bif decide (x94 < x1.1) then
    (idx x2 x42).bind fun v116=>
    (Z4 F x1 v116 x94).bind fun r117=>
    bif r117 then
     (wI F x2 x94).bind fun r118=>
     YZ F x2 x1 x93 x42 x94 c1 (wJ F x2 x1 x42 c1 k) (!r118)
    else
     YZ F x2 x1 x93 x42 x94 c1 (wJ F x2 x1 x42 c1 k) false
   else
    c1 x93 (w64 (x42 + 1))
theorem zjH (H:H44 D σ F) (x2:LI) (x1:GR) (x42:Int) (c1:LI→Int→Option LI) (Hc1:∀ (x41:LI) (x42:Int) (s:Nat→V),zr [(1,eL x2),(2,bG 2 x1),(4,nI),(5,eL x41),(6,ji x42)] s→c1 x41 x42=some r→Run D σ (R44 r) (.run WK [.lp WK,.bk 0,.sq W2]) s):∀ (k:Nat) (x93:LI) (x94:Int) (s:Nat→V),zr [(1,eL x2),(2,bG 2 x1),(4,nI),(5,eL x93),(6,ji x42),(7,ji x94)] s→wJ F x2 x1 x42 c1 k x93 x94=some r→Run D σ (R44 r) (.run KI [.lp KI,.bk 2,.bk 1,.sq Lk,.lp WK,.bk 0,.sq W2]) s:=by
 intro k
 induction k with
 | zero=>intro x93 x94 s _ h;exact nm h
 | succ k ih=>
   intro x93 x94 s hs h
   rw [wJ] at h
   obtain ⟨h1,h2,h4,h5,h6,h7⟩:=hs
   refine .seq (.seq (rg (gm h7 fun h15=>g1 2 (.ref (.bx 2) 0 [0] (ji x1.1)) h2 fun h16=>g1 16 (ji x1.1) h16 fun h17=>g2 15 17 (jb (decide (x94 < x1.1))) h15 h17 fun h18=>gq (.nsq (zn h18 h (fun h=>?_) (fun h=>?_))))))
   · refine .skip (.nsq (.seq (.block (.seq (rg (g1 2 (gV x1) h2 fun h21=>gm h1 fun h22=>gm h6 fun h23=>?_))))))
     obtain ⟨v116,Ev116,h⟩:=zc h
     refine gv (.ref .sh 0 [] (ji v116)) (yg (t:=.sh) (lo:=0) (xs:=x2) h22 h23 Ev116 rfl rfl) fun h24=>g1 24 (ji v116) h24 fun h25=>gm h7 fun h26=>?_
     obtain ⟨r117,Er117,h⟩:=zc h
     refine gcF [Enc.enc (x1:GR),Enc.enc (v116:Int),Enc.enc (x94:Int)] (zf h21 rfl (Enc.erase_enc (x1:GR)) (zf h25 rfl rfl (zf h26 rfl rfl zC))) (H.c65 _ _ _ _ Er117) H.g65 (gm (rf (jb r117)) fun h28=>zX h (fun hg8 h=>?_) (fun hg8 h=>?_))
     · refine zp (ct h28 hg8) (gm h1 fun h29=>zp (ct h28 hg8) (gm h7 fun h30=>?_))
       obtain ⟨r118,Er118,h⟩:=zc h
       refine zp (ct h28 hg8) (gcF [eL x2,Enc.enc (x94:Int)] (zf h29 rfl (Enc.erase_enc (x2:LI)) (zf h30 rfl rfl zC)) (H.c35 _ _ _ Er118) H.g35 (zp (ct h28 hg8) (g1 31 (jb (!r118)) (rf (jb r118)) fun h32=>g2 28 32 (jb (!r118)) (ct h28 hg8) h32 fun h33=>gq ?_)))
       exact zcU H x2 x1 x93 x42 x94 c1 Hc1 (wJ F x2 x1 x42 c1 k) ih (!r118) _ ⟨h1,h2,h4,h5,h6,h7,h33⟩ h
     iterate 4 refine yq (ct h28 hg8) ?_
     refine g2 28 32 (jb false) (ct h28 hg8) (rf (.tup [])) fun h33=>gq ?_
     exact zcU H x2 x1 x93 x42 x94 c1 Hc1 (wJ F x2 x1 x42 c1 k) ih false _ ⟨h1,h2,h4,h5,h6,h7,h33⟩ h
   refine .exit (.esq (.elp (.ebk (.nbk (.nsq (rg (gm h6 fun h13=>g1 13 (ji (w64 (x42 + 1))) h13 fun h14=>gm h14 fun h6=>gq (.nlp ?_))))))))
   exact Hc1 x93 (w64 (x42 + 1)) _ ⟨h1,h2,h4,h5,h6⟩ h
def vh (F:Nat) (x2:LI) (x1:GR) :Nat→LI→Int→Option LI
 | 0,_,_=>none
 | k + 1,x41,x42=>
   bif decide (x42 < (x2.length:Int)) then
    wJ F x2 x1 x42 (vh F x2 x1 k) F x41 0
   else
    some x41
theorem zhh (H:H44 D σ F) (x2:LI) (x1:GR) :∀ (k:Nat) (x41:LI) (x42:Int) (s:Nat→V),zr [(1,eL x2),(2,bG 2 x1),(4,nI),(5,eL x41),(6,ji x42)] s→vh F x2 x1 k x41 x42=some r→Run D σ (R44 r) (.run WK [.lp WK,.bk 0,.sq W2]) s:=by
 intro k
 induction k with
 | zero=>intro x41 x42 s _ h;exact nm h
 | succ k ih=>
   intro x41 x42 s hs h
   rw [vh] at h
   obtain ⟨h1,h2,h4,h5,h6⟩:=hs
   refine .seq (.seq (rg (gm h6 fun h9=>gm h1 fun h10=>gl x2 h10 fun h11=>g2 9 11 (jb (decide (x42 < (x2.length:Int)))) h9 h11 fun h12=>gq (.nsq (zn h12 h (fun h=>?_) (fun h=>?_))))))
   · refine .skip (.nsq (.seq (.block (.seq (rg (g0 (ji 0) fun h7=>gq (.nsq (.block (.loop ?_)))))))))
     exact zjH H x2 x1 x42 (vh F x2 x1 k) ih F x41 0 _ ⟨h1,h2,h4,h5,h6,h7⟩ h
   refine .exit (.esq (.elp (.ebk (.nsq (.seq (rg (gm h5 fun h40=>gm h40 fun h4=>gq (.nsq (.ret ?_)))))))))
   obtain rfl:=oi h
   exact rrA (zm h4) (xV (xd (x:=(x41:LI))))
def Yy (F:Nat) (x1:GR) (x2:LI):Option LI:=
 vh F x2 x1 F [] 0
theorem t44 (H:H44 D σ F) (x1:GR) (x2:LI) (s:Nat→V) (hs:zr [(0,gV x1),(1,eL x2)] s) (h:Yy F x1 x2=some r):Run D σ (R44 r) (.run A44 []) s:=by
 unfold Yy at h
 obtain ⟨h0,h1⟩:=hs
 refine .seq (zw (zW ?_))
 refine ez [(0,_),(1,_),(2,_)] ⟨za h0 rfl mIE,za h1 rfl me,ze rfl⟩ ?_
 rintro s ⟨h0,h1,h2⟩
 refine xn (gV x1) (zB h0 rfl) h2 rfl (g0 nI fun h4=>gq (.nsq (.seq (zw (zW ?_)))))
 refine ez [(1,_),(2,_),(4,_),(8,_)] ⟨za h1 rfl me,za rfl rfl (zj rfl mIE),za h4 rfl rfl,ze rfl⟩ ?_
 rintro s ⟨h1,h2,h4,h8⟩
 refine xb [] [] trivial rfl rfl h8 (gm (rf (oI 8 [] (.of []))) fun h5=>yK (yo (r:=8) (x:=5) (v:=_) h5 rfl (fun s3 hz3=>Yt (x:=5) (v:=oI 5 [] (.of [])) [.at 5 []] (by exact (hz3 5 _ _ h5 (zl (r:=8) (p:=[]) rfl rfl))) z8 (fun s4 hz4=>?_))))
 refine ez [(1,eL x2),(2,bG 2 x1),(4,nI),(5,eL [])] ⟨hz4 1 (eL x2) (eL x2) (hz3 1 _ _ h1 me) zE,hz4 2 (bG 2 x1) (bG 2 x1) (hz3 2 _ _ h2 (zj rfl mIE)) (yV rfl zIE rfl),hz4 4 nI nI (hz3 4 _ nI h4 rfl) rfl,hz4 5 (oI 5 [] (.of [])) (eL []) (hz3 5 _ _ h5 (zl (r:=8) (p:=[]) rfl rfl)) vJ⟩ ?_
 rintro s ⟨h1,h2,h4,h5⟩
 refine .nsq (.seq (.seq (rg (g0 (ji 0) fun h6=>gq (.nsq (.block (.loop ?_)))))))
 exact zhh H x2 x1 F [] 0 _ ⟨h1,h2,h4,h5,h6⟩ h
end
def e44 (F:Nat):Ent:=ent 44 (fun (x:(GR×LI×Unit))=>Yy F x.1 x.2.1) (fun (r:LI)=>(eL r)) 0 true []
abbrev C44 (D:List V→Option V) (F:Nat):Prop:=∀ (x0:GR) (x1:LI) r,Yy F x0 x1=some r→D [Enc.enc x0,Enc.enc x1]=some (eL r)
theorem p44 {F:Nat}:C44 (e44 F).den F:=fun x0 x1 _ h=>zS (x0,x1,()) h
theorem o44 (hF:zG Try.prog D σ) (H:H44 D σ F):(e44 F).Ok Try.prog:=okZ (f:=44) Try.func44 fun ⟨x0,x1,_⟩ y hy=>cR hF Try.func44 c44 (t44 H x0 x1 _ ⟨rfl,rfl⟩ hy)
def zrc:AC:=(.cond (.t 27) .skip (.exit 0))
def ztH:AC:=(.cond (.t 53) .skip (.exit 2))
def zmG:AC:=(.cond (.t 61) (.reg [.clr [67,68]] [jm 62 10,jm 63 7,jm 64 11,jv 65 (.idx (.t 63) (.t 64) 1),jl 66 65,jx 67 (.lit i0 1 [(0,0,.t 66)]),jx 68 (.app .s (.t 62) (.t 67)),jm 10 68] [.home 68 10]) (.reg [.clr [75,76]] [jm 69 6,jm 70 7,jm 71 11,jv 72 (.idx (.t 70) (.t 71) 1),jl 73 72,jv 74 (.bin .sub (jn (-1)) (.t 73)),jx 75 (.lit i0 1 [(0,0,.t 74)]),jx 76 (.app .s (.t 69) (.t 75)),jm 6 76] [.home 76 6]))
def zhH:AC:=(rr [jm 54 11,jv 55 (.bin .add (.t 54) (jn 1)),jm 11 55])
def znR:AC:=(.seq (.block 3 (.seq (rr [jm 56 9,jm 57 7,jm 58 11,jv 59 (.idx (.t 57) (.t 58) 1),jl 60 59,jx 61 (.call (jf 35) [.t 56,.t 60])]) zmG)) zhH)
def NP:AC:=(.seq (.seq (rr [jm 50 11,jm 51 7,jk 52 51,jv 53 (.bin .lss (.t 50) (.t 52))]) ztH) znR)
def zun:AC:=(.block 2 (.loop NP))
def zbb:AC:=(.reg [] [jm 77 10,jm 7 77] [.home 10 7])
def zqP:AC:=(.seq (.seq (rr [jv 11 (.mov (jn 0))]) zun) zbb)
def zsN:AC:=(.seq (.reg [.clr [49]] [jv 43 (.load (.ag [.s,.p]) (.t 2)),jm 44 1,jm 45 8,jv 46 (.bin .add (.t 45) (jn 1)),jv 47 (.slice (.t 44) none (some (.t 46)) 1),jx 48 (.call (jf 44) [.t 43,.t 47]),jx 49 (.lit i0 0 []),jm 9 48,jm 10 49] [.home 49 10]) zqP)
def zug:AC:=(.seq (.reg [.frz 7] [jm 37 7,jm 38 1,jm 39 8,jv 40 (.idx (.t 38) (.t 39) 1),jl 41 40,jx 42 (.call (jf 43) [.t 37,.t 41]),jm 7 42] []) zsN)
def zac:AC:=(rr [jm 28 8,jv 29 (.bin .add (.t 28) (jn 1)),jm 8 29])
def zo3:AC:=(.seq (.block 1 (.seq (.reg [.clr [35,36]] [jm 30 6,jm 31 1,jm 32 8,jv 33 (.idx (.t 31) (.t 32) 1),jl 34 33,jx 35 (.lit i0 1 [(0,0,.t 34)]),jx 36 (.app .s (.t 30) (.t 35)),jm 6 36] [.home 36 6]) zug)) zac)
def JZ:AC:=(.seq (.seq (rr [jm 24 8,jm 25 1,jk 26 25,jv 27 (.bin .lss (.t 24) (.t 26))]) zrc) zo3)
def Kc:AC:=(.seq (.reg [] [jm 78 6,jm 4 78,jv 5 (.mov kt)] [.home 6 4]) .ret)
def zjj:AC:=(.cond (.t 22) (.seq (rr [jm 23 6,jm 4 23,jv 5 (.mov kf)]) .ret) .skip)
def zn6:AC:=(.block 0 (.loop JZ))
def zhk:AC:=(.seq (.seq (rr [jv 8 (.mov (jn 0))]) zn6) Kc)
def zn0:AC:=(.seq (.seq (rr [jv 14 (.load (.ag [.s,.p]) (.t 2)),jx 15 (.call (jf 28) [.t 14]),jv 16 (.un .not (.t 15)),jm 17 16,jg 18 17 false (.load (.ag [.s,.p]) (.t 2)),jg 19 17 false (.mov (.t 1)),.mk (some 20) (some (17,false)) false (.call (jf 42) [.t 18,.t 19]),jg 21 17 false (.un .not (.t 20)),jv 22 (.pick (.t 17) kt (.t 21))]) zjj) zhk)
def zof:AC:=(.seq (.reg [.clr [12,13]] [jx 12 (.lit i0 0 []),jx 13 (.lit i0 0 []),jm 6 12,jm 7 13] [.home 12 6,.home 13 7]) zn0)
def A21:AC:=(.seq (.reg [.clr [2]] [jx 2 (.box (.t 0)),jv 4 (.mov (.k (.sl .nl .s 0 []))),jv 5 (.mov kf)] []) zof)
def zvt:List An:=[⟨0,[.clr [2]],[],[],[]⟩,⟨1,[.clr [12,13]],[],[],[.home 12 6,.home 13 7]⟩,⟨7,[.clr [35,36]],[],[],[.home 36 6]⟩,⟨8,[.frz 7],[],[],[]⟩,⟨9,[.clr [49]],[],[],[.home 49 10]⟩,⟨14,[.clr [67,68]],[],[],[.home 68 10]⟩,⟨15,[.clr [75,76]],[],[],[.home 76 6]⟩,⟨16,[],[],[],[.home 10 7]⟩,⟨17,[],[],[],[.home 6 4]⟩]
theorem c21:cq Try.prog Try.f21 zvt=some A21:=by kernel_rfl
structure H21 (D:Den) (σ:Sig) (F:Nat):Prop where
 c28:C28 (D 28) F
 g28:σ 28=some (0,false)
 c42:C42 (D 42) F
 g42:σ 42=some (0,false)
 c43:C43 (D 43) F
 g43:σ 43=some (0,true)
 c44:C44 (D 44) F
 g44:σ 44=some (0,true)
 c35:C35 (D 35) F
 g35:σ 35=some (0,false)
abbrev R21 (r:(LI×Bool)):(Nat→V)→Prop:=RR Try.prog [.tmp 4,.tmp 5] 0 false (.tup [eL r.1,Enc.enc (r.2:Bool)])
section
variable {r:(LI×Bool)}
def wX (F:Nat) (x2:LI) (x1:GR) (r102:LI) (x53:Int) (r104:LI) (x119:Int) (c1:LI→LI→Int→Option (LI×Bool)) (c4:LI→LI→Int→Option (LI×Bool)) (x138:LI) (x139:LI):Option (LI×Bool):=
 c4 x138 x139 (w64 (x119 + 1))
theorem zck (H:H21 D σ F) (x2:LI) (x1:GR) (r102:LI) (x53:Int) (r104:LI) (x119:Int) (c1:LI→LI→Int→Option (LI×Bool)) (Hc1:∀ (x51:LI) (x52:LI) (x53:Int) (s:Nat→V),zr [(1,eL x2),(2,bG 2 x1),(4,nI),(5,jb false),(6,oI 6 [] (.of x51)),(7,oI 7 [] (.of x52)),(8,ji x53)] s→c1 x51 x52 x53=some r→Run D σ (R21 r) (.run JZ [.lp JZ,.bk 0,.sq Kc]) s) (c4:LI→LI→Int→Option (LI×Bool)) (Hc4:∀ (x117:LI) (x118:LI) (x119:Int) (s:Nat→V),zr [(1,eL x2),(2,bG 2 x1),(4,nI),(5,jb false),(6,oI 6 [] (.of x117)),(7,eL r102),(8,ji x53),(9,eL r104),(10,oI 10 [] (.of x118)),(11,ji x119)] s→c4 x117 x118 x119=some r→Run D σ (R21 r) (.run NP [.lp NP,.bk 2,.sq zbb,.bk 1,.sq zac,.lp JZ,.bk 0,.sq Kc]) s) (x138:LI) (x139:LI) (s:Nat→V) (hs:zr [(1,eL x2),(2,bG 2 x1),(4,nI),(5,jb false),(6,oI 6 [] (.of x138)),(7,eL r102),(8,ji x53),(9,eL r104),(10,oI 10 [] (.of x139)),(11,ji x119)] s) (h:wX F x2 x1 r102 x53 r104 x119 c1 c4 x138 x139=some r):Run D σ (R21 r) (.nrm [.bk 3,.sq zhH,.lp NP,.bk 2,.sq zbb,.bk 1,.sq zac,.lp JZ,.bk 0,.sq Kc]) s:=by
 unfold wX at h
 obtain ⟨h1,h2,h4,h5,h6,h7,h8,h9,h10,h11⟩:=hs
 refine .nbk (.nsq (rg (gm h11 fun h54=>g1 54 (ji (w64 (x119 + 1))) h54 fun h55=>gm h55 fun h11=>gq (.nlp ?_))))
 exact Hc4 x138 x139 (w64 (x119 + 1)) _ ⟨h1,h2,h4,h5,h6,h7,h8,h9,h10,h11⟩ h
def yI (F:Nat) (x2:LI) (x1:GR) (r102:LI) (x53:Int) (r104:LI) (c1:LI→LI→Int→Option (LI×Bool)):Nat→LI→LI→Int→Option (LI×Bool)
 | 0,_,_,_=>none
 | k + 1,x117,x118,x119=>
   bif decide (x119 < (r102.length:Int)) then
    (idx r102 x119).bind fun v132=>
    (wI F r104 v132).bind fun r133=>
    bif r133 then
     (idx r102 x119).bind fun v140=>
     (vz x118 [v140]).bind fun ap141=>
     wX F x2 x1 r102 x53 r104 x119 c1 (yI F x2 x1 r102 x53 r104 c1 k) x117 ap141
    else
     (idx r102 x119).bind fun v142=>
     (vz x117 [w64 ((-1) - v142)]).bind fun ap143=>
     wX F x2 x1 r102 x53 r104 x119 c1 (yI F x2 x1 r102 x53 r104 c1 k) ap143 x118
   else
    c1 x117 x118 (w64 (x53 + 1))
theorem zin (H:H21 D σ F) (x2:LI) (x1:GR) (r102:LI) (x53:Int) (r104:LI) (c1:LI→LI→Int→Option (LI×Bool)) (Hc1:∀ (x51:LI) (x52:LI) (x53:Int) (s:Nat→V),zr [(1,eL x2),(2,bG 2 x1),(4,nI),(5,jb false),(6,oI 6 [] (.of x51)),(7,oI 7 [] (.of x52)),(8,ji x53)] s→c1 x51 x52 x53=some r→Run D σ (R21 r) (.run JZ [.lp JZ,.bk 0,.sq Kc]) s):∀ (k:Nat) (x117:LI) (x118:LI) (x119:Int) (s:Nat→V),zr [(1,eL x2),(2,bG 2 x1),(4,nI),(5,jb false),(6,oI 6 [] (.of x117)),(7,eL r102),(8,ji x53),(9,eL r104),(10,oI 10 [] (.of x118)),(11,ji x119)] s→yI F x2 x1 r102 x53 r104 c1 k x117 x118 x119=some r→Run D σ (R21 r) (.run NP [.lp NP,.bk 2,.sq zbb,.bk 1,.sq zac,.lp JZ,.bk 0,.sq Kc]) s:=by
 intro k
 induction k with
 | zero=>intro x117 x118 x119 s _ h;exact nm h
 | succ k ih=>
   intro x117 x118 x119 s hs h
   rw [yI] at h
   obtain ⟨h1,h2,h4,h5,h6,h7,h8,h9,h10,h11⟩:=hs
   refine .seq (.seq (rg (gm h11 fun h50=>gm h7 fun h51=>gl r102 h51 fun h52=>g2 50 52 (jb (decide (x119 < (r102.length:Int)))) h50 h52 fun h53=>gq (.nsq (zn h53 h (fun h=>?_) (fun h=>?_))))))
   · refine .skip (.nsq (.seq (.block (.seq (rg (gm h9 fun h56=>gm h7 fun h57=>gm h11 fun h58=>?_))))))
     obtain ⟨v132,Ev132,h⟩:=zc h
     refine gv (.ref .sh 0 [] (ji v132)) (yg (t:=.sh) (lo:=0) (xs:=r102) h57 h58 Ev132 rfl rfl) fun h59=>g1 59 (ji v132) h59 fun h60=>?_
     obtain ⟨r133,Er133,h⟩:=zc h
     refine gcF [eL r104,Enc.enc (v132:Int)] (zf h56 rfl (Enc.erase_enc (r104:LI)) (zf h60 rfl rfl zC)) (H.c35 _ _ _ Er133) H.g35 (gq (.nsq (zn rfl h (fun h=>?_) (fun h=>?_))))
     · refine zw (zW ?_)
       refine ez [(1,_),(2,_),(4,_),(5,_),(6,_),(7,_),(8,_),(9,_),(10,_),(11,_),(67,_),(68,_)] ⟨za h1 rfl me,za h2 rfl (zj rfl mIE),za h4 rfl rfl,za h5 rfl mb,za h6 rfl (zl (r:=6) (p:=[]) rfl rfl),za h7 rfl me,za h8 rfl mi,za h9 rfl me,za h10 rfl (zl (r:=10) (p:=[]) rfl rfl),za h11 rfl mi,ze rfl,ze rfl⟩ ?_
       rintro s ⟨h1,h2,h4,h5,h6,h7,h8,h9,h10,h11,h67,h68⟩
       refine gm h10 fun h62=>gm h7 fun h63=>gm h11 fun h64=>?_
       obtain ⟨v140,Ev140,h⟩:=zc h
       refine gv (.ref .sh 0 [] (ji v140)) (yg (t:=.sh) (lo:=0) (xs:=r102) h63 h64 Ev140 rfl rfl) fun h65=>g1 65 (ji v140) h65 fun h66=>xb [(66,ji v140)] [Enc.enc (v140:Int)] h66 rfl rfl h67 ?_
       obtain ⟨ap141,Eap141,h⟩:=zc h
       refine Z0 (q:=10) (p:=[]) (o:=.of (x118:LI)) (ys:=([v140]:LI)) (t2:=.at 67 []) (lo2:=0) h62 rfl rfl h68 (vK (o:=.of (x118:LI)) Eap141 trivial) (fun s128 ha128=>gm (rf (oI 68 [] (.of ap141))) fun h10=>yK (yo (r:=68) (x:=10) (v:=_) h10 rfl (fun s129 hz129=>?_)))
       refine ez [(1,eL x2),(2,bG 2 x1),(4,nI),(5,jb false),(6,oI 6 [] (.of x117)),(7,eL r102),(8,ji x53),(9,eL r104),(10,oI 10 [] (.of ap141)),(11,ji x119)] ⟨hz129 1 _ _ (show s128 1=(eL x2) from zy ha128 h1 me) me,hz129 2 _ _ (show s128 2=(bG 2 x1) from zy ha128 h2 (zj rfl mIE)) (zj rfl mIE),hz129 4 _ nI (show s128 4=nI from zy ha128 h4 rfl) rfl,hz129 5 _ _ (show s128 5=(jb false) from zy ha128 h5 mb) mb,hz129 6 _ _ (show s128 6=(oI 6 [] (.of x117)) from zy ha128 h6 (zl (r:=6) (p:=[]) rfl rfl)) (zl (r:=6) (p:=[]) rfl rfl),hz129 7 _ _ (show s128 7=(eL r102) from zy ha128 h7 me) me,hz129 8 _ _ (show s128 8=(ji x53) from zy ha128 h8 mi) mi,hz129 9 _ _ (show s128 9=(eL r104) from zy ha128 h9 me) me,hz129 10 _ _ h10 (zl (r:=68) (p:=[]) rfl rfl),hz129 11 _ _ (show s128 11=(ji x119) from zy ha128 h11 mi) mi⟩ ?_
       rintro s ⟨h1,h2,h4,h5,h6,h7,h8,h9,h10,h11⟩
       exact zck H x2 x1 r102 x53 r104 x119 c1 Hc1 (yI F x2 x1 r102 x53 r104 c1 k) ih x117 ap141 _ ⟨h1,h2,h4,h5,h6,h7,h8,h9,h10,h11⟩ h
     refine zw (zW ?_)
     refine ez [(1,_),(2,_),(4,_),(5,_),(6,_),(7,_),(8,_),(9,_),(10,_),(11,_),(75,_),(76,_)] ⟨za h1 rfl me,za h2 rfl (zj rfl mIE),za h4 rfl rfl,za h5 rfl mb,za h6 rfl (zl (r:=6) (p:=[]) rfl rfl),za h7 rfl me,za h8 rfl mi,za h9 rfl me,za h10 rfl (zl (r:=10) (p:=[]) rfl rfl),za h11 rfl mi,ze rfl,ze rfl⟩ ?_
     rintro s ⟨h1,h2,h4,h5,h6,h7,h8,h9,h10,h11,h75,h76⟩
     refine gm h6 fun h69=>gm h7 fun h70=>gm h11 fun h71=>?_
     obtain ⟨v142,Ev142,h⟩:=zc h
     refine gv (.ref .sh 0 [] (ji v142)) (yg (t:=.sh) (lo:=0) (xs:=r102) h70 h71 Ev142 rfl rfl) fun h72=>g1 72 (ji v142) h72 fun h73=>g1 73 (ji (w64 ((-1) - v142))) h73 fun h74=>xb [(74,ji (w64 ((-1) - v142)))] [Enc.enc (w64 ((-1) - v142):Int)] h74 rfl rfl h75 ?_
     obtain ⟨ap143,Eap143,h⟩:=zc h
     refine Z0 (q:=6) (p:=[]) (o:=.of (x117:LI)) (ys:=([w64 ((-1) - v142)]:LI)) (t2:=.at 75 []) (lo2:=0) h69 rfl rfl h76 (vK (o:=.of (x117:LI)) Eap143 trivial) (fun s131 ha131=>gm (rf (oI 76 [] (.of ap143))) fun h6=>yK (yo (r:=76) (x:=6) (v:=_) h6 rfl (fun s132 hz132=>?_)))
     refine ez [(1,eL x2),(2,bG 2 x1),(4,nI),(5,jb false),(6,oI 6 [] (.of ap143)),(7,eL r102),(8,ji x53),(9,eL r104),(10,oI 10 [] (.of x118)),(11,ji x119)] ⟨hz132 1 _ _ (show s131 1=(eL x2) from zy ha131 h1 me) me,hz132 2 _ _ (show s131 2=(bG 2 x1) from zy ha131 h2 (zj rfl mIE)) (zj rfl mIE),hz132 4 _ nI (show s131 4=nI from zy ha131 h4 rfl) rfl,hz132 5 _ _ (show s131 5=(jb false) from zy ha131 h5 mb) mb,hz132 6 _ _ h6 (zl (r:=76) (p:=[]) rfl rfl),hz132 7 _ _ (show s131 7=(eL r102) from zy ha131 h7 me) me,hz132 8 _ _ (show s131 8=(ji x53) from zy ha131 h8 mi) mi,hz132 9 _ _ (show s131 9=(eL r104) from zy ha131 h9 me) me,hz132 10 _ _ (show s131 10=(oI 10 [] (.of x118)) from zy ha131 h10 (zl (r:=10) (p:=[]) rfl rfl)) (zl (r:=10) (p:=[]) rfl rfl),hz132 11 _ _ (show s131 11=(ji x119) from zy ha131 h11 mi) mi⟩ ?_
     rintro s ⟨h1,h2,h4,h5,h6,h7,h8,h9,h10,h11⟩
     exact zck H x2 x1 r102 x53 r104 x119 c1 Hc1 (yI F x2 x1 r102 x53 r104 c1 k) ih ap143 x118 _ ⟨h1,h2,h4,h5,h6,h7,h8,h9,h10,h11⟩ h
   refine .exit (.esq (.elp (.ebk (.nsq (rg (gm h10 fun h77=>gm h77 fun h7=>yK (yo (r:=10) (x:=7) (v:=_) h7 rfl (fun s133 hz133=>?_))))))))
   refine ez [(1,eL x2),(2,bG 2 x1),(4,nI),(5,jb false),(6,oI 6 [] (.of x117)),(7,oI 7 [] (.of x118)),(8,ji x53)] ⟨hz133 1 _ _ h1 me,hz133 2 _ _ h2 (zj rfl mIE),hz133 4 _ _ h4 rfl,hz133 5 _ _ h5 mb,hz133 6 _ _ h6 (zl (r:=6) (p:=[]) rfl rfl),hz133 7 _ _ h7 (zl (r:=10) (p:=[]) rfl rfl),hz133 8 _ _ h8 mi⟩ ?_
   rintro s ⟨h1,h2,h4,h5,h6,h7,h8⟩
   refine .nbk (.nsq (rg (gm h8 fun h28=>g1 28 (ji (w64 (x53 + 1))) h28 fun h29=>gm h29 fun h8=>gq (.nlp ?_))))
   exact Hc1 x117 x118 (w64 (x53 + 1)) _ ⟨h1,h2,h4,h5,h6,h7,h8⟩ h
def y5 (F:Nat) (x2:LI) (x1:GR) :Nat→LI→LI→Int→Option (LI×Bool)
 | 0,_,_,_=>none
 | k + 1,x51,x52,x53=>
   bif decide (x53 < (x2.length:Int)) then
    (idx x2 x53).bind fun v99=>
    (vz x51 [v99]).bind fun ap100=>
    (idx x2 x53).bind fun v101=>
    (Yf F x52 v101).bind fun r102=>
    (sub x2 0 (w64 (x53 + 1))).bind fun sub103=>
    (Yy F x1 sub103).bind fun r104=>
    yI F x2 x1 r102 x53 r104 (y5 F x2 x1 k) F ap100 [] 0
   else
    some (x51,true)
theorem zjE (H:H21 D σ F) (x2:LI) (x1:GR) :∀ (k:Nat) (x51:LI) (x52:LI) (x53:Int) (s:Nat→V),zr [(1,eL x2),(2,bG 2 x1),(4,nI),(5,jb false),(6,oI 6 [] (.of x51)),(7,oI 7 [] (.of x52)),(8,ji x53)] s→y5 F x2 x1 k x51 x52 x53=some r→Run D σ (R21 r) (.run JZ [.lp JZ,.bk 0,.sq Kc]) s:=by
 intro k
 induction k with
 | zero=>intro x51 x52 x53 s _ h;exact nm h
 | succ k ih=>
   intro x51 x52 x53 s hs h
   rw [y5] at h
   obtain ⟨h1,h2,h4,h5,h6,h7,h8⟩:=hs
   refine .seq (.seq (rg (gm h8 fun h24=>gm h1 fun h25=>gl x2 h25 fun h26=>g2 24 26 (jb (decide (x53 < (x2.length:Int)))) h24 h26 fun h27=>gq (.nsq (zn h27 h (fun h=>?_) (fun h=>?_))))))
   · refine .skip (.nsq (.seq (.block (.seq (zw (zW ?_))))))
     refine ez [(1,_),(2,_),(4,_),(5,_),(6,_),(7,_),(8,_),(35,_),(36,_)] ⟨za h1 rfl me,za h2 rfl (zj rfl mIE),za h4 rfl rfl,za h5 rfl mb,za h6 rfl (zl (r:=6) (p:=[]) rfl rfl),za h7 rfl (zl (r:=7) (p:=[]) rfl rfl),za h8 rfl mi,ze rfl,ze rfl⟩ ?_
     rintro s ⟨h1,h2,h4,h5,h6,h7,h8,h35,h36⟩
     refine gm h6 fun h30=>gm h1 fun h31=>gm h8 fun h32=>?_
     obtain ⟨v99,Ev99,h⟩:=zc h
     refine gv (.ref .sh 0 [] (ji v99)) (yg (t:=.sh) (lo:=0) (xs:=x2) h31 h32 Ev99 rfl rfl) fun h33=>g1 33 (ji v99) h33 fun h34=>xb [(34,ji v99)] [Enc.enc (v99:Int)] h34 rfl rfl h35 ?_
     obtain ⟨ap100,Eap100,h⟩:=zc h
     refine Z0 (q:=6) (p:=[]) (o:=.of (x51:LI)) (ys:=([v99]:LI)) (t2:=.at 35 []) (lo2:=0) h30 rfl rfl h36 (vK (o:=.of (x51:LI)) Eap100 trivial) (fun s92 ha92=>gm (rf (oI 36 [] (.of ap100))) fun h6=>yK (yo (r:=36) (x:=6) (v:=_) h6 rfl (fun s93 hz93=>?_)))
     refine ez [(1,eL x2),(2,bG 2 x1),(4,nI),(5,jb false),(6,oI 6 [] (.of ap100)),(7,oI 7 [] (.of x52)),(8,ji x53)] ⟨hz93 1 _ _ (show s92 1=(eL x2) from zy ha92 h1 me) me,hz93 2 _ _ (show s92 2=(bG 2 x1) from zy ha92 h2 (zj rfl mIE)) (zj rfl mIE),hz93 4 _ nI (show s92 4=nI from zy ha92 h4 rfl) rfl,hz93 5 _ _ (show s92 5=(jb false) from zy ha92 h5 mb) mb,hz93 6 _ _ h6 (zl (r:=36) (p:=[]) rfl rfl),hz93 7 _ _ (show s92 7=(oI 7 [] (.of x52)) from zy ha92 h7 (zl (r:=7) (p:=[]) rfl rfl)) (zl (r:=7) (p:=[]) rfl rfl),hz93 8 _ _ (show s92 8=(ji x53) from zy ha92 h8 mi) mi⟩ ?_
     rintro s ⟨h1,h2,h4,h5,h6,h7,h8⟩
     refine .nsq (.seq (zw (Yt (x:=7) (v:=oI 7 [] (.of x52)) [.at 7 []] (by exact h7) z8 (fun s94 hz94=>?_))))
     refine ez [(1,_),(2,bG 2 x1),(4,nI),(5,jb false),(6,oI 6 [] (.of ap100)),(7,_),(8,ji x53)] ⟨hz94 1 _ _ h1 zE,hz94 2 _ _ h2 (yV rfl zIE rfl),hz94 4 _ _ h4 rfl,hz94 5 _ _ h5 rfl,hz94 6 _ _ h6 (J1 rfl rfl),hz94 7 _ _ h7 vJ,hz94 8 _ _ h8 rfl⟩ ?_
     rintro s ⟨h1,h2,h4,h5,h6,h7,h8⟩
     refine gm h7 fun h37=>gm h1 fun h38=>gm h8 fun h39=>?_
     obtain ⟨v101,Ev101,h⟩:=zc h
     refine gv (.ref .sh 0 [] (ji v101)) (yg (t:=.sh) (lo:=0) (xs:=x2) h38 h39 Ev101 rfl rfl) fun h40=>g1 40 (ji v101) h40 fun h41=>?_
     obtain ⟨r102,Er102,h⟩:=zc h
     refine xT (m:=0) (al:=true) (r:=eL r102) [eL x52,Enc.enc (v101:Int)] (zf h37 rfl (Enc.erase_enc (x52:LI)) (zf h41 rfl rfl zC)) (H.c43 _ _ _ Er102) H.g43 (we (yc (v:=eL x52) h37 rfl rfl (yc (v:=ji v101) h41 rfl rfl wd))) rfl rfl rfl (gm (rf (eL r102)) fun h7=>gq (.nsq (.seq (zw (zW ?_)))))
     refine ez [(1,_),(2,_),(4,_),(5,_),(6,_),(7,_),(8,_),(49,_)] ⟨za h1 rfl me,za h2 rfl (zj rfl mIE),za h4 rfl rfl,za h5 rfl mb,za h6 rfl (zl (r:=6) (p:=[]) rfl rfl),za h7 rfl me,za h8 rfl mi,ze rfl⟩ ?_
     rintro s ⟨h1,h2,h4,h5,h6,h7,h8,h49⟩
     refine g1 2 (gV x1) h2 fun h43=>gm h1 fun h44=>gm h8 fun h45=>g1 45 (ji (w64 (x53 + 1))) h45 fun h46=>?_
     obtain ⟨sub103,Esub103,h⟩:=zc h
     refine gv (eL sub103) (W6 (xs:=x2) h44 (YN) (YD h46) Esub103 rfl) fun h47=>?_
     obtain ⟨r104,Er104,h⟩:=zc h
     refine xT (m:=0) (al:=true) (r:=eL r104) [Enc.enc (x1:GR),eL sub103] (zf h43 rfl (Enc.erase_enc (x1:GR)) (zf h47 rfl (Enc.erase_enc (sub103:LI)) zC)) (H.c44 _ _ _ Er104) H.g44 (we (yc (v:=gV x1) h43 rfl rfl (yc (v:=eL sub103) h47 rfl rfl wd))) rfl rfl rfl (xb [] [] trivial rfl rfl h49 (gm (rf (eL r104)) fun h9=>gm (rf (oI 49 [] (.of []))) fun h10=>yK (yo (r:=49) (x:=10) (v:=_) h10 rfl (fun s96 hz96=>?_))))
     refine ez [(1,eL x2),(2,bG 2 x1),(4,nI),(5,jb false),(6,oI 6 [] (.of ap100)),(7,eL r102),(8,ji x53),(9,eL r104),(10,oI 10 [] (.of []))] ⟨hz96 1 _ _ h1 me,hz96 2 _ _ h2 (zj rfl mIE),hz96 4 _ _ h4 rfl,hz96 5 _ _ h5 mb,hz96 6 _ _ h6 (zl (r:=6) (p:=[]) rfl rfl),hz96 7 _ _ h7 me,hz96 8 _ _ h8 mi,hz96 9 _ _ h9 me,hz96 10 _ _ h10 (zl (r:=49) (p:=[]) rfl rfl)⟩ ?_
     rintro s ⟨h1,h2,h4,h5,h6,h7,h8,h9,h10⟩
     refine .nsq (.seq (.seq (rg (g0 (ji 0) fun h11=>gq (.nsq (.block (.loop ?_)))))))
     exact zin H x2 x1 r102 x53 r104 (y5 F x2 x1 k) ih F ap100 [] 0 _ ⟨h1,h2,h4,h5,h6,h7,h8,h9,h10,h11⟩ h
   refine .exit (.esq (.elp (.ebk (.nsq (.seq (rg (gm h6 fun h78=>gm h78 fun h4=>g0 (jb true) fun h5=>yK (yo (r:=6) (x:=4) (v:=_) h4 rfl (fun s134 hz134=>?_)))))))))
   refine ez [(4,oI 4 [] (.of x51)),(5,jb true)] ⟨hz134 4 _ _ h4 (zl (r:=6) (p:=[]) rfl rfl),hz134 5 _ _ h5 mb⟩ ?_
   rintro s ⟨h4,h5⟩
   refine .nsq (.ret ?_)
   obtain rfl:=oi h
   exact rrB (zm h4) (zm h5) (vC (w6 (z7 (wj (o:=.of x51)) (z7 (xd (x:=(true:Bool))) xJ))) (Y0 (yN (vB rfl) (yN rfl vr))))
def wM (F:Nat) (x2:LI) (x1:GR)  (x5:Bool):Option (LI×Bool):=
 bif x5 then
  some ([],false)
 else
  y5 F x2 x1 F [] [] 0
theorem zcN (H:H21 D σ F) (x2:LI) (x1:GR)  (x5:Bool) (s:Nat→V) (hs:zr [(1,eL x2),(2,bG 2 x1),(4,nI),(5,jb false),(6,oI 6 [] (.of [])),(7,oI 7 [] (.of [])),(22,jb x5)] s) (h:wM F x2 x1  x5=some r):Run D σ (R21 r) (.nrm [.sq zjj,.sq zhk]) s:=by
 unfold wM at h
 obtain ⟨h1,h2,h4,h5,h6,h7,h22⟩:=hs
 refine .nsq (zn h22 h (fun h=>?_) (fun h=>?_))
 · refine .seq (rg (gm h6 fun h23=>gm h23 fun h4=>g0 (jb false) fun h5=>gq (.nsq (.ret ?_))))
   obtain rfl:=oi h
   exact rrB (zm h4) (zm h5) (vC (w6 (z7 (wj (o:=.of [])) (z7 (xd (x:=(false:Bool))) xJ))) (Y0 (yN (vB rfl) (yN rfl vr))))
 refine .skip (.nsq (.seq (.seq (rg (g0 (ji 0) fun h8=>gq (.nsq (.block (.loop ?_))))))))
 exact zjE H x2 x1 F [] [] 0 _ ⟨h1,h2,h4,h5,h6,h7,h8⟩ h
def yY (F:Nat) (x1:GR) (x2:LI):Option (LI×Bool):=
 (ug F x1).bind fun r144=>
 bif (!r144) then
  wM F x2 x1 true
 else
  (ZD F x1 x2).bind fun r145=>
  wM F x2 x1 (!r145)
theorem t21 (H:H21 D σ F) (x1:GR) (x2:LI) (s:Nat→V) (hs:zr [(0,gV x1),(1,eL x2)] s) (h:yY F x1 x2=some r):Run D σ (R21 r) (.run A21 []) s:=by
 unfold yY at h
 obtain ⟨h0,h1⟩:=hs
 refine .seq (zw (zW ?_))
 refine ez [(0,_),(1,_),(2,_)] ⟨za h0 rfl mIE,za h1 rfl me,ze rfl⟩ ?_
 rintro s ⟨h0,h1,h2⟩
 refine xn (gV x1) (zB h0 rfl) h2 rfl (g0 nI fun h4=>g0 (jb false) fun h5=>gq (.nsq (.seq (zw (zW ?_)))))
 refine ez [(1,_),(2,_),(4,_),(5,_),(12,_),(13,_)] ⟨za h1 rfl me,za rfl rfl (zj rfl mIE),za h4 rfl rfl,za h5 rfl mb,ze rfl,ze rfl⟩ ?_
 rintro s ⟨h1,h2,h4,h5,h12,h13⟩
 refine xb [] [] trivial rfl rfl h12 (xb [] [] trivial rfl rfl h13 (gm (rf (oI 12 [] (.of []))) fun h6=>gm (rf (oI 13 [] (.of []))) fun h7=>yK (yo (r:=12) (x:=6) (v:=_) h6 rfl (fun s3 hz3=>yo (r:=13) (x:=7) (v:=_) (by exact (hz3 7 _ _ h7 (zl (r:=13) (p:=[]) rfl rfl))) rfl (fun s4 hz4=>?_)))))
 refine ez [(1,eL x2),(2,bG 2 x1),(4,nI),(5,jb false),(6,oI 6 [] (.of [])),(7,oI 7 [] (.of []))] ⟨hz4 1 _ _ (hz3 1 _ _ h1 me) me,hz4 2 _ _ (hz3 2 _ _ h2 (zj rfl mIE)) (zj rfl mIE),hz4 4 _ nI (hz3 4 _ nI h4 rfl) rfl,hz4 5 _ _ (hz3 5 _ _ h5 mb) mb,hz4 6 _ _ (hz3 6 _ _ h6 (zl (r:=12) (p:=[]) rfl rfl)) (zl (r:=6) (p:=[]) rfl rfl),hz4 7 _ _ (hz3 7 _ _ h7 (zl (r:=13) (p:=[]) rfl rfl)) (zl (r:=13) (p:=[]) rfl rfl)⟩ ?_
 rintro s ⟨h1,h2,h4,h5,h6,h7⟩
 refine .nsq (.seq (.seq (rg (g1 2 (gV x1) h2 fun h14=>?_))))
 obtain ⟨r144,Er144,h⟩:=zc h
 refine gcF [Enc.enc (x1:GR)] (zf h14 rfl (Enc.erase_enc (x1:GR)) zC) (H.c28 _ _ Er144) H.g28 (g1 15 (jb (!r144)) (rf (jb r144)) fun h16=>gm h16 fun h17=>zX h (fun hg4 h=>?_) (fun hg4 h=>?_))
 · iterate 4 refine yq (ct h17 hg4) ?_
   refine g2 17 21 (jb true) (ct h17 hg4) (rf (.tup [])) fun h22=>gq ?_
   exact zcN H x2 x1 true _ ⟨h1,h2,h4,h5,h6,h7,h22⟩ h
 refine zp (ct h17 hg4) (g1 2 (gV x1) h2 fun h18=>zp (ct h17 hg4) (gm h1 fun h19=>?_))
 obtain ⟨r145,Er145,h⟩:=zc h
 refine zp (ct h17 hg4) (gcF [Enc.enc (x1:GR),eL x2] (zf h18 rfl (Enc.erase_enc (x1:GR)) (zf h19 rfl (Enc.erase_enc (x2:LI)) zC)) (H.c42 _ _ _ Er145) H.g42 (zp (ct h17 hg4) (g1 20 (jb (!r145)) (rf (jb r145)) fun h21=>g2 17 21 (jb (!r145)) (ct h17 hg4) h21 fun h22=>gq ?_)))
 exact zcN H x2 x1 (!r145) _ ⟨h1,h2,h4,h5,h6,h7,h22⟩ h
end
def e21 (F:Nat):Ent:=ent 21 (fun (x:(GR×LI×Unit))=>yY F x.1 x.2.1) (fun (r:(LI×Bool))=>(.tup [eL r.1,Enc.enc (r.2:Bool)])) 0 false []
abbrev C21 (D:List V→Option V) (F:Nat):Prop:=∀ (x0:GR) (x1:LI) r,yY F x0 x1=some r→D [Enc.enc x0,Enc.enc x1]=some (.tup [eL r.1,Enc.enc (r.2:Bool)])
theorem p21 {F:Nat}:C21 (e21 F).den F:=fun x0 x1 _ h=>zS (x0,x1,()) h
theorem o21 (hF:zG Try.prog D σ) (H:H21 D σ F):(e21 F).Ok Try.prog:=okZ (f:=21) Try.func21 fun ⟨x0,x1,_⟩ y hy=>cR hF Try.func21 c21 (t21 H x0 x1 _ ⟨rfl,rfl⟩ hy)
def zoz:AC:=(.cond (.t 10) .skip (.exit 0))
def zpE:AC:=(.cond (.t 17) (.reg [.clr [20,21]] [jm 18 5,jm 19 6,jx 20 (.lit i0 1 [(0,0,.t 19)]),jx 21 (.app .s (.t 18) (.t 20)),jm 5 21] [.home 21 5]) .skip)
def zle:AC:=(rr [jm 11 6,jv 12 (.bin .add (.t 11) (jn 1)),jm 6 12])
def zoZ:AC:=(.seq (.block 1 (.seq (rr [jm 13 1,jm 14 6,jv 15 (.bin .shr (.t 13) (.t 14)),jv 16 (.bin .and (.t 15) (jn 1)),jv 17 (.bin .eql (.t 16) (jn 1))]) zpE)) zle)
def NT:AC:=(.seq (.seq (rr [jm 8 6,jm 9 0,jv 10 (.bin .lss (.t 8) (.t 9))]) zoz) zoZ)
def zen:AC:=(.seq (.reg [] [jm 22 5,jm 4 22] [.home 5 4]) .ret)
def zuc:AC:=(.block 0 (.loop NT))
def zqc:AC:=(.seq (.seq (rr [jv 6 (.mov (jn 0))]) zuc) zen)
def zqy:AC:=(.seq (.reg [.clr [7]] [jx 7 (.lit i0 0 []),jm 5 7] [.home 7 5]) zqc)
def A84:AC:=(.seq (rr [jv 4 (.mov (.k (.sl .nl .s 0 [])))]) zqy)
def zuB:List An:=[⟨1,[.clr [7]],[],[],[.home 7 5]⟩,⟨6,[.clr [20,21]],[],[],[.home 21 5]⟩,⟨7,[],[],[],[.home 5 4]⟩]
theorem c84:cq Try.prog Try.f84 zuB=some A84:=by kernel_rfl
structure H84 (D:Den) (σ:Sig) (F:Nat):Prop where
 mk ::
abbrev R84 (r:LI):(Nat→V)→Prop:=RR Try.prog [.tmp 4] 0 false (eL r)
section
variable {r:LI}
def Xw (F:Nat) (x1:Int) (x2:Int) (x8:Int) (c1:LI→Int→Option LI) (x15:LI):Option LI:=
 c1 x15 (w64 (x8 + 1))
theorem zcu (H:H84 D σ F) (x1:Int) (x2:Int) (x8:Int) (c1:LI→Int→Option LI) (Hc1:∀ (x7:LI) (x8:Int) (s:Nat→V),zr [(0,ji x1),(1,ji x2),(4,nI),(5,oI 5 [] (.of x7)),(6,ji x8)] s→c1 x7 x8=some r→Run D σ (R84 r) (.run NT [.lp NT,.bk 0,.sq zen]) s) (x15:LI) (s:Nat→V) (hs:zr [(0,ji x1),(1,ji x2),(4,nI),(5,oI 5 [] (.of x15)),(6,ji x8)] s) (h:Xw F x1 x2 x8 c1 x15=some r):Run D σ (R84 r) (.nrm [.bk 1,.sq zle,.lp NT,.bk 0,.sq zen]) s:=by
 unfold Xw at h
 obtain ⟨h0,h1,h4,h5,h6⟩:=hs
 refine .nbk (.nsq (rg (gm h6 fun h11=>g1 11 (ji (w64 (x8 + 1))) h11 fun h12=>gm h12 fun h6=>gq (.nlp ?_))))
 exact Hc1 x15 (w64 (x8 + 1)) _ ⟨h0,h1,h4,h5,h6⟩ h
def vo (F:Nat) (x1:Int) (x2:Int) :Nat→LI→Int→Option LI
 | 0,_,_=>none
 | k + 1,x7,x8=>
   bif decide (x8 < x1) then
    (U4 .i64 x2 x8).bind fun q13=>
    bif ((yO .i64 q13 1) == 1) then
     (vz x7 [x8]).bind fun ap16=>
     Xw F x1 x2 x8 (vo F x1 x2 k) ap16
    else
     Xw F x1 x2 x8 (vo F x1 x2 k) x7
   else
    some x7
theorem zhY (H:H84 D σ F) (x1:Int) (x2:Int) :∀ (k:Nat) (x7:LI) (x8:Int) (s:Nat→V),zr [(0,ji x1),(1,ji x2),(4,nI),(5,oI 5 [] (.of x7)),(6,ji x8)] s→vo F x1 x2 k x7 x8=some r→Run D σ (R84 r) (.run NT [.lp NT,.bk 0,.sq zen]) s:=by
 intro k
 induction k with
 | zero=>intro x7 x8 s _ h;exact nm h
 | succ k ih=>
   intro x7 x8 s hs h
   rw [vo] at h
   obtain ⟨h0,h1,h4,h5,h6⟩:=hs
   refine .seq (.seq (rg (gm h6 fun h8=>gm h0 fun h9=>g2 8 9 (jb (decide (x8 < x1))) h8 h9 fun h10=>gq (.nsq (zn h10 h (fun h=>?_) (fun h=>?_))))))
   · refine .skip (.nsq (.seq (.block (.seq (rg (gm h1 fun h13=>gm h6 fun h14=>?_))))))
     obtain ⟨q13,Eq13,h⟩:=zc h
     refine gv (ji q13) (XP h13 h14 Eq13) fun h15=>g1 15 (ji (yO .i64 q13 1)) h15 fun h16=>g1 16 (jb ((yO .i64 q13 1) == 1)) h16 fun h17=>gq (.nsq (zn h17 h (fun h=>?_) (fun h=>?_)))
     · refine zw (zW ?_)
       refine ez [(0,_),(1,_),(4,_),(5,_),(6,_),(20,_),(21,_)] ⟨za h0 rfl mi,za h1 rfl mi,za h4 rfl rfl,za h5 rfl (zl (r:=5) (p:=[]) rfl rfl),za h6 rfl mi,ze rfl,ze rfl⟩ ?_
       rintro s ⟨h0,h1,h4,h5,h6,h20,h21⟩
       refine gm h5 fun h18=>gm h6 fun h19=>xb [(19,ji x8)] [Enc.enc (x8:Int)] h19 rfl rfl h20 ?_
       obtain ⟨ap16,Eap16,h⟩:=zc h
       refine Z0 (q:=5) (p:=[]) (o:=.of (x7:LI)) (ys:=([x8]:LI)) (t2:=.at 20 []) (lo2:=0) h18 rfl rfl h21 (vK (o:=.of (x7:LI)) Eap16 trivial) (fun s19 ha19=>gm (rf (oI 21 [] (.of ap16))) fun h5=>yK (yo (r:=21) (x:=5) (v:=_) h5 rfl (fun s20 hz20=>?_)))
       refine ez [(0,ji x1),(1,ji x2),(4,nI),(5,oI 5 [] (.of ap16)),(6,ji x8)] ⟨hz20 0 _ _ (show s19 0=(ji x1) from zy ha19 h0 mi) mi,hz20 1 _ _ (show s19 1=(ji x2) from zy ha19 h1 mi) mi,hz20 4 _ nI (show s19 4=nI from zy ha19 h4 rfl) rfl,hz20 5 _ _ h5 (zl (r:=21) (p:=[]) rfl rfl),hz20 6 _ _ (show s19 6=(ji x8) from zy ha19 h6 mi) mi⟩ ?_
       rintro s ⟨h0,h1,h4,h5,h6⟩
       exact zcu H x1 x2 x8 (vo F x1 x2 k) ih ap16 _ ⟨h0,h1,h4,h5,h6⟩ h
     refine .skip ?_
     exact zcu H x1 x2 x8 (vo F x1 x2 k) ih x7 _ ⟨h0,h1,h4,h5,h6⟩ h
   refine .exit (.esq (.elp (.ebk (.nsq (.seq (rg (gm h5 fun h22=>gm h22 fun h4=>yK (yo (r:=5) (x:=4) (v:=_) h4 rfl (fun s21 hz21=>?_)))))))))
   refine ez [(4,oI 4 [] (.of x7))] (hz21 4 _ _ h4 (zl (r:=5) (p:=[]) rfl rfl)) ?_
   rintro s h4
   refine .nsq (.ret ?_)
   obtain rfl:=oi h
   exact rrA (zm h4) (vC (wj (o:=.of x7)) (vB rfl))
def Wp (F:Nat) (x1:Int) (x2:Int):Option LI:=
 vo F x1 x2 F [] 0
theorem t84 (H:H84 D σ F) (x1:Int) (x2:Int) (s:Nat→V) (hs:zr [(0,ji x1),(1,ji x2)] s) (h:Wp F x1 x2=some r):Run D σ (R84 r) (.run A84 []) s:=by
 unfold Wp at h
 obtain ⟨h0,h1⟩:=hs
 refine .seq (rg (g0 nI fun h4=>gq (.nsq (.seq (zw (zW ?_))))))
 refine ez [(0,_),(1,_),(4,_),(7,_)] ⟨za h0 rfl mi,za h1 rfl mi,za h4 rfl rfl,ze rfl⟩ ?_
 rintro s ⟨h0,h1,h4,h7⟩
 refine xb [] [] trivial rfl rfl h7 (gm (rf (oI 7 [] (.of []))) fun h5=>yK (yo (r:=7) (x:=5) (v:=_) h5 rfl (fun s2 hz2=>?_)))
 refine ez [(0,ji x1),(1,ji x2),(4,nI),(5,oI 5 [] (.of []))] ⟨hz2 0 _ _ h0 mi,hz2 1 _ _ h1 mi,hz2 4 _ _ h4 rfl,hz2 5 _ _ h5 (zl (r:=7) (p:=[]) rfl rfl)⟩ ?_
 rintro s ⟨h0,h1,h4,h5⟩
 refine .nsq (.seq (.seq (rg (g0 (ji 0) fun h6=>gq (.nsq (.block (.loop ?_)))))))
 exact zhY H x1 x2 F [] 0 _ ⟨h0,h1,h4,h5,h6⟩ h
end
def e84 (F:Nat):Ent:=ent 84 (fun (x:(Int×Int×Unit))=>Wp F x.1 x.2.1) (fun (r:LI)=>(eL r)) 0 false []
abbrev C84 (D:List V→Option V) (F:Nat):Prop:=∀ (x0:Int) (x1:Int) r,Wp F x0 x1=some r→D [Enc.enc x0,Enc.enc x1]=some (eL r)
theorem p84 {F:Nat}:C84 (e84 F).den F:=fun x0 x1 _ h=>zS (x0,x1,()) h
theorem o84 (hF:zG Try.prog D σ) (H:H84 D σ F):(e84 F).Ok Try.prog:=okZ (f:=84) Try.func84 fun ⟨x0,x1,_⟩ y hy=>cR hF Try.func84 c84 (t84 H x0 x1 _ ⟨rfl,rfl⟩ hy)
def zqU:AC:=(.seq (rr [jv 3 (.fld (.t 1) 0 0),jl 4 3,jv 5 (.fld (.t 1) 0 0),jl 6 5,jv 7 (.bin .shl (jn 1) (.t 6)),jv 8 (.bin .sub (.t 7) (jn 1)),jx 9 (.call (jf 84) [.t 4,.t 8]),jm 2 9]) .ret)
def A71:AC:=(.seq (.reg [.clr [1]] [jx 1 (.box (.t 0)),jv 2 (.mov (.k (.sl .nl .s 0 [])))] []) zqU)
def zvC:List An:=[⟨0,[.clr [1]],[],[],[]⟩]
theorem c71:cq Try.prog Try.f71 zvC=some A71:=by kernel_rfl
structure H71 (D:Den) (σ:Sig) (F:Nat):Prop where
 c84:C84 (D 84) F
 g84:σ 84=some (0,false)
abbrev R71 (r:LI):(Nat→V)→Prop:=RR Try.prog [.tmp 2] 0 true (eL r)
section
variable {r:LI}
def UC (F:Nat) (x1:GR):Option LI:=
 (Wc .i64 1 x1.1).bind fun q2=>
 (Wp F x1.1 (w64 (q2 - 1))).bind fun r3=>
 some r3
theorem t71 (H:H71 D σ F) (x1:GR) (s:Nat→V) (hs:zr [(0,gV x1)] s) (h:UC F x1=some r):Run D σ (R71 r) (.run A71 []) s:=by
 unfold UC at h
 have h0:=hs
 refine .seq (zw (zW ?_))
 refine ez [(0,_),(1,_)] ⟨za h0 rfl mIE,ze rfl⟩ ?_
 rintro s ⟨h0,h1⟩
 refine xn (gV x1) (zB h0 rfl) h1 rfl (g0 nI fun h2=>gq (.nsq (.seq (rg (g1 1 (.ref (.bx 1) 0 [0] (ji x1.1)) (rf (bG 1 x1)) fun h3=>g1 3 (ji x1.1) h3 fun h4=>g1 1 (.ref (.bx 1) 0 [0] (ji x1.1)) (rf (bG 1 x1)) fun h5=>g1 5 (ji x1.1) h5 fun h6=>?_)))))
 obtain ⟨q2,Eq2,h⟩:=zc h
 refine gv (ji q2) (Y9 rfl h6 Eq2) fun h7=>g1 7 (ji (w64 (q2 - 1))) h7 fun h8=>?_
 obtain ⟨r3,Er3,h⟩:=zc h
 refine gcF [Enc.enc (x1.1:Int),Enc.enc (w64 (q2 - 1):Int)] (zf h4 rfl rfl (zf h8 rfl rfl zC)) (H.c84 _ _ _ Er3) H.g84 (gm (rf (eL r3)) fun h2=>gq (.nsq (.ret ?_)))
 obtain rfl:=oi h
 exact rrA (zm h2) (xV (xd (x:=(r3:LI))))
end
def e71 (F:Nat):Ent:=ent 71 (fun (x:(GR×Unit))=>UC F x.1) (fun (r:LI)=>(eL r)) 0 true []
abbrev C71 (D:List V→Option V) (F:Nat):Prop:=∀ (x0:GR) r,UC F x0=some r→D [Enc.enc x0]=some (eL r)
theorem p71 {F:Nat}:C71 (e71 F).den F:=fun x0 _ h=>zS (x0,()) h
theorem o71 (hF:zG Try.prog D σ) (H:H71 D σ F):(e71 F).Ok Try.prog:=okZ (f:=71) Try.func71 fun ⟨x0,_⟩ y hy=>cR hF Try.func71 c71 (t71 H x0 _ rfl hy)
def ztO:AC:=(.seq (rr [jv 3 (.load (.ag [.s,.p]) (.t 1)),jx 4 (.call (jf 71) [.t 3]),jv 5 (.bld (.agg [.sl .nl .s 0 [],.sl .nl .s 0 []]) [(1,1,.t 4)]),jz (.store (.ag [.p,.p]) (.t 2) (.t 5))]) .ret)
def A52:AC:=(.seq (.reg [.clr [1,2]] [jx 1 (.box (.t 0)),jx 2 (.alloc (.agg [.sl .nl .s 0 [],.sl .nl .s 0 []]))] []) ztO)
def zvF:List An:=[⟨0,[.clr [1,2]],[],[],[]⟩]
theorem c52:cq Try.prog Try.f52 zvF=some A52:=by kernel_rfl
structure H52 (D:Den) (σ:Sig) (F:Nat):Prop where
 c71:C71 (D 71) F
 g71:σ 71=some (0,true)
abbrev R52 (r:(LI×LI)):(Nat→V)→Prop:=RR Try.prog [.cell 2 55] 0 true (Enc.enc (r:(LI×LI)))
section
variable {r:(LI×LI)}
def Zg (F:Nat) (x1:GR):Option (LI×LI):=
 (UC F x1).bind fun r2=>
 some ([],r2)
theorem t52 (H:H52 D σ F) (x1:GR) (s:Nat→V) (hs:zr [(0,gV x1)] s) (h:Zg F x1=some r):Run D σ (R52 r) (.run A52 []) s:=by
 unfold Zg at h
 have h0:=hs
 refine .seq (zw (zW ?_))
 refine ez [(0,_),(1,_),(2,_)] ⟨za h0 rfl mIE,ze rfl,ze rfl⟩ ?_
 rintro s ⟨h0,h1,h2⟩
 refine xn (gV x1) (zB h0 rfl) h1 rfl (y9 h2 (gq (.nsq (.seq (rg (g1 1 (gV x1) (rf (bG 1 x1)) fun h3=>?_))))))
 obtain ⟨r2,Er2,h⟩:=zc h
 refine xT (m:=0) (al:=true) (r:=eL r2) [Enc.enc (x1:GR)] (zf h3 rfl (Enc.erase_enc (x1:GR)) zC) (H.c71 _ _ Er2) H.g71 (we (yc (v:=gV x1) h3 rfl rfl wd)) rfl rfl rfl (g1 4 (.agg [nI,eL r2]) (rf (eL r2)) fun h5=>z5 (.agg [nI,eL r2]) (zB rfl rfl) (zB h5 rfl) (xo (by first | rfl | simp [V.toks,V.tokss,Enc.toks_enc,zY])) (gz [(2,.ref (.bx 2) 0 [] (.agg [nI,eL r2]))] (zd rfl rfl) ?_))
 rintro s h2
 refine .nsq (.ret ?_)
 obtain rfl:=oi h
 exact rrA (xZ h2 (by kernel_rfl)) (xV (zfI (z7 (wj (o:=(.nil:NL Int)) (t:=.nl)) (z7 (xd (x:=(r2:LI))) xJ))))
end
def e52 (F:Nat):Ent:=ent 52 (fun (x:(GR×Unit))=>Zg F x.1) (fun (r:(LI×LI))=>(Enc.enc (r:(LI×LI)))) 0 true []
abbrev C52 (D:List V→Option V) (F:Nat):Prop:=∀ (x0:GR) r,Zg F x0=some r→D [Enc.enc x0]=some (Enc.enc (r:(LI×LI)))
theorem p52 {F:Nat}:C52 (e52 F).den F:=fun x0 _ h=>zS (x0,()) h
theorem o52 (hF:zG Try.prog D σ) (H:H52 D σ F):(e52 F).Ok Try.prog:=okZ (f:=52) Try.func52 fun ⟨x0,_⟩ y hy=>cR hF Try.func52 c52 (t52 H x0 _ rfl hy)
def zoF:AC:=(.seq (rr [jm 5 1,jv 6 (.fld (.t 2) 0 0),jl 7 6,jv 8 (.bin .sub (.t 7) (jn 1)),jx 9 (.call (jf 50) [.t 5,jn 0,.t 8]),jm 4 9]) .ret)
def A72:AC:=(.seq (.reg [.clr [2]] [jx 2 (.box (.t 0)),jv 4 (.mov kf)] []) zoF)
def zwq:List An:=[⟨0,[.clr [2]],[],[],[]⟩]
theorem c72:cq Try.prog Try.f72 zwq=some A72:=by kernel_rfl
structure H72 (D:Den) (σ:Sig) (F:Nat):Prop where
 c50:C50 (D 50) F
 g50:σ 50=some (0,false)
abbrev R72 (r:Bool):(Nat→V)→Prop:=RR Try.prog [.tmp 4] 0 false (Enc.enc (r:Bool))
section
variable {r:Bool}
def Up (F:Nat) (x1:GR) (x2:Int):Option Bool:=
 (WX F x2 0 (w64 (x1.1 - 1))).bind fun r3=>
 some r3
theorem t72 (H:H72 D σ F) (x1:GR) (x2:Int) (s:Nat→V) (hs:zr [(0,gV x1),(1,ji x2)] s) (h:Up F x1 x2=some r):Run D σ (R72 r) (.run A72 []) s:=by
 unfold Up at h
 obtain ⟨h0,h1⟩:=hs
 refine .seq (zw (zW ?_))
 refine ez [(0,_),(1,_),(2,_)] ⟨za h0 rfl mIE,za h1 rfl mi,ze rfl⟩ ?_
 rintro s ⟨h0,h1,h2⟩
 refine xn (gV x1) (zB h0 rfl) h2 rfl (g0 (jb false) fun h4=>gq (.nsq (.seq (rg (gm h1 fun h5=>g1 2 (.ref (.bx 2) 0 [0] (ji x1.1)) (rf (bG 2 x1)) fun h6=>g1 6 (ji x1.1) h6 fun h7=>g1 7 (ji (w64 (x1.1 - 1))) h7 fun h8=>?_)))))
 obtain ⟨r3,Er3,h⟩:=zc h
 refine gcF [Enc.enc (x2:Int),Enc.enc (0:Int),Enc.enc (w64 (x1.1 - 1):Int)] (zf h5 rfl rfl (zf (v:=ji 0) rfl rfl rfl (zf h8 rfl rfl zC))) (H.c50 _ _ _ _ Er3) H.g50 (gm (rf (jb r3)) fun h4=>gq (.nsq (.ret ?_)))
 obtain rfl:=oi h
 exact rrA (zm h4) rfl
end
def e72 (F:Nat):Ent:=ent 72 (fun (x:(GR×Int×Unit))=>Up F x.1 x.2.1) (fun (r:Bool)=>(Enc.enc (r:Bool))) 0 false []
abbrev C72 (D:List V→Option V) (F:Nat):Prop:=∀ (x0:GR) (x1:Int) r,Up F x0 x1=some r→D [Enc.enc x0,Enc.enc x1]=some (Enc.enc (r:Bool))
theorem p72 {F:Nat}:C72 (e72 F).den F:=fun x0 x1 _ h=>zS (x0,x1,()) h
theorem o72 (hF:zG Try.prog D σ) (H:H72 D σ F):(e72 F).Ok Try.prog:=okZ (f:=72) Try.func72 fun ⟨x0,x1,_⟩ y hy=>cR hF Try.func72 c72 (t72 H x0 x1 _ ⟨rfl,rfl⟩ hy)
def zox:AC:=(.cond (.t 8) (.seq (rr [jv 9 (.load (.ag [.s,.p]) (.t 3)),jm 10 2,jx 11 (.call (jf 72) [.t 9,.t 10]),jm 12 11,jg 13 12 true (.fld (.t 4) 0 0),jg 14 12 true (.load .p (.t 13)),jg 15 12 true (.mov (.t 2)),.mk (some 16) (some (12,true)) false (.call (jf 35) [.t 14,.t 15]),jg 17 12 true (.un .not (.t 16)),jv 18 (.pick (.t 12) (.t 17) kf),jm 6 18]) .ret) .skip)
def zqO:AC:=(.seq (rr [jm 19 2,jv 20 (.fld (.t 3) 0 0),jl 21 20,jv 22 (.un .neg (.t 21)),jv 23 (.bin .geq (.t 19) (.t 22)),jm 24 23,jg 25 24 true (.fld (.t 4) 0 0),jg 26 24 true (.load .p (.t 25)),jg 27 24 true (.mov (.t 2)),jg 28 24 true (.bin .sub (jn (-1)) (.t 27)),.mk (some 29) (some (24,true)) false (.call (jf 35) [.t 26,.t 28]),jv 30 (.pick (.t 24) (.t 29) kf),jm 6 30]) .ret)
def zry:AC:=(.seq (.seq (rr [jm 7 2,jv 8 (.bin .geq (.t 7) (jn 0))]) zox) zqO)
def A53:AC:=(.seq (.reg [.clr [3,4]] [jx 3 (.box (.t 0)),jx 4 (.box (.t 1)),jv 6 (.mov kf)] []) zry)
def zwk:List An:=[⟨0,[.clr [3,4]],[],[],[]⟩]
theorem c53:cq Try.prog Try.f53 zwk=some A53:=by kernel_rfl
structure H53 (D:Den) (σ:Sig) (F:Nat):Prop where
 c72:C72 (D 72) F
 g72:σ 72=some (0,false)
 c35:C35 (D 35) F
 g35:σ 35=some (0,false)
abbrev R53 (r:Bool):(Nat→V)→Prop:=RR Try.prog [.tmp 6] 0 false (Enc.enc (r:Bool))
section
variable {r:Bool}
def WQ (F:Nat) (x1:GR) (x2:(LI×LI)) (x3:Int):Option Bool:=
 bif decide (x3≥0) then
  (Up F x1 x3).bind fun r6=>
  bif r6 then
   (wI F x2.1 x3).bind fun r7=>
   some (!r7)
  else
   some false
 else
  bif decide (x3≥(w64 (0 - x1.1))) then
   (wI F x2.1 (w64 ((-1) - x3))).bind fun r8=>
   some r8
  else
   some false
theorem t53 (H:H53 D σ F) (x1:GR) (x2:(LI×LI)) (x3:Int) (s:Nat→V) (hs:zr [(0,gV x1),(1,.agg [eL x2.1,eL x2.2]),(2,ji x3)] s) (h:WQ F x1 x2 x3=some r):Run D σ (R53 r) (.run A53 []) s:=by
 unfold WQ at h
 obtain ⟨h0,h1,h2⟩:=hs
 refine .seq (zw (zW ?_))
 refine ez [(0,_),(1,_),(2,_),(3,_),(4,_)] ⟨za h0 rfl mIE,za h1 rfl (zM (zg me (zg me zx))),za h2 rfl mi,ze rfl,ze rfl⟩ ?_
 rintro s ⟨h0,h1,h2,h3,h4⟩
 refine xn (gV x1) (zB h0 rfl) h3 rfl (xn (.agg [eL x2.1,eL x2.2]) (zB h1 rfl) h4 rfl (g0 (jb false) fun h6=>gq (.nsq (.seq (.seq (rg (gm h2 fun h7=>g1 7 (jb (decide (x3≥0))) h7 fun h8=>gq (.nsq (zn h8 h (fun h=>?_) (fun h=>?_))))))))))
 · refine .seq (rg (g1 3 (gV x1) (rf (bG 3 x1)) fun h9=>gm h2 fun h10=>?_))
   obtain ⟨r6,Er6,h⟩:=zc h
   refine gcF [Enc.enc (x1:GR),Enc.enc (x3:Int)] (zf h9 rfl (Enc.erase_enc (x1:GR)) (zf h10 rfl rfl zC)) (H.c72 _ _ _ Er6) H.g72 (gm (rf (jb r6)) fun h12=>zX h (fun hg4 h=>?_) (fun hg4 h=>?_))
   · refine zp (ct h12 hg4) (g1 4 (.ref (.bx 4) 0 [0] (eL x2.1)) (rf (.ref (.bx 4) 0 [] (.agg [eL x2.1,eL x2.2]))) fun h13=>zp (ct h12 hg4) (g1 13 (eL x2.1) h13 fun h14=>zp (ct h12 hg4) (gm h2 fun h15=>?_)))
     obtain ⟨r7,Er7,h⟩:=zc h
     refine zp (ct h12 hg4) (gcF [eL x2.1,Enc.enc (x3:Int)] (zf h14 rfl (Enc.erase_enc (x2.1:LI)) (zf h15 rfl rfl zC)) (H.c35 _ _ _ Er7) H.g35 (zp (ct h12 hg4) (g1 16 (jb (!r7)) (rf (jb r7)) fun h17=>g2 12 17 (jb (!r7)) (ct h12 hg4) h17 fun h18=>gm h18 fun h6=>gq (.nsq (.ret ?_)))))
     obtain rfl:=oi h
     exact rrA (zm h6) rfl
   iterate 5 refine yq (ct h12 hg4) ?_
   refine g2 12 17 (jb false) (ct h12 hg4) (rf (.tup [])) fun h18=>gm h18 fun h6=>gq (.nsq (.ret ?_))
   obtain rfl:=oi h
   exact rrA (zm h6) rfl
 refine .skip (.nsq (.seq (rg (gm h2 fun h19=>g1 3 (.ref (.bx 3) 0 [0] (ji x1.1)) (rf (bG 3 x1)) fun h20=>g1 20 (ji x1.1) h20 fun h21=>g1 21 (ji (w64 (0 - x1.1))) h21 fun h22=>g2 19 22 (jb (decide (x3≥(w64 (0 - x1.1))))) h19 h22 fun h23=>gm h23 fun h24=>zX h (fun hg6 h=>?_) (fun hg6 h=>?_)))))
 · refine zp (ct h24 hg6) (g1 4 (.ref (.bx 4) 0 [0] (eL x2.1)) (rf (.ref (.bx 4) 0 [] (.agg [eL x2.1,eL x2.2]))) fun h25=>zp (ct h24 hg6) (g1 25 (eL x2.1) h25 fun h26=>zp (ct h24 hg6) (gm h2 fun h27=>zp (ct h24 hg6) (g1 27 (ji (w64 ((-1) - x3))) h27 fun h28=>?_))))
   obtain ⟨r8,Er8,h⟩:=zc h
   refine zp (ct h24 hg6) (gcF [eL x2.1,Enc.enc (w64 ((-1) - x3):Int)] (zf h26 rfl (Enc.erase_enc (x2.1:LI)) (zf h28 rfl rfl zC)) (H.c35 _ _ _ Er8) H.g35 (g2 24 29 (jb r8) (ct h24 hg6) (rf (jb r8)) fun h30=>gm h30 fun h6=>gq (.nsq (.ret ?_))))
   obtain rfl:=oi h
   exact rrA (zm h6) rfl
 iterate 5 refine yq (ct h24 hg6) ?_
 refine g2 24 29 (jb false) (ct h24 hg6) (rf (.tup [])) fun h30=>gm h30 fun h6=>gq (.nsq (.ret ?_))
 obtain rfl:=oi h
 exact rrA (zm h6) rfl
end
def e53 (F:Nat):Ent:=ent 53 (fun (x:(GR×(LI×LI)×Int×Unit))=>WQ F x.1 x.2.1 x.2.2.1) (fun (r:Bool)=>(Enc.enc (r:Bool))) 0 false []
abbrev C53 (D:List V→Option V) (F:Nat):Prop:=∀ (x0:GR) (x1:(LI×LI)) (x2:Int) r,WQ F x0 x1 x2=some r→D [Enc.enc x0,Enc.enc x1,Enc.enc x2]=some (Enc.enc (r:Bool))
theorem p53 {F:Nat}:C53 (e53 F).den F:=fun x0 x1 x2 _ h=>zS (x0,x1,x2,()) h
theorem o53 (hF:zG Try.prog D σ) (H:H53 D σ F):(e53 F).Ok Try.prog:=okZ (f:=53) Try.func53 fun ⟨x0,x1,x2,_⟩ y hy=>cR hF Try.func53 c53 (t53 H x0 x1 x2 _ ⟨rfl,rfl,rfl⟩ hy)
def zum:AC:=(.cond (.t 11) .skip (.exit 0))
def zpu:AC:=(.cond (.t 19) (.reg [.clr [25,26]] [jm 20 5,jm 21 0,jm 22 6,jv 23 (.idx (.t 21) (.t 22) 1),jl 24 23,jx 25 (.lit i0 1 [(0,0,.t 24)]),jx 26 (.app .s (.t 20) (.t 25)),jm 5 26] [.home 26 5]) .skip)
def zlQ:AC:=(rr [jm 12 6,jv 13 (.bin .add (.t 12) (jn 1)),jm 6 13])
def zsr:AC:=(.seq (.block 1 (.seq (rr [jm 14 0,jm 15 6,jv 16 (.idx (.t 14) (.t 15) 1),jl 17 16,jm 18 1,jv 19 (.bin .neq (.t 17) (.t 18))]) zpu)) zlQ)
def Qb:AC:=(.seq (.seq (rr [jm 8 6,jm 9 0,jk 10 9,jv 11 (.bin .lss (.t 8) (.t 10))]) zum) zsr)
def zeY:AC:=(.seq (.reg [] [jm 27 5,jm 4 27] [.home 5 4]) .ret)
def zsz:AC:=(.block 0 (.loop Qb))
def zro:AC:=(.seq (.seq (rr [jv 6 (.mov (jn 0))]) zsz) zeY)
def zqT:AC:=(.seq (.reg [.clr [7]] [jx 7 (.lit i0 0 []),jm 5 7] [.home 7 5]) zro)
def A73:AC:=(.seq (rr [jv 4 (.mov (.k (.sl .nl .s 0 [])))]) zqT)
def zuU:List An:=[⟨1,[.clr [7]],[],[],[.home 7 5]⟩,⟨6,[.clr [25,26]],[],[],[.home 26 5]⟩,⟨7,[],[],[],[.home 5 4]⟩]
theorem c73:cq Try.prog Try.f73 zuU=some A73:=by kernel_rfl
structure H73 (D:Den) (σ:Sig) (F:Nat):Prop where
 mk ::
abbrev R73 (r:LI):(Nat→V)→Prop:=RR Try.prog [.tmp 4] 0 false (eL r)
section
variable {r:LI}
def ZI (F:Nat) (x1:LI) (x2:Int) (x10:Int) (c1:LI→Int→Option LI) (x20:LI):Option LI:=
 c1 x20 (w64 (x10 + 1))
theorem zb1 (H:H73 D σ F) (x1:LI) (x2:Int) (x10:Int) (c1:LI→Int→Option LI) (Hc1:∀ (x9:LI) (x10:Int) (s:Nat→V),zr [(0,eL x1),(1,ji x2),(4,nI),(5,oI 5 [] (.of x9)),(6,ji x10)] s→c1 x9 x10=some r→Run D σ (R73 r) (.run Qb [.lp Qb,.bk 0,.sq zeY]) s) (x20:LI) (s:Nat→V) (hs:zr [(0,eL x1),(1,ji x2),(4,nI),(5,oI 5 [] (.of x20)),(6,ji x10)] s) (h:ZI F x1 x2 x10 c1 x20=some r):Run D σ (R73 r) (.nrm [.bk 1,.sq zlQ,.lp Qb,.bk 0,.sq zeY]) s:=by
 unfold ZI at h
 obtain ⟨h0,h1,h4,h5,h6⟩:=hs
 refine .nbk (.nsq (rg (gm h6 fun h12=>g1 12 (ji (w64 (x10 + 1))) h12 fun h13=>gm h13 fun h6=>gq (.nlp ?_))))
 exact Hc1 x20 (w64 (x10 + 1)) _ ⟨h0,h1,h4,h5,h6⟩ h
def xO (F:Nat) (x1:LI) (x2:Int) :Nat→LI→Int→Option LI
 | 0,_,_=>none
 | k + 1,x9,x10=>
   bif decide (x10 < (x1.length:Int)) then
    (idx x1 x10).bind fun v17=>
    bif (v17 != x2) then
     (idx x1 x10).bind fun v21=>
     (vz x9 [v21]).bind fun ap22=>
     ZI F x1 x2 x10 (xO F x1 x2 k) ap22
    else
     ZI F x1 x2 x10 (xO F x1 x2 k) x9
   else
    some x9
theorem ziy (H:H73 D σ F) (x1:LI) (x2:Int) :∀ (k:Nat) (x9:LI) (x10:Int) (s:Nat→V),zr [(0,eL x1),(1,ji x2),(4,nI),(5,oI 5 [] (.of x9)),(6,ji x10)] s→xO F x1 x2 k x9 x10=some r→Run D σ (R73 r) (.run Qb [.lp Qb,.bk 0,.sq zeY]) s:=by
 intro k
 induction k with
 | zero=>intro x9 x10 s _ h;exact nm h
 | succ k ih=>
   intro x9 x10 s hs h
   rw [xO] at h
   obtain ⟨h0,h1,h4,h5,h6⟩:=hs
   refine .seq (.seq (rg (gm h6 fun h8=>gm h0 fun h9=>gl x1 h9 fun h10=>g2 8 10 (jb (decide (x10 < (x1.length:Int)))) h8 h10 fun h11=>gq (.nsq (zn h11 h (fun h=>?_) (fun h=>?_))))))
   · refine .skip (.nsq (.seq (.block (.seq (rg (gm h0 fun h14=>gm h6 fun h15=>?_))))))
     obtain ⟨v17,Ev17,h⟩:=zc h
     refine gv (.ref .sh 0 [] (ji v17)) (yg (t:=.sh) (lo:=0) (xs:=x1) h14 h15 Ev17 rfl rfl) fun h16=>g1 16 (ji v17) h16 fun h17=>gm h1 fun h18=>g2 17 18 (jb (v17 != x2)) h17 h18 fun h19=>gq (.nsq (zn h19 h (fun h=>?_) (fun h=>?_)))
     · refine zw (zW ?_)
       refine ez [(0,_),(1,_),(4,_),(5,_),(6,_),(25,_),(26,_)] ⟨za h0 rfl me,za h1 rfl mi,za h4 rfl rfl,za h5 rfl (zl (r:=5) (p:=[]) rfl rfl),za h6 rfl mi,ze rfl,ze rfl⟩ ?_
       rintro s ⟨h0,h1,h4,h5,h6,h25,h26⟩
       refine gm h5 fun h20=>gm h0 fun h21=>gm h6 fun h22=>?_
       obtain ⟨v21,Ev21,h⟩:=zc h
       refine gv (.ref .sh 0 [] (ji v21)) (yg (t:=.sh) (lo:=0) (xs:=x1) h21 h22 Ev21 rfl rfl) fun h23=>g1 23 (ji v21) h23 fun h24=>xb [(24,ji v21)] [Enc.enc (v21:Int)] h24 rfl rfl h25 ?_
       obtain ⟨ap22,Eap22,h⟩:=zc h
       refine Z0 (q:=5) (p:=[]) (o:=.of (x9:LI)) (ys:=([v21]:LI)) (t2:=.at 25 []) (lo2:=0) h20 rfl rfl h26 (vK (o:=.of (x9:LI)) Eap22 trivial) (fun s19 ha19=>gm (rf (oI 26 [] (.of ap22))) fun h5=>yK (yo (r:=26) (x:=5) (v:=_) h5 rfl (fun s20 hz20=>?_)))
       refine ez [(0,eL x1),(1,ji x2),(4,nI),(5,oI 5 [] (.of ap22)),(6,ji x10)] ⟨hz20 0 _ _ (show s19 0=(eL x1) from zy ha19 h0 me) me,hz20 1 _ _ (show s19 1=(ji x2) from zy ha19 h1 mi) mi,hz20 4 _ nI (show s19 4=nI from zy ha19 h4 rfl) rfl,hz20 5 _ _ h5 (zl (r:=26) (p:=[]) rfl rfl),hz20 6 _ _ (show s19 6=(ji x10) from zy ha19 h6 mi) mi⟩ ?_
       rintro s ⟨h0,h1,h4,h5,h6⟩
       exact zb1 H x1 x2 x10 (xO F x1 x2 k) ih ap22 _ ⟨h0,h1,h4,h5,h6⟩ h
     refine .skip ?_
     exact zb1 H x1 x2 x10 (xO F x1 x2 k) ih x9 _ ⟨h0,h1,h4,h5,h6⟩ h
   refine .exit (.esq (.elp (.ebk (.nsq (.seq (rg (gm h5 fun h27=>gm h27 fun h4=>yK (yo (r:=5) (x:=4) (v:=_) h4 rfl (fun s21 hz21=>?_)))))))))
   refine ez [(4,oI 4 [] (.of x9))] (hz21 4 _ _ h4 (zl (r:=5) (p:=[]) rfl rfl)) ?_
   rintro s h4
   refine .nsq (.ret ?_)
   obtain rfl:=oi h
   exact rrA (zm h4) (vC (wj (o:=.of x9)) (vB rfl))
def ZF (F:Nat) (x1:LI) (x2:Int):Option LI:=
 xO F x1 x2 F [] 0
theorem t73 (H:H73 D σ F) (x1:LI) (x2:Int) (s:Nat→V) (hs:zr [(0,eL x1),(1,ji x2)] s) (h:ZF F x1 x2=some r):Run D σ (R73 r) (.run A73 []) s:=by
 unfold ZF at h
 obtain ⟨h0,h1⟩:=hs
 refine .seq (rg (g0 nI fun h4=>gq (.nsq (.seq (zw (zW ?_))))))
 refine ez [(0,_),(1,_),(4,_),(7,_)] ⟨za h0 rfl me,za h1 rfl mi,za h4 rfl rfl,ze rfl⟩ ?_
 rintro s ⟨h0,h1,h4,h7⟩
 refine xb [] [] trivial rfl rfl h7 (gm (rf (oI 7 [] (.of []))) fun h5=>yK (yo (r:=7) (x:=5) (v:=_) h5 rfl (fun s2 hz2=>?_)))
 refine ez [(0,eL x1),(1,ji x2),(4,nI),(5,oI 5 [] (.of []))] ⟨hz2 0 _ _ h0 me,hz2 1 _ _ h1 mi,hz2 4 _ _ h4 rfl,hz2 5 _ _ h5 (zl (r:=7) (p:=[]) rfl rfl)⟩ ?_
 rintro s ⟨h0,h1,h4,h5⟩
 refine .nsq (.seq (.seq (rg (g0 (ji 0) fun h6=>gq (.nsq (.block (.loop ?_)))))))
 exact ziy H x1 x2 F [] 0 _ ⟨h0,h1,h4,h5,h6⟩ h
end
def e73 (F:Nat):Ent:=ent 73 (fun (x:(LI×Int×Unit))=>ZF F x.1 x.2.1) (fun (r:LI)=>(eL r)) 0 false []
abbrev C73 (D:List V→Option V) (F:Nat):Prop:=∀ (x0:LI) (x1:Int) r,ZF F x0 x1=some r→D [Enc.enc x0,Enc.enc x1]=some (eL r)
theorem p73 {F:Nat}:C73 (e73 F).den F:=fun x0 x1 _ h=>zS (x0,x1,()) h
theorem o73 (hF:zG Try.prog D σ) (H:H73 D σ F):(e73 F).Ok Try.prog:=okZ (f:=73) Try.func73 fun ⟨x0,x1,_⟩ y hy=>cR hF Try.func73 c73 (t73 H x0 x1 _ ⟨rfl,rfl⟩ hy)
def zo9:AC:=(.cond (.t 16) .skip (.exit 0))
def zoJ:AC:=(.cond (.t 22) .skip (.exit 2))
def ziD:AC:=(.cond (.t 37) .skip (.exit 4))
def zn4:AC:=(.cond (.t 49) (.reg [.frz 7] [jm 50 7,jm 51 1,jm 52 9,jv 53 (.idx (.t 51) (.t 52) 1),jl 54 53,jx 55 (.call (jf 43) [.t 50,.t 54]),jm 7 55] []) .skip)
def zhf:AC:=(rr [jm 38 10,jv 39 (.bin .add (.t 38) (jn 1)),jm 10 39])
def zjF:AC:=(.seq (.block 5 (.seq (rr [jv 40 (.load (.ag [.s,.p]) (.t 3)),jm 41 7,jm 42 10,jv 43 (.idx (.t 41) (.t 42) 1),jl 44 43,jm 45 1,jm 46 9,jv 47 (.idx (.t 45) (.t 46) 1),jl 48 47,jx 49 (.call (jf 65) [.t 40,.t 44,.t 48])]) zn4)) zhf)
def Kx:AC:=(.seq (.seq (rr [jm 25 10,jm 26 7,jk 27 26,jv 28 (.bin .lss (.t 25) (.t 27)),jm 29 28,jg 30 29 true (.mov (.t 7)),jg 31 29 true (.mov (.t 1)),jg 32 29 true (.mov (.t 9)),jg 33 29 true (.idx (.t 31) (.t 32) 1),jg 34 29 true (.load .s (.t 33)),.mk (some 35) (some (29,true)) false (.call (jf 35) [.t 30,.t 34]),jg 36 29 true (.un .not (.t 35)),jv 37 (.pick (.t 29) (.t 36) kf)]) ziD) zjF)
def zp3:AC:=(.block 4 (.loop Kx))
def Lg:AC:=(rr [jm 23 9,jv 24 (.bin .add (.t 23) (jn 1)),jm 9 24])
def zrQ:AC:=(.seq (.block 3 (.seq (rr [jv 10 (.mov (jn 0))]) zp3)) Lg)
def WM:AC:=(.seq (.seq (rr [jm 19 9,jm 20 1,jk 21 20,jv 22 (.bin .lss (.t 19) (.t 21))]) zoJ) zrQ)
def zsI:AC:=(.block 2 (.loop WM))
def W1:AC:=(rr [jm 17 8,jv 18 (.bin .add (.t 17) (jn 1)),jm 8 18])
def ztp:AC:=(.seq (.block 1 (.seq (rr [jv 9 (.mov (jn 0))]) zsI)) W1)
def Yx:AC:=(.seq (.seq (rr [jm 13 8,jm 14 1,jk 15 14,jv 16 (.bin .lss (.t 13) (.t 15))]) zo9) ztp)
def Yn:AC:=(.seq (rr [jm 56 7,jm 6 56]) .ret)
def zmt:AC:=(.block 0 (.loop Yx))
def zl1:AC:=(.seq (.seq (rr [jv 8 (.mov (jn 0))]) zmt) Yn)
def zl5:AC:=(.seq (.reg [.clr [12]] [jm 11 2,jx 12 (.lit i0 1 [(0,0,.t 11)]),jm 7 12] [.home 12 7,.frz 7]) zl1)
def A85:AC:=(.seq (.reg [.clr [3]] [jx 3 (.box (.t 0)),jv 6 (.mov (.k (.sl .nl .s 0 [])))] []) zl5)
def zvw:List An:=[⟨0,[.clr [3]],[],[],[]⟩,⟨1,[.clr [12]],[],[],[.home 12 7,.frz 7]⟩,⟨12,[.frz 7],[],[],[]⟩]
theorem c85:cq Try.prog Try.f85 zvw=some A85:=by kernel_rfl
structure H85 (D:Den) (σ:Sig) (F:Nat):Prop where
 c35:C35 (D 35) F
 g35:σ 35=some (0,false)
 c65:C65 (D 65) F
 g65:σ 65=some (0,false)
 c43:C43 (D 43) F
 g43:σ 43=some (0,true)
abbrev R85 (r:LI):(Nat→V)→Prop:=RR Try.prog [.tmp 6] 0 true (eL r)
section
variable {r:LI}
def uW (F:Nat) (x2:LI) (x1:GR) (x130:Int) (x298:Int) (x354:Int) (c1:LI→Int→Option LI) (c10:LI→Int→Option LI) (c13:LI→Int→Option LI) (x376:LI):Option LI:=
 c13 x376 (w64 (x354 + 1))
theorem zbS (H:H85 D σ F) (x2:LI) (x1:GR) (x130:Int) (x298:Int) (x354:Int) (c1:LI→Int→Option LI) (Hc1:∀ (x129:LI) (x130:Int) (s:Nat→V),zr [(1,eL x2),(3,bG 3 x1),(6,nI),(7,eL x129),(8,ji x130)] s→c1 x129 x130=some r→Run D σ (R85 r) (.run Yx [.lp Yx,.bk 0,.sq Yn]) s) (c10:LI→Int→Option LI) (Hc10:∀ (x297:LI) (x298:Int) (s:Nat→V),zr [(1,eL x2),(3,bG 3 x1),(6,nI),(7,eL x297),(8,ji x130),(9,ji x298)] s→c10 x297 x298=some r→Run D σ (R85 r) (.run WM [.lp WM,.bk 2,.bk 1,.sq W1,.lp Yx,.bk 0,.sq Yn]) s) (c13:LI→Int→Option LI) (Hc13:∀ (x353:LI) (x354:Int) (s:Nat→V),zr [(1,eL x2),(3,bG 3 x1),(6,nI),(7,eL x353),(8,ji x130),(9,ji x298),(10,ji x354)] s→c13 x353 x354=some r→Run D σ (R85 r) (.run Kx [.lp Kx,.bk 4,.bk 3,.sq Lg,.lp WM,.bk 2,.bk 1,.sq W1,.lp Yx,.bk 0,.sq Yn]) s) (x376:LI) (s:Nat→V) (hs:zr [(1,eL x2),(3,bG 3 x1),(6,nI),(7,eL x376),(8,ji x130),(9,ji x298),(10,ji x354)] s) (h:uW F x2 x1 x130 x298 x354 c1 c10 c13 x376=some r):Run D σ (R85 r) (.nrm [.bk 5,.sq zhf,.lp Kx,.bk 4,.bk 3,.sq Lg,.lp WM,.bk 2,.bk 1,.sq W1,.lp Yx,.bk 0,.sq Yn]) s:=by
 unfold uW at h
 obtain ⟨h1,h3,h6,h7,h8,h9,h10⟩:=hs
 refine .nbk (.nsq (rg (gm h10 fun h38=>g1 38 (ji (w64 (x354 + 1))) h38 fun h39=>gm h39 fun h10=>gq (.nlp ?_))))
 exact Hc13 x376 (w64 (x354 + 1)) _ ⟨h1,h3,h6,h7,h8,h9,h10⟩ h
def uf (F:Nat) (x2:LI) (x1:GR) (x353:LI) (x130:Int) (x298:Int) (x354:Int) (c1:LI→Int→Option LI) (c10:LI→Int→Option LI) (c13:LI→Int→Option LI) (x370:Bool):Option LI:=
 bif x370 then
  (idx x353 x354).bind fun v371=>
  (idx x2 x298).bind fun v372=>
  (Z4 F x1 v371 v372).bind fun r373=>
  bif r373 then
   (idx x2 x298).bind fun v377=>
   (Yf F x353 v377).bind fun r378=>
   uW F x2 x1 x130 x298 x354 c1 c10 c13 r378
  else
   uW F x2 x1 x130 x298 x354 c1 c10 c13 x353
 else
  c10 x353 (w64 (x298 + 1))
theorem zcI (H:H85 D σ F) (x2:LI) (x1:GR) (x353:LI) (x130:Int) (x298:Int) (x354:Int) (c1:LI→Int→Option LI) (Hc1:∀ (x129:LI) (x130:Int) (s:Nat→V),zr [(1,eL x2),(3,bG 3 x1),(6,nI),(7,eL x129),(8,ji x130)] s→c1 x129 x130=some r→Run D σ (R85 r) (.run Yx [.lp Yx,.bk 0,.sq Yn]) s) (c10:LI→Int→Option LI) (Hc10:∀ (x297:LI) (x298:Int) (s:Nat→V),zr [(1,eL x2),(3,bG 3 x1),(6,nI),(7,eL x297),(8,ji x130),(9,ji x298)] s→c10 x297 x298=some r→Run D σ (R85 r) (.run WM [.lp WM,.bk 2,.bk 1,.sq W1,.lp Yx,.bk 0,.sq Yn]) s) (c13:LI→Int→Option LI) (Hc13:∀ (x353:LI) (x354:Int) (s:Nat→V),zr [(1,eL x2),(3,bG 3 x1),(6,nI),(7,eL x353),(8,ji x130),(9,ji x298),(10,ji x354)] s→c13 x353 x354=some r→Run D σ (R85 r) (.run Kx [.lp Kx,.bk 4,.bk 3,.sq Lg,.lp WM,.bk 2,.bk 1,.sq W1,.lp Yx,.bk 0,.sq Yn]) s) (x370:Bool) (s:Nat→V) (hs:zr [(1,eL x2),(3,bG 3 x1),(6,nI),(7,eL x353),(8,ji x130),(9,ji x298),(10,ji x354),(37,jb x370)] s) (h:uf F x2 x1 x353 x130 x298 x354 c1 c10 c13 x370=some r):Run D σ (R85 r) (.nrm [.sq ziD,.sq zjF,.lp Kx,.bk 4,.bk 3,.sq Lg,.lp WM,.bk 2,.bk 1,.sq W1,.lp Yx,.bk 0,.sq Yn]) s:=by
 unfold uf at h
 obtain ⟨h1,h3,h6,h7,h8,h9,h10,h37⟩:=hs
 refine .nsq (zn h37 h (fun h=>?_) (fun h=>?_))
 · refine .skip (.nsq (.seq (.block (.seq (rg (g1 3 (gV x1) h3 fun h40=>gm h7 fun h41=>gm h10 fun h42=>?_))))))
   obtain ⟨v371,Ev371,h⟩:=zc h
   refine gv (.ref .sh 0 [] (ji v371)) (yg (t:=.sh) (lo:=0) (xs:=x353) h41 h42 Ev371 rfl rfl) fun h43=>g1 43 (ji v371) h43 fun h44=>gm h1 fun h45=>gm h9 fun h46=>?_
   obtain ⟨v372,Ev372,h⟩:=zc h
   refine gv (.ref .sh 0 [] (ji v372)) (yg (t:=.sh) (lo:=0) (xs:=x2) h45 h46 Ev372 rfl rfl) fun h47=>g1 47 (ji v372) h47 fun h48=>?_
   obtain ⟨r373,Er373,h⟩:=zc h
   refine gcF [Enc.enc (x1:GR),Enc.enc (v371:Int),Enc.enc (v372:Int)] (zf h40 rfl (Enc.erase_enc (x1:GR)) (zf h44 rfl rfl (zf h48 rfl rfl zC))) (H.c65 _ _ _ _ Er373) H.g65 (gq (.nsq (zn rfl h (fun h=>?_) (fun h=>?_))))
   · refine zw (Yt (x:=7) (v:=eL x353) [] (by exact h7) (Enc.toks_enc (x353:LI)) (fun s58 hz58=>?_))
     refine ez [(1,_),(3,_),(6,_),(7,_),(8,_),(9,_),(10,_)] ⟨hz58 1 _ _ h1 (yQ _),hz58 3 _ _ h3 (yQ _),hz58 6 _ _ h6 (yQ _),hz58 7 _ _ h7 (yQ _),hz58 8 _ _ h8 (yQ _),hz58 9 _ _ h9 (yQ _),hz58 10 _ _ h10 (yQ _)⟩ ?_
     rintro s ⟨h1,h3,h6,h7,h8,h9,h10⟩
     refine gm h7 fun h50=>gm h1 fun h51=>gm h9 fun h52=>?_
     obtain ⟨v377,Ev377,h⟩:=zc h
     refine gv (.ref .sh 0 [] (ji v377)) (yg (t:=.sh) (lo:=0) (xs:=x2) h51 h52 Ev377 rfl rfl) fun h53=>g1 53 (ji v377) h53 fun h54=>?_
     obtain ⟨r378,Er378,h⟩:=zc h
     refine xT (m:=0) (al:=true) (r:=eL r378) [eL x353,Enc.enc (v377:Int)] (zf h50 rfl (Enc.erase_enc (x353:LI)) (zf h54 rfl rfl zC)) (H.c43 _ _ _ Er378) H.g43 (we (yc (v:=eL x353) h50 rfl rfl (yc (v:=ji v377) h54 rfl rfl wd))) rfl rfl rfl (gm (rf (eL r378)) fun h7=>gq ?_)
     exact zbS H x2 x1 x130 x298 x354 c1 Hc1 c10 Hc10 c13 Hc13 r378 _ ⟨h1,h3,h6,h7,h8,h9,h10⟩ h
   refine .skip ?_
   exact zbS H x2 x1 x130 x298 x354 c1 Hc1 c10 Hc10 c13 Hc13 x353 _ ⟨h1,h3,h6,h7,h8,h9,h10⟩ h
 refine .exit (.esq (.elp (.ebk (.nbk (.nsq (rg (gm h9 fun h23=>g1 23 (ji (w64 (x298 + 1))) h23 fun h24=>gm h24 fun h9=>gq (.nlp ?_))))))))
 exact Hc10 x353 (w64 (x298 + 1)) _ ⟨h1,h3,h6,h7,h8,h9⟩ h
def xm (F:Nat) (x2:LI) (x1:GR) (x130:Int) (x298:Int) (c1:LI→Int→Option LI) (c10:LI→Int→Option LI):Nat→LI→Int→Option LI
 | 0,_,_=>none
 | k + 1,x353,x354=>
   bif decide (x354 < (x353.length:Int)) then
    (idx x2 x298).bind fun v379=>
    (wI F x353 v379).bind fun r380=>
    uf F x2 x1 x353 x130 x298 x354 c1 c10 (xm F x2 x1 x130 x298 c1 c10 k) (!r380)
   else
    uf F x2 x1 x353 x130 x298 x354 c1 c10 (xm F x2 x1 x130 x298 c1 c10 k) false
theorem zhR (H:H85 D σ F) (x2:LI) (x1:GR) (x130:Int) (x298:Int) (c1:LI→Int→Option LI) (Hc1:∀ (x129:LI) (x130:Int) (s:Nat→V),zr [(1,eL x2),(3,bG 3 x1),(6,nI),(7,eL x129),(8,ji x130)] s→c1 x129 x130=some r→Run D σ (R85 r) (.run Yx [.lp Yx,.bk 0,.sq Yn]) s) (c10:LI→Int→Option LI) (Hc10:∀ (x297:LI) (x298:Int) (s:Nat→V),zr [(1,eL x2),(3,bG 3 x1),(6,nI),(7,eL x297),(8,ji x130),(9,ji x298)] s→c10 x297 x298=some r→Run D σ (R85 r) (.run WM [.lp WM,.bk 2,.bk 1,.sq W1,.lp Yx,.bk 0,.sq Yn]) s):∀ (k:Nat) (x353:LI) (x354:Int) (s:Nat→V),zr [(1,eL x2),(3,bG 3 x1),(6,nI),(7,eL x353),(8,ji x130),(9,ji x298),(10,ji x354)] s→xm F x2 x1 x130 x298 c1 c10 k x353 x354=some r→Run D σ (R85 r) (.run Kx [.lp Kx,.bk 4,.bk 3,.sq Lg,.lp WM,.bk 2,.bk 1,.sq W1,.lp Yx,.bk 0,.sq Yn]) s:=by
 intro k
 induction k with
 | zero=>intro x353 x354 s _ h;exact nm h
 | succ k ih=>
   intro x353 x354 s hs h
   rw [xm] at h
   obtain ⟨h1,h3,h6,h7,h8,h9,h10⟩:=hs
   refine .seq (.seq (rg (gm h10 fun h25=>gm h7 fun h26=>gl x353 h26 fun h27=>g2 25 27 (jb (decide (x354 < (x353.length:Int)))) h25 h27 fun h28=>gm h28 fun h29=>zX h (fun hg5 h=>?_) (fun hg5 h=>?_))))
   · refine zp (ct h29 hg5) (gm h7 fun h30=>zp (ct h29 hg5) (gm h1 fun h31=>zp (ct h29 hg5) (gm h9 fun h32=>?_)))
     obtain ⟨v379,Ev379,h⟩:=zc h
     refine zp (ct h29 hg5) (gv (.ref .sh 0 [] (ji v379)) (yg (t:=.sh) (lo:=0) (xs:=x2) h31 h32 Ev379 rfl rfl) fun h33=>zp (ct h29 hg5) (g1 33 (ji v379) h33 fun h34=>?_))
     obtain ⟨r380,Er380,h⟩:=zc h
     refine zp (ct h29 hg5) (gcF [eL x353,Enc.enc (v379:Int)] (zf h30 rfl (Enc.erase_enc (x353:LI)) (zf h34 rfl rfl zC)) (H.c35 _ _ _ Er380) H.g35 (zp (ct h29 hg5) (g1 35 (jb (!r380)) (rf (jb r380)) fun h36=>g2 29 36 (jb (!r380)) (ct h29 hg5) h36 fun h37=>gq ?_)))
     exact zcI H x2 x1 x353 x130 x298 x354 c1 Hc1 c10 Hc10 (xm F x2 x1 x130 x298 c1 c10 k) ih (!r380) _ ⟨h1,h3,h6,h7,h8,h9,h10,h37⟩ h
   iterate 7 refine yq (ct h29 hg5) ?_
   refine g2 29 36 (jb false) (ct h29 hg5) (rf (.tup [])) fun h37=>gq ?_
   exact zcI H x2 x1 x353 x130 x298 x354 c1 Hc1 c10 Hc10 (xm F x2 x1 x130 x298 c1 c10 k) ih false _ ⟨h1,h3,h6,h7,h8,h9,h10,h37⟩ h
def wL (F:Nat) (x2:LI) (x1:GR) (x130:Int) (c1:LI→Int→Option LI):Nat→LI→Int→Option LI
 | 0,_,_=>none
 | k + 1,x297,x298=>
   bif decide (x298 < (x2.length:Int)) then
    xm F x2 x1 x130 x298 c1 (wL F x2 x1 x130 c1 k) F x297 0
   else
    c1 x297 (w64 (x130 + 1))
theorem zg4 (H:H85 D σ F) (x2:LI) (x1:GR) (x130:Int) (c1:LI→Int→Option LI) (Hc1:∀ (x129:LI) (x130:Int) (s:Nat→V),zr [(1,eL x2),(3,bG 3 x1),(6,nI),(7,eL x129),(8,ji x130)] s→c1 x129 x130=some r→Run D σ (R85 r) (.run Yx [.lp Yx,.bk 0,.sq Yn]) s):∀ (k:Nat) (x297:LI) (x298:Int) (s:Nat→V),zr [(1,eL x2),(3,bG 3 x1),(6,nI),(7,eL x297),(8,ji x130),(9,ji x298)] s→wL F x2 x1 x130 c1 k x297 x298=some r→Run D σ (R85 r) (.run WM [.lp WM,.bk 2,.bk 1,.sq W1,.lp Yx,.bk 0,.sq Yn]) s:=by
 intro k
 induction k with
 | zero=>intro x297 x298 s _ h;exact nm h
 | succ k ih=>
   intro x297 x298 s hs h
   rw [wL] at h
   obtain ⟨h1,h3,h6,h7,h8,h9⟩:=hs
   refine .seq (.seq (rg (gm h9 fun h19=>gm h1 fun h20=>gl x2 h20 fun h21=>g2 19 21 (jb (decide (x298 < (x2.length:Int)))) h19 h21 fun h22=>gq (.nsq (zn h22 h (fun h=>?_) (fun h=>?_))))))
   · refine .skip (.nsq (.seq (.block (.seq (rg (g0 (ji 0) fun h10=>gq (.nsq (.block (.loop ?_)))))))))
     exact zhR H x2 x1 x130 x298 c1 Hc1 (wL F x2 x1 x130 c1 k) ih F x297 0 _ ⟨h1,h3,h6,h7,h8,h9,h10⟩ h
   refine .exit (.esq (.elp (.ebk (.nbk (.nsq (rg (gm h8 fun h17=>g1 17 (ji (w64 (x130 + 1))) h17 fun h18=>gm h18 fun h8=>gq (.nlp ?_))))))))
   exact Hc1 x297 (w64 (x130 + 1)) _ ⟨h1,h3,h6,h7,h8⟩ h
def vm (F:Nat) (x2:LI) (x1:GR) :Nat→LI→Int→Option LI
 | 0,_,_=>none
 | k + 1,x129,x130=>
   bif decide (x130 < (x2.length:Int)) then
    wL F x2 x1 x130 (vm F x2 x1 k) F x129 0
   else
    some x129
theorem zh4 (H:H85 D σ F) (x2:LI) (x1:GR) :∀ (k:Nat) (x129:LI) (x130:Int) (s:Nat→V),zr [(1,eL x2),(3,bG 3 x1),(6,nI),(7,eL x129),(8,ji x130)] s→vm F x2 x1 k x129 x130=some r→Run D σ (R85 r) (.run Yx [.lp Yx,.bk 0,.sq Yn]) s:=by
 intro k
 induction k with
 | zero=>intro x129 x130 s _ h;exact nm h
 | succ k ih=>
   intro x129 x130 s hs h
   rw [vm] at h
   obtain ⟨h1,h3,h6,h7,h8⟩:=hs
   refine .seq (.seq (rg (gm h8 fun h13=>gm h1 fun h14=>gl x2 h14 fun h15=>g2 13 15 (jb (decide (x130 < (x2.length:Int)))) h13 h15 fun h16=>gq (.nsq (zn h16 h (fun h=>?_) (fun h=>?_))))))
   · refine .skip (.nsq (.seq (.block (.seq (rg (g0 (ji 0) fun h9=>gq (.nsq (.block (.loop ?_)))))))))
     exact zg4 H x2 x1 x130 (vm F x2 x1 k) ih F x129 0 _ ⟨h1,h3,h6,h7,h8,h9⟩ h
   refine .exit (.esq (.elp (.ebk (.nsq (.seq (rg (gm h7 fun h56=>gm h56 fun h6=>gq (.nsq (.ret ?_)))))))))
   obtain rfl:=oi h
   exact rrA (zm h6) (xV (xd (x:=(x129:LI))))
def Xl (F:Nat) (x1:GR) (x2:LI) (x3:Int):Option LI:=
 vm F x2 x1 F [x3] 0
theorem t85 (H:H85 D σ F) (x1:GR) (x2:LI) (x3:Int) (s:Nat→V) (hs:zr [(0,gV x1),(1,eL x2),(2,ji x3)] s) (h:Xl F x1 x2 x3=some r):Run D σ (R85 r) (.run A85 []) s:=by
 unfold Xl at h
 obtain ⟨h0,h1,h2⟩:=hs
 refine .seq (zw (zW ?_))
 refine ez [(0,_),(1,_),(2,_),(3,_)] ⟨za h0 rfl mIE,za h1 rfl me,za h2 rfl mi,ze rfl⟩ ?_
 rintro s ⟨h0,h1,h2,h3⟩
 refine xn (gV x1) (zB h0 rfl) h3 rfl (g0 nI fun h6=>gq (.nsq (.seq (zw (zW ?_)))))
 refine ez [(1,_),(2,_),(3,_),(6,_),(12,_)] ⟨za h1 rfl me,za h2 rfl mi,za rfl rfl (zj rfl mIE),za h6 rfl rfl,ze rfl⟩ ?_
 rintro s ⟨h1,h2,h3,h6,h12⟩
 refine gm h2 fun h11=>xb [(11,ji x3)] [Enc.enc (x3:Int)] h11 rfl rfl h12 (gm (rf (oI 12 [] (.of [x3]))) fun h7=>yK (yo (r:=12) (x:=7) (v:=_) h7 rfl (fun s3 hz3=>Yt (x:=7) (v:=oI 7 [] (.of [x3])) [.at 7 []] (by exact (hz3 7 _ _ h7 (zl (r:=12) (p:=[]) rfl rfl))) z8 (fun s4 hz4=>?_))))
 refine ez [(1,eL x2),(3,bG 3 x1),(6,nI),(7,eL [x3])] ⟨hz4 1 (eL x2) (eL x2) (hz3 1 _ _ h1 me) zE,hz4 3 (bG 3 x1) (bG 3 x1) (hz3 3 _ _ h3 (zj rfl mIE)) (yV rfl zIE rfl),hz4 6 nI nI (hz3 6 _ nI h6 rfl) rfl,hz4 7 (oI 7 [] (.of [x3])) (eL [x3]) (hz3 7 _ _ h7 (zl (r:=12) (p:=[]) rfl rfl)) vJ⟩ ?_
 rintro s ⟨h1,h3,h6,h7⟩
 refine .nsq (.seq (.seq (rg (g0 (ji 0) fun h8=>gq (.nsq (.block (.loop ?_)))))))
 exact zh4 H x2 x1 F [x3] 0 _ ⟨h1,h3,h6,h7,h8⟩ h
end
def e85 (F:Nat):Ent:=ent 85 (fun (x:(GR×LI×Int×Unit))=>Xl F x.1 x.2.1 x.2.2.1) (fun (r:LI)=>(eL r)) 0 true []
abbrev C85 (D:List V→Option V) (F:Nat):Prop:=∀ (x0:GR) (x1:LI) (x2:Int) r,Xl F x0 x1 x2=some r→D [Enc.enc x0,Enc.enc x1,Enc.enc x2]=some (eL r)
theorem p85 {F:Nat}:C85 (e85 F).den F:=fun x0 x1 x2 _ h=>zS (x0,x1,x2,()) h
theorem o85 (hF:zG Try.prog D σ) (H:H85 D σ F):(e85 F).Ok Try.prog:=okZ (f:=85) Try.func85 fun ⟨x0,x1,x2,_⟩ y hy=>cR hF Try.func85 c85 (t85 H x0 x1 x2 _ ⟨rfl,rfl,rfl⟩ hy)
def zq1:AC:=(.cond (.t 18) .skip (.exit 0))
def ztZ:AC:=(.cond (.t 24) (.reg [.clr [27,28]] [jm 25 7,jm 26 9,jx 27 (.lit i0 1 [(0,0,.t 26)]),jx 28 (.app .s (.t 25) (.t 27)),jm 7 28] [.home 28 7]) .skip)
def zlt:AC:=(rr [jm 19 9,jv 20 (.bin .add (.t 19) (jn 1)),jm 9 20])
def zpP:AC:=(.seq (.block 1 (.seq (rr [jm 21 1,jm 22 9,jx 23 (.call (jf 35) [.t 21,.t 22]),jv 24 (.un .not (.t 23))]) ztZ)) zlt)
def Qq:AC:=(.seq (.seq (rr [jm 15 9,jv 16 (.fld (.t 3) 0 0),jl 17 16,jv 18 (.bin .lss (.t 15) (.t 17))]) zq1) zpP)
def zoI:AC:=(.cond (.t 32) .skip (.exit 2))
def zmg:AC:=(.cond (.t 40) (.exit 3) .skip)
def zmR:AC:=(.cond (.t 51) .skip (.exit 4))
def zmy:AC:=(rr [jm 52 12,jv 53 (.bin .add (.t 52) (jn 1)),jm 12 53])
def zl6:AC:=(.seq (.block 5 (.reg [.frz 8] [jm 54 8,jm 55 11,jm 56 12,jv 57 (.idx (.t 55) (.t 56) 1),jl 58 57,jx 59 (.call (jf 43) [.t 54,.t 58]),jm 8 59] [])) zmy)
def zd2:AC:=(.seq (.seq (rr [jm 48 12,jm 49 11,jk 50 49,jv 51 (.bin .lss (.t 48) (.t 50))]) zmR) zl6)
def zoi:AC:=(.block 4 (.loop zd2))
def zm8:AC:=(.seq (rr [jv 12 (.mov (jn 0))]) zoi)
def znp:AC:=(.seq (.reg [.frz 7] [jv 41 (.load (.ag [.s,.p]) (.t 3)),jm 42 7,jm 43 2,jm 44 10,jv 45 (.idx (.t 43) (.t 44) 1),jl 46 45,jx 47 (.call (jf 85) [.t 41,.t 42,.t 46]),jm 11 47] []) zm8)
def ziZ:AC:=(rr [jm 33 10,jv 34 (.bin .add (.t 33) (jn 1)),jm 10 34])
def znM:AC:=(.seq (.block 3 (.seq (.seq (rr [jm 35 1,jm 36 2,jm 37 10,jv 38 (.idx (.t 36) (.t 37) 1),jl 39 38,jx 40 (.call (jf 35) [.t 35,.t 39])]) zmg) znp)) ziZ)
def Qu:AC:=(.seq (.seq (rr [jm 29 10,jm 30 2,jk 31 30,jv 32 (.bin .lss (.t 29) (.t 31))]) zoI) znM)
def ztT:AC:=(.block 2 (.loop Qu))
def QV:AC:=(.seq (rr [jm 60 8,jm 6 60]) .ret)
def zfJ:AC:=(.seq (.seq (.reg [] [jv 10 (.mov (jn 0))] [.frz 7,.frz 8]) ztT) QV)
def zob:AC:=(.block 0 (.loop Qq))
def znK:AC:=(.seq (.seq (rr [jv 9 (.mov (jn 0))]) zob) zfJ)
def znO:AC:=(.seq (.reg [.clr [13,14]] [jx 13 (.lit i0 0 []),jx 14 (.lit i0 0 []),jm 7 13,jm 8 14] [.home 13 7,.home 14 8]) znK)
def A74:AC:=(.seq (.reg [.clr [3]] [jx 3 (.box (.t 0)),jv 6 (.mov (.k (.sl .nl .s 0 [])))] []) znO)
def zvY:List An:=[⟨0,[.clr [3]],[],[],[]⟩,⟨1,[.clr [13,14]],[],[],[.home 13 7,.home 14 8]⟩,⟨6,[.clr [27,28]],[],[],[.home 28 7]⟩,⟨7,[],[],[],[.frz 7,.frz 8]⟩,⟨11,[.frz 7],[],[],[]⟩,⟨15,[.frz 8],[],[],[]⟩]
theorem c74:cq Try.prog Try.f74 zvY=some A74:=by kernel_rfl
structure H74 (D:Den) (σ:Sig) (F:Nat):Prop where
 c35:C35 (D 35) F
 g35:σ 35=some (0,false)
 c85:C85 (D 85) F
 g85:σ 85=some (0,true)
 c43:C43 (D 43) F
 g43:σ 43=some (0,true)
abbrev R74 (r:LI):(Nat→V)→Prop:=RR Try.prog [.tmp 6] 0 true (eL r)
section
variable {r:LI}
def Yc (F:Nat) (x2:LI) (x3:LI) (x1:GR) (x9:Int) (c1:LI→Int→Option LI) (x16:LI):Option LI:=
 c1 x16 (w64 (x9 + 1))
theorem zcB (H:H74 D σ F) (x2:LI) (x3:LI) (x1:GR) (x9:Int) (c1:LI→Int→Option LI) (Hc1:∀ (x8:LI) (x9:Int) (s:Nat→V),zr [(1,eL x2),(2,eL x3),(3,bG 3 x1),(6,nI),(7,oI 7 [] (.of x8)),(8,oI 8 [] (.of [])),(9,ji x9)] s→c1 x8 x9=some r→Run D σ (R74 r) (.run Qq [.lp Qq,.bk 0,.sq zfJ]) s) (x16:LI) (s:Nat→V) (hs:zr [(1,eL x2),(2,eL x3),(3,bG 3 x1),(6,nI),(7,oI 7 [] (.of x16)),(8,oI 8 [] (.of [])),(9,ji x9)] s) (h:Yc F x2 x3 x1 x9 c1 x16=some r):Run D σ (R74 r) (.nrm [.bk 1,.sq zlt,.lp Qq,.bk 0,.sq zfJ]) s:=by
 unfold Yc at h
 obtain ⟨h1,h2,h3,h6,h7,h8,h9⟩:=hs
 refine .nbk (.nsq (rg (gm h9 fun h19=>g1 19 (ji (w64 (x9 + 1))) h19 fun h20=>gm h20 fun h9=>gq (.nlp ?_))))
 exact Hc1 x16 (w64 (x9 + 1)) _ ⟨h1,h2,h3,h6,h7,h8,h9⟩ h
def ux (F:Nat) (x2:LI) (x3:LI) (x1:GR) (x8:LI) (x31:Int) (r47:LI) (c2:LI→Int→Option LI):Nat→LI→Int→Option LI
 | 0,_,_=>none
 | k + 1,x50,x51=>
   bif decide (x51 < (r47.length:Int)) then
    (idx r47 x51).bind fun v54=>
    (Yf F x50 v54).bind fun r55=>
    (ux F x2 x3 x1 x8 x31 r47 c2 k) r55 (w64 (x51 + 1))
   else
    c2 x50 (w64 (x31 + 1))
theorem zhv (H:H74 D σ F) (x2:LI) (x3:LI) (x1:GR) (x8:LI) (x31:Int) (r47:LI) (c2:LI→Int→Option LI) (Hc2:∀ (x30:LI) (x31:Int) (s:Nat→V),zr [(1,eL x2),(2,eL x3),(3,bG 3 x1),(6,nI),(7,eL x8),(8,eL x30),(10,ji x31)] s→c2 x30 x31=some r→Run D σ (R74 r) (.run Qu [.lp Qu,.bk 2,.sq QV]) s):∀ (k:Nat) (x50:LI) (x51:Int) (s:Nat→V),zr [(1,eL x2),(2,eL x3),(3,bG 3 x1),(6,nI),(7,eL x8),(8,eL x50),(10,ji x31),(11,eL r47),(12,ji x51)] s→ux F x2 x3 x1 x8 x31 r47 c2 k x50 x51=some r→Run D σ (R74 r) (.run zd2 [.lp zd2,.bk 4,.bk 3,.sq ziZ,.lp Qu,.bk 2,.sq QV]) s:=by
 intro k
 induction k with
 | zero=>intro x50 x51 s _ h;exact nm h
 | succ k ih=>
   intro x50 x51 s hs h
   rw [ux] at h
   obtain ⟨h1,h2,h3,h6,h7,h8,h10,h11,h12⟩:=hs
   refine .seq (.seq (rg (gm h12 fun h48=>gm h11 fun h49=>gl r47 h49 fun h50=>g2 48 50 (jb (decide (x51 < (r47.length:Int)))) h48 h50 fun h51=>gq (.nsq (zn h51 h (fun h=>?_) (fun h=>?_))))))
   · refine .skip (.nsq (.seq (.block (zw (Yt (x:=8) (v:=eL x50) [] (by exact h8) (Enc.toks_enc (x50:LI)) (fun s36 hz36=>?_))))))
     refine ez [(1,_),(2,_),(3,_),(6,_),(7,_),(8,_),(10,_),(11,_),(12,_)] ⟨hz36 1 _ _ h1 (yQ _),hz36 2 _ _ h2 (yQ _),hz36 3 _ _ h3 (yQ _),hz36 6 _ _ h6 (yQ _),hz36 7 _ _ h7 (yQ _),hz36 8 _ _ h8 (yQ _),hz36 10 _ _ h10 (yQ _),hz36 11 _ _ h11 (yQ _),hz36 12 _ _ h12 (yQ _)⟩ ?_
     rintro s ⟨h1,h2,h3,h6,h7,h8,h10,h11,h12⟩
     refine gm h8 fun h54=>gm h11 fun h55=>gm h12 fun h56=>?_
     obtain ⟨v54,Ev54,h⟩:=zc h
     refine gv (.ref .sh 0 [] (ji v54)) (yg (t:=.sh) (lo:=0) (xs:=r47) h55 h56 Ev54 rfl rfl) fun h57=>g1 57 (ji v54) h57 fun h58=>?_
     obtain ⟨r55,Er55,h⟩:=zc h
     refine xT (m:=0) (al:=true) (r:=eL r55) [eL x50,Enc.enc (v54:Int)] (zf h54 rfl (Enc.erase_enc (x50:LI)) (zf h58 rfl rfl zC)) (H.c43 _ _ _ Er55) H.g43 (we (yc (v:=eL x50) h54 rfl rfl (yc (v:=ji v54) h58 rfl rfl wd))) rfl rfl rfl (gm (rf (eL r55)) fun h8=>gq (.nbk (.nsq (rg (gm h12 fun h52=>g1 52 (ji (w64 (x51 + 1))) h52 fun h53=>gm h53 fun h12=>gz [(1,_),(2,_),(3,_),(6,_),(7,_),(8,_),(10,_),(11,_),(12,_)] ⟨h1,h2,h3,h6,h7,h8,h10,h11,h12⟩ ?_)))))
     rintro s ⟨h1,h2,h3,h6,h7,h8,h10,h11,h12⟩
     refine .nlp ?_
     exact ih r55 (w64 (x51 + 1)) _ ⟨h1,h2,h3,h6,h7,h8,h10,h11,h12⟩ h
   refine .exit (.esq (.elp (.ebk (.nbk (.nsq (rg (gm h10 fun h33=>g1 33 (ji (w64 (x31 + 1))) h33 fun h34=>gm h34 fun h10=>gq (.nlp ?_))))))))
   exact Hc2 x50 (w64 (x31 + 1)) _ ⟨h1,h2,h3,h6,h7,h8,h10⟩ h
def wg (F:Nat) (x2:LI) (x3:LI) (x1:GR) (x8:LI) :Nat→LI→Int→Option LI
 | 0,_,_=>none
 | k + 1,x30,x31=>
   bif decide (x31 < (x3.length:Int)) then
    (idx x3 x31).bind fun v44=>
    (wI F x2 v44).bind fun r45=>
    bif r45 then
     (wg F x2 x3 x1 x8 k) x30 (w64 (x31 + 1))
    else
     (idx x3 x31).bind fun v46=>
     (Xl F x1 x8 v46).bind fun r47=>
     ux F x2 x3 x1 x8 x31 r47 (wg F x2 x3 x1 x8 k) F x30 0
   else
    some x30
theorem zjJ (H:H74 D σ F) (x2:LI) (x3:LI) (x1:GR) (x8:LI) :∀ (k:Nat) (x30:LI) (x31:Int) (s:Nat→V),zr [(1,eL x2),(2,eL x3),(3,bG 3 x1),(6,nI),(7,eL x8),(8,eL x30),(10,ji x31)] s→wg F x2 x3 x1 x8 k x30 x31=some r→Run D σ (R74 r) (.run Qu [.lp Qu,.bk 2,.sq QV]) s:=by
 intro k
 induction k with
 | zero=>intro x30 x31 s _ h;exact nm h
 | succ k ih=>
   intro x30 x31 s hs h
   rw [wg] at h
   obtain ⟨h1,h2,h3,h6,h7,h8,h10⟩:=hs
   refine .seq (.seq (rg (gm h10 fun h29=>gm h2 fun h30=>gl x3 h30 fun h31=>g2 29 31 (jb (decide (x31 < (x3.length:Int)))) h29 h31 fun h32=>gq (.nsq (zn h32 h (fun h=>?_) (fun h=>?_))))))
   · refine .skip (.nsq (.seq (.block (.seq (.seq (rg (gm h1 fun h35=>gm h2 fun h36=>gm h10 fun h37=>?_)))))))
     obtain ⟨v44,Ev44,h⟩:=zc h
     refine gv (.ref .sh 0 [] (ji v44)) (yg (t:=.sh) (lo:=0) (xs:=x3) h36 h37 Ev44 rfl rfl) fun h38=>g1 38 (ji v44) h38 fun h39=>?_
     obtain ⟨r45,Er45,h⟩:=zc h
     refine gcF [eL x2,Enc.enc (v44:Int)] (zf h35 rfl (Enc.erase_enc (x2:LI)) (zf h39 rfl rfl zC)) (H.c35 _ _ _ Er45) H.g35 (gq (.nsq (zn rfl h (fun h=>?_) (fun h=>?_))))
     · refine .exit (.esq (.ebk (.nsq (rg (gm h10 fun h33=>g1 33 (ji (w64 (x31 + 1))) h33 fun h34=>gm h34 fun h10=>gq (.nlp ?_))))))
       exact ih x30 (w64 (x31 + 1)) _ ⟨h1,h2,h3,h6,h7,h8,h10⟩ h
     refine .skip (.nsq (.seq (zw (Yt (x:=7) (v:=eL x8) [] (by exact h7) (Enc.toks_enc (x8:LI)) (fun s33 hz33=>?_)))))
     refine ez [(1,_),(2,_),(3,_),(6,_),(7,_),(8,_),(10,_)] ⟨hz33 1 _ _ h1 (yQ _),hz33 2 _ _ h2 (yQ _),hz33 3 _ _ h3 (yQ _),hz33 6 _ _ h6 (yQ _),hz33 7 _ _ h7 (yQ _),hz33 8 _ _ h8 (yQ _),hz33 10 _ _ h10 (yQ _)⟩ ?_
     rintro s ⟨h1,h2,h3,h6,h7,h8,h10⟩
     refine g1 3 (gV x1) h3 fun h41=>gm h7 fun h42=>gm h2 fun h43=>gm h10 fun h44=>?_
     obtain ⟨v46,Ev46,h⟩:=zc h
     refine gv (.ref .sh 0 [] (ji v46)) (yg (t:=.sh) (lo:=0) (xs:=x3) h43 h44 Ev46 rfl rfl) fun h45=>g1 45 (ji v46) h45 fun h46=>?_
     obtain ⟨r47,Er47,h⟩:=zc h
     refine xT (m:=0) (al:=true) (r:=eL r47) [Enc.enc (x1:GR),eL x8,Enc.enc (v46:Int)] (zf h41 rfl (Enc.erase_enc (x1:GR)) (zf h42 rfl (Enc.erase_enc (x8:LI)) (zf h46 rfl rfl zC))) (H.c85 _ _ _ _ Er47) H.g85 (we (yc (v:=gV x1) h41 rfl rfl (yc (v:=eL x8) h42 rfl rfl (yc (v:=ji v46) h46 rfl rfl wd)))) rfl rfl rfl (gm (rf (eL r47)) fun h11=>gq (.nsq (.seq (rg (g0 (ji 0) fun h12=>gq (.nsq (.block (.loop ?_))))))))
     exact zhv H x2 x3 x1 x8 x31 r47 (wg F x2 x3 x1 x8 k) ih F x30 0 _ ⟨h1,h2,h3,h6,h7,h8,h10,h11,h12⟩ h
   refine .exit (.esq (.elp (.ebk (.nsq (.seq (rg (gm h8 fun h60=>gm h60 fun h6=>gq (.nsq (.ret ?_)))))))))
   obtain rfl:=oi h
   exact rrA (zm h6) (xV (xd (x:=(x30:LI))))
def wh (F:Nat) (x2:LI) (x3:LI) (x1:GR) :Nat→LI→Int→Option LI
 | 0,_,_=>none
 | k + 1,x8,x9=>
   bif decide (x9 < x1.1) then
    (wI F x2 x9).bind fun r14=>
    bif (!r14) then
     (vz x8 [x9]).bind fun ap17=>
     Yc F x2 x3 x1 x9 (wh F x2 x3 x1 k) ap17
    else
     Yc F x2 x3 x1 x9 (wh F x2 x3 x1 k) x8
   else
    wg F x2 x3 x1 x8 F [] 0
theorem zgT (H:H74 D σ F) (x2:LI) (x3:LI) (x1:GR) :∀ (k:Nat) (x8:LI) (x9:Int) (s:Nat→V),zr [(1,eL x2),(2,eL x3),(3,bG 3 x1),(6,nI),(7,oI 7 [] (.of x8)),(8,oI 8 [] (.of [])),(9,ji x9)] s→wh F x2 x3 x1 k x8 x9=some r→Run D σ (R74 r) (.run Qq [.lp Qq,.bk 0,.sq zfJ]) s:=by
 intro k
 induction k with
 | zero=>intro x8 x9 s _ h;exact nm h
 | succ k ih=>
   intro x8 x9 s hs h
   rw [wh] at h
   obtain ⟨h1,h2,h3,h6,h7,h8,h9⟩:=hs
   refine .seq (.seq (rg (gm h9 fun h15=>g1 3 (.ref (.bx 3) 0 [0] (ji x1.1)) h3 fun h16=>g1 16 (ji x1.1) h16 fun h17=>g2 15 17 (jb (decide (x9 < x1.1))) h15 h17 fun h18=>gq (.nsq (zn h18 h (fun h=>?_) (fun h=>?_))))))
   · refine .skip (.nsq (.seq (.block (.seq (rg (gm h1 fun h21=>gm h9 fun h22=>?_))))))
     obtain ⟨r14,Er14,h⟩:=zc h
     refine gcF [eL x2,Enc.enc (x9:Int)] (zf h21 rfl (Enc.erase_enc (x2:LI)) (zf h22 rfl rfl zC)) (H.c35 _ _ _ Er14) H.g35 (g1 23 (jb (!r14)) (rf (jb r14)) fun h24=>gq (.nsq (zn h24 h (fun h=>?_) (fun h=>?_))))
     · refine zw (zW ?_)
       refine ez [(1,_),(2,_),(3,_),(6,_),(7,_),(8,_),(9,_),(27,_),(28,_)] ⟨za h1 rfl me,za h2 rfl me,za h3 rfl (zj rfl mIE),za h6 rfl rfl,za h7 rfl (zl (r:=7) (p:=[]) rfl rfl),za h8 rfl (zl (r:=8) (p:=[]) rfl rfl),za h9 rfl mi,ze rfl,ze rfl⟩ ?_
       rintro s ⟨h1,h2,h3,h6,h7,h8,h9,h27,h28⟩
       refine gm h7 fun h25=>gm h9 fun h26=>xb [(26,ji x9)] [Enc.enc (x9:Int)] h26 rfl rfl h27 ?_
       obtain ⟨ap17,Eap17,h⟩:=zc h
       refine Z0 (q:=7) (p:=[]) (o:=.of (x8:LI)) (ys:=([x9]:LI)) (t2:=.at 27 []) (lo2:=0) h25 rfl rfl h28 (vK (o:=.of (x8:LI)) Eap17 trivial) (fun s21 ha21=>gm (rf (oI 28 [] (.of ap17))) fun h7=>yK (yo (r:=28) (x:=7) (v:=_) h7 rfl (fun s22 hz22=>?_)))
       refine ez [(1,eL x2),(2,eL x3),(3,bG 3 x1),(6,nI),(7,oI 7 [] (.of ap17)),(8,oI 8 [] (.of [])),(9,ji x9)] ⟨hz22 1 _ _ (show s21 1=(eL x2) from zy ha21 h1 me) me,hz22 2 _ _ (show s21 2=(eL x3) from zy ha21 h2 me) me,hz22 3 _ _ (show s21 3=(bG 3 x1) from zy ha21 h3 (zj rfl mIE)) (zj rfl mIE),hz22 6 _ nI (show s21 6=nI from zy ha21 h6 rfl) rfl,hz22 7 _ _ h7 (zl (r:=28) (p:=[]) rfl rfl),hz22 8 _ _ (show s21 8=(oI 8 [] (.of [])) from zy ha21 h8 (zl (r:=8) (p:=[]) rfl rfl)) (zl (r:=8) (p:=[]) rfl rfl),hz22 9 _ _ (show s21 9=(ji x9) from zy ha21 h9 mi) mi⟩ ?_
       rintro s ⟨h1,h2,h3,h6,h7,h8,h9⟩
       exact zcB H x2 x3 x1 x9 (wh F x2 x3 x1 k) ih ap17 _ ⟨h1,h2,h3,h6,h7,h8,h9⟩ h
     refine .skip ?_
     exact zcB H x2 x3 x1 x9 (wh F x2 x3 x1 k) ih x8 _ ⟨h1,h2,h3,h6,h7,h8,h9⟩ h
   refine .exit (.esq (.elp (.ebk (.nsq (.seq (.seq (rg (g0 (ji 0) fun h10=>yK (Yt (x:=7) (v:=oI 7 [] (.of x8)) [.at 7 []] (by exact h7) z8 (fun s23 hz23=>Yt (x:=8) (v:=oI 8 [] (.of [])) [.at 8 []] (by exact (hz23 8 _ _ h8 (J1 rfl rfl))) z8 (fun s24 hz24=>?_)))))))))))
   refine ez [(1,eL x2),(2,eL x3),(3,bG 3 x1),(6,nI),(7,eL x8),(8,eL []),(10,ji 0)] ⟨hz24 1 (eL x2) (eL x2) (hz23 1 (eL x2) (eL x2) h1 zE) zE,hz24 2 (eL x3) (eL x3) (hz23 2 (eL x3) (eL x3) h2 zE) zE,hz24 3 (bG 3 x1) (bG 3 x1) (hz23 3 (bG 3 x1) (bG 3 x1) h3 (yV rfl zIE rfl)) (yV rfl zIE rfl),hz24 6 nI nI (hz23 6 nI nI h6 rfl) rfl,hz24 7 (eL x8) (eL x8) (hz23 7 (oI 7 [] (.of x8)) (eL x8) h7 vJ) zE,hz24 8 (oI 8 [] (.of [])) (eL []) (hz23 8 (oI 8 [] (.of [])) (oI 8 [] (.of [])) h8 (J1 rfl rfl)) vJ,hz24 10 (ji 0) (ji 0) (hz23 10 (ji 0) (ji 0) h10 rfl) rfl⟩ ?_
   rintro s ⟨h1,h2,h3,h6,h7,h8,h10⟩
   refine .nsq (.block (.loop ?_))
   exact zjJ H x2 x3 x1 x8 F [] 0 _ ⟨h1,h2,h3,h6,h7,h8,h10⟩ h
def Ym (F:Nat) (x1:GR) (x2:LI) (x3:LI):Option LI:=
 wh F x2 x3 x1 F [] 0
theorem t74 (H:H74 D σ F) (x1:GR) (x2:LI) (x3:LI) (s:Nat→V) (hs:zr [(0,gV x1),(1,eL x2),(2,eL x3)] s) (h:Ym F x1 x2 x3=some r):Run D σ (R74 r) (.run A74 []) s:=by
 unfold Ym at h
 obtain ⟨h0,h1,h2⟩:=hs
 refine .seq (zw (zW ?_))
 refine ez [(0,_),(1,_),(2,_),(3,_)] ⟨za h0 rfl mIE,za h1 rfl me,za h2 rfl me,ze rfl⟩ ?_
 rintro s ⟨h0,h1,h2,h3⟩
 refine xn (gV x1) (zB h0 rfl) h3 rfl (g0 nI fun h6=>gq (.nsq (.seq (zw (zW ?_)))))
 refine ez [(1,_),(2,_),(3,_),(6,_),(13,_),(14,_)] ⟨za h1 rfl me,za h2 rfl me,za rfl rfl (zj rfl mIE),za h6 rfl rfl,ze rfl,ze rfl⟩ ?_
 rintro s ⟨h1,h2,h3,h6,h13,h14⟩
 refine xb [] [] trivial rfl rfl h13 (xb [] [] trivial rfl rfl h14 (gm (rf (oI 13 [] (.of []))) fun h7=>gm (rf (oI 14 [] (.of []))) fun h8=>yK (yo (r:=13) (x:=7) (v:=_) h7 rfl (fun s3 hz3=>yo (r:=14) (x:=8) (v:=_) (by exact (hz3 8 _ _ h8 (zl (r:=14) (p:=[]) rfl rfl))) rfl (fun s4 hz4=>?_)))))
 refine ez [(1,eL x2),(2,eL x3),(3,bG 3 x1),(6,nI),(7,oI 7 [] (.of [])),(8,oI 8 [] (.of []))] ⟨hz4 1 _ _ (hz3 1 _ _ h1 me) me,hz4 2 _ _ (hz3 2 _ _ h2 me) me,hz4 3 _ _ (hz3 3 _ _ h3 (zj rfl mIE)) (zj rfl mIE),hz4 6 _ nI (hz3 6 _ nI h6 rfl) rfl,hz4 7 _ _ (hz3 7 _ _ h7 (zl (r:=13) (p:=[]) rfl rfl)) (zl (r:=7) (p:=[]) rfl rfl),hz4 8 _ _ (hz3 8 _ _ h8 (zl (r:=14) (p:=[]) rfl rfl)) (zl (r:=14) (p:=[]) rfl rfl)⟩ ?_
 rintro s ⟨h1,h2,h3,h6,h7,h8⟩
 refine .nsq (.seq (.seq (rg (g0 (ji 0) fun h9=>gq (.nsq (.block (.loop ?_)))))))
 exact zgT H x2 x3 x1 F [] 0 _ ⟨h1,h2,h3,h6,h7,h8,h9⟩ h
end
def e74 (F:Nat):Ent:=ent 74 (fun (x:(GR×LI×LI×Unit))=>Ym F x.1 x.2.1 x.2.2.1) (fun (r:LI)=>(eL r)) 0 true []
abbrev C74 (D:List V→Option V) (F:Nat):Prop:=∀ (x0:GR) (x1:LI) (x2:LI) r,Ym F x0 x1 x2=some r→D [Enc.enc x0,Enc.enc x1,Enc.enc x2]=some (eL r)
theorem p74 {F:Nat}:C74 (e74 F).den F:=fun x0 x1 x2 _ h=>zS (x0,x1,x2,()) h
theorem o74 (hF:zG Try.prog D σ) (H:H74 D σ F):(e74 F).Ok Try.prog:=okZ (f:=74) Try.func74 fun ⟨x0,x1,x2,_⟩ y hy=>cR hF Try.func74 c74 (t74 H x0 x1 x2 _ ⟨rfl,rfl,rfl⟩ hy)
end Go.Zq
