/- Functions of the program as typed functions, and that the machine runs as they say (part 2). No further condition. -/
import Derived.Test.YtelahampjnaimabK4
import Derived.Test.YtelahampjnaimabKC
import Derived.Test.YtelahampjnaimabProg
import Derived.Test.YtelahampjnaimabChecked
import Derived.KernelRfl
import Derived.Test.YtelahampjnaimabG1
set_option linter.unusedVariables false
set_option linter.unusedSimpArgs false
namespace Go.Zq
open Go.Proofs Go.Shelf
variable {D:Den} {σ:Sig} {F:Nat}
def zq2:AC:=(.seq (rr [jm 3 0,jx 4 (.callT (jf 44) [.t 3,jn 6] [0] []),jz (.store (.ag [.s,.p]) (.t 2) (.t 4))]) .ret)
def A19:AC:=(.seq (.reg [.clr [2]] [jx 2 (.alloc (.agg [i0,.sl .nl (.ag [.s,.s]) 0 []]))] []) zq2)
def zum:List An:=[⟨0,[.clr [2]],[],[],[]⟩,⟨1,[],[],[2000000],[]⟩]
theorem c19:cq Try.prog Try.f19 zum=some A19:=by kernel_rfl
structure H19 (D:Den) (σ:Sig) (F:Nat):Prop where
 c44:C44 (D 44) F
 g44:σ 44=some (uZ,false)
abbrev R19 (r:(GR×CU)):(Nat→V)→Prop:=RT Try.prog [.cell 2 26] (Enc.enc (r.1:GR)) [cuV zN r.2]
section
variable {r:(GR×CU)}
def vu (F:Nat) (x1:CC):Option (GR×CU):=
 (wF F (Cu.mk x1.v) 6).bind fun r2=>
 some (r2.1,r2.2)
theorem t19 (H:H19 D σ F) (x1:CC) (s:Nat→V) (hs:zu [(0,bC x1.v)] s) (h:vu F x1=some r):Run D σ (R19 r) (.run A19 []) s:=by
 unfold vu at h
 have h0:=hs
 refine .seq (zA (zZ ?_))
 refine ez [(0,_),(2,_)] ⟨za h0 rfl (zi rfl u7),ze rfl⟩ ?_
 rintro s ⟨h0,h2⟩
 refine yR h2 (gq (.nsq (.seq (rg (gm h0 fun h3=>?_)))))
 obtain ⟨r2,Er2,h⟩:=zc h
 refine uz (r:=zN) (b:=0) (x:=x1.v) (x':=r2.2) (vs:=[Enc.enc (6:Int)]) (res:=Enc.enc (r2.1:GR)) h0 (by exact (zQ (v:=cuV zN x1.v) h3 rfl (zQ (v:=Enc.enc (6:Int)) rfl rfl y5))) (yr te yK) fm1 (H.c44 _ _ _ Er2) H.g44 te rfl (fun s2 hb2 ha2=>z5 (gV r2.1) (zx (show s2 2=(bZ 2) from ha2 2 (bZ 2) _ rfl rfl (zi rfl (mIx rfl))) rfl) (zx rfl rfl) (xE (by first | rfl | simp [V.toks,V.tokss,Enc.toks_enc,zX])) ?_)
 refine gz [(0,bC r2.2),(2,bG 2 r2.1)] ⟨zd (show s2 0=(bC r2.2) from hb2 0 h0) (zy rfl rfl UU),zd (show s2 2=(bZ 2) from ha2 2 (bZ 2) _ rfl rfl (zi rfl (mIx rfl))) rfl⟩ ?_
 rintro s ⟨h0,h2⟩
 refine .nsq (.ret ?_)
 obtain rfl:=oi h
 exact rt1 (t:=0) (xO h2 (by kernel_rfl)) h0
end
def e19 (F:Nat):Ent:=ent 19 (fun (x:(CC×Unit))=>vu F x.1) (fun (r:(GR×CU))=>(.tup [Enc.enc (r.1:GR),.tup [cuV zN r.2]])) uZ false []
abbrev C19 (D:List V→Option V) (F:Nat):Prop:=∀ (x0:CC) r,vu F x0=some r→D [Arg.arg x0]=some (.tup [Enc.enc (r.1:GR),.tup [cuV zN r.2]])
theorem p19 {F:Nat}:C19 (e19 F).den F:=fun x0 _ h=>zS (x0,()) h
theorem o19 (hF:zF Try.prog D σ) (H:H19 D σ F):(e19 F).Ok Try.prog:=okZ (f:=19) Try.func19 fun ⟨x0,_⟩ y hy=>cT hF Try.func19 c19 (t19 H x0 _ rfl hy)
def zol:AC:=(.cond (.t 13) .skip (.exit 0))
def zr7:AC:=(.reg [.clr [21,25,27,28,32]] [jy 21 (.lit i0 0 []),jm 22 5,jm 23 7,jv 24 (.slice (.t 22) none (some (.t 23)) 1),jy 25 (.appS .s (.t 21) (.t 24)),jm 26 6,jx 27 (.lit i0 1 [(0,0,.t 26)]),jy 28 (.appS .s (.t 25) (.t 27)),jm 29 5,jm 30 7,jv 31 (.slice (.t 29) (some (.t 30)) none 1),jx 32 (.appS .s (.t 28) (.t 31)),jm 5 32] [.home 32 5])
def zrw:AC:=(rr [jm 14 6,jv 15 (.bin .add (.t 14) (jn 1)),jm 6 15])
def zpK:AC:=(.seq (.block 1 (.seq (rr [jm 16 0,jm 17 5,jk 18 17,jv 19 (.bin .add (.t 18) (jn 1)),jx 20 (.callT (jf 46) [.t 16,.t 19] [0] []),jm 7 20]) zr7)) zrw)
def zgE:AC:=(.seq (.seq (rr [jm 9 6,jv 10 (.fld (.t 3) 0 0),jl 11 10,jx 12 (.call (jf 45) [.t 11,jn 8]),jv 13 (.bin .lss (.t 9) (.t 12))]) zol) zpK)
def zoZ:AC:=(.cond (.t 34) (.reg [.clr [37,39,40]] [jm 35 5,jm 36 0,jx 37 (.litS i0 3 [(0,0,jn 0),(1,1,jn (-1)),(2,2,jn 8)]),jx 38 (.callT (jf 47) [.t 36,.t 37] [0] []),jx 39 (.lit i0 1 [(0,0,.t 38)]),jx 40 (.app .s (.t 35) (.t 39)),jm 5 40] [.home 40 5]) .skip)
def zq6:AC:=(.seq (.reg [] [jm 41 5,jm 4 41] [.home 5 4,.frz 4]) .ret)
def zlz:AC:=(.seq (.seq (rr [jm 33 0,jx 34 (.callT (jf 31) [.t 33,jn 24] [0] [])]) zoZ) zq6)
def zmA:AC:=(.block 0 (.loop zgE))
def zmT:AC:=(.seq (.seq (rr [jv 6 (.mov (jn 0))]) zmA) zlz)
def zoY:AC:=(.seq (.reg [.clr [8]] [jx 8 (.lit i0 0 []),jm 5 8] [.home 8 5]) zmT)
def A20:AC:=(.seq (.reg [.clr [3]] [jx 3 (.box (.t 1)),jv 4 (.mov (.k (.sl .nl .s 0 [])))] []) zoY)
def zus:List An:=[⟨0,[.clr [3]],[],[],[]⟩,⟨1,[.clr [8]],[],[],[.home 8 5]⟩,⟨5,[],[],[5000000],[]⟩,⟨6,[.clr [21,25,27,28,32]],[0,4,7],[4,7,11],[.home 32 5]⟩,⟨7,[],[],[2000000],[]⟩,⟨8,[.clr [37,39,40]],[],[4000000,6002],[.home 40 5]⟩,⟨9,[],[],[],[.home 5 4,.frz 4]⟩]
theorem c20:cq Try.prog Try.f20 zus=some A20:=by kernel_rfl
structure H20 (D:Den) (σ:Sig) (F:Nat):Prop where
 c45:C45 (D 45) F
 g45:σ 45=some (0,false)
 c46:C46 (D 46) F
 g46:σ 46=some (uZ,false)
 c31:C31 (D 31) F
 g31:σ 31=some (uZ,false)
 c47:C47 (D 47) F
 g47:σ 47=some (uZ,false)
abbrev R20 (r:(LI×CU)):(Nat→V)→Prop:=RT Try.prog [.tmp 4] (eL r.1) [cuV zN r.2]
section
variable {r:(LI×CU)}
def wd (F:Nat) (x2:GR) :Nat→LB→Int→Int→LI→Int→Option (LI×CU)
 | 0,_,_,_,_,_=>none
 | k + 1,x10,x11,x12,x13,x14=>
   (ZJ F x2.1 8).bind fun r22=>
   bif decide (x14 < r22) then
    (yO F (cu x10 x11 x12) (w64 ((x13.length:Int) + 1))).bind fun r23=>
    (sub x13 0 r23.1).bind fun sub24=>
    (vL [] sub24).bind fun ap25=>
    (vL ap25 [x14]).bind fun ap26=>
    (sub x13 r23.1 (x13.length:Int)).bind fun sub27=>
    (vL ap26 sub27).bind fun ap28=>
    (wd F x2 k) r23.2.a r23.2.b r23.2.c.v ap28 (w64 (x14 + 1))
   else
    (wq F (cu x10 x11 x12) 24).bind fun r29=>
    bif r29.1 then
     (xB F (Cu.mk r29.2) [0,(-1),8]).bind fun r30=>
     (vL x13 [r30.1]).bind fun ap31=>
     some (ap31,r30.2)
    else
     some (x13,r29.2)
theorem zhJ (H:H20 D σ F) (x2:GR) :∀ (k:Nat) (x10:LB) (x11:Int) (x12:Int) (x13:LI) (x14:Int) (s:Nat→V),zu [(0,.ref (.bx zN) 0 [] (.agg [eB x10,ji x11,.int .u64 x12])),(3,bG 3 x2),(4,nI),(5,oI 5 [] (.of x13)),(6,ji x14)] s→wd F x2 k x10 x11 x12 x13 x14=some r→Run D σ (R20 r) (.run zgE [.lp zgE,.bk 0,.sq zlz]) s:=by
 intro k
 induction k with
 | zero=>intro x10 x11 x12 x13 x14 s _ h;exact nm h
 | succ k ih=>
   intro x10 x11 x12 x13 x14 s hs h
   rw [wd] at h
   obtain ⟨h0,h3,h4,h5,h6⟩:=hs
   refine .seq (.seq (rg (gm h6 fun h9=>g1 3 (.ref (.bx 3) 0 [0] (ji x2.1)) h3 fun h10=>g1 10 (ji x2.1) h10 fun h11=>?_)))
   obtain ⟨r22,Er22,h⟩:=zc h
   refine gcF [Enc.enc (x2.1:Int),Enc.enc (8:Int)] (zh h11 rfl rfl (zh (v:=ji 8) rfl rfl rfl zI)) (H.c45 _ _ _ Er22) H.g45 (g2 9 12 (jb (decide (x14 < r22))) h9 (rf (ji r22)) fun h13=>gq (.nsq (zp h13 h (fun h=>?_) (fun h=>?_))))
   · refine .skip (.nsq (.seq (.block (.seq (rg (gm h0 fun h16=>gm h5 fun h17=>gv (ji (x13.length:Int)) (XZ (o:=.of x13) h17) fun h18=>g1 18 (ji (w64 ((x13.length:Int) + 1))) h18 fun h19=>?_))))))
     obtain ⟨r23,Er23,h⟩:=zc h
     refine uz (r:=zN) (b:=0) (x:=((S3.mk x10 x11 (Kd.mk x12:Kd .u64)):CU)) (x':=r23.2) (vs:=[Enc.enc (w64 ((x13.length:Int) + 1):Int)]) (res:=Enc.enc (r23.1:Int)) h0 (by exact (zQ (v:=cuV zN ((S3.mk x10 x11 (Kd.mk x12:Kd .u64)):CU)) h16 rfl (zQ (v:=Enc.enc (w64 ((x13.length:Int) + 1):Int)) h19 rfl y5))) (yr te yK) fm1 (H.c46 _ _ _ Er23) H.g46 te rfl (fun s10 hb10 ha10=>gm (rf (ji r23.1)) fun h7=>?_)
     refine gz [(0,_),(3,bG 3 x2),(4,nI),(5,oI 5 [] (.of x13)),(6,ji x14),(7,_)] ⟨(show s10 0=(bC r23.2) from hb10 0 h0),(show s10 3=(bG 3 x2) from ha10 3 _ _ h3 rfl (zi rfl mIE)),(show s10 4=nI from ha10 4 _ _ h4 rfl rfl),(show s10 5=(oI 5 [] (.of x13)) from ha10 5 _ _ h5 rfl (zo (r:=5) (p:=[]) rfl rfl)),(show s10 6=(ji x14) from ha10 6 _ _ h6 rfl mi),h7⟩ ?_
     rintro s ⟨h0,h3,h4,h5,h6,h7⟩
     refine .nsq (zA (zZ ?_))
     refine ez [(0,_),(3,_),(4,_),(5,_),(6,_),(7,_),(21,_),(25,_),(27,_),(28,_),(32,_)] ⟨za h0 rfl (zi rfl u7),za h3 rfl (zi rfl mIE),za h4 rfl rfl,za h5 rfl (zo (r:=5) (p:=[]) rfl rfl),za h6 rfl mi,za h7 rfl mi,ze rfl,ze rfl,ze rfl,ze rfl,ze rfl⟩ ?_
     rintro s ⟨h0,h3,h4,h5,h6,h7,h21,h25,h27,h28,h32⟩
     refine zav [] [] trivial rfl rfl h21 (gm h5 fun h22=>gm h7 fun h23=>?_)
     obtain ⟨sub24,Esub24,h⟩:=zc h
     refine gv (.sl (.at 5 []) (Enc.shp Int) (Int.toNat 0) ((sub24:LI).map Enc.enc)) (JQ (xs:=x13) h22 (ZD) (ZC h23) Esub24 rfl) fun h24=>?_
     obtain ⟨ap25,Eap25,h⟩:=zc h
     refine Uz (p:=[]) (xs:=[]) (ys:=(sub24:LI)) (t2:=.at 5 []) (lo2:=Int.toNat 0) rfl h24 rfl h25 rfl Eap25 (gm h6 fun h26=>wA [(26,ji x14)] [Enc.enc (x14:Int)] h26 rfl rfl h27 ?_)
     obtain ⟨ap26,Eap26,h⟩:=zc h
     refine Uz (p:=[]) (xs:=ap25) (ys:=([x14]:LI)) (t2:=.at 27 []) (lo2:=0) rfl rfl rfl h28 rfl Eap26 (gm h5 fun h29=>gm h7 fun h30=>?_)
     obtain ⟨sub27,Esub27,h⟩:=zc h
     refine gv (.sl (.at 5 []) (Enc.shp Int) (Int.toNat r23.1) ((sub27:LI).map Enc.enc)) (JQ (xs:=x13) h29 (ZC h30) (ZD) Esub27 rfl) fun h31=>?_
     obtain ⟨ap28,Eap28,h⟩:=zc h
     refine Uz (p:=[]) (xs:=ap26) (ys:=(sub27:LI)) (t2:=.at 5 []) (lo2:=Int.toNat r23.1) rfl h31 rfl h32 rfl Eap28 (gm (rf (oI 32 [] (.of ap28))) fun h5=>xo (y0 (r:=32) (x:=5) (v:=_) h5 rfl (fun s12 hz12=>?_)))
     refine ez [(0,bC r23.2),(3,bG 3 x2),(4,nI),(5,oI 5 [] (.of ap28)),(6,ji x14)] ⟨hz12 0 _ _ h0 (zi rfl u7),hz12 3 _ _ h3 (zi rfl mIE),hz12 4 _ _ h4 rfl,hz12 5 _ _ h5 (zo (r:=32) (p:=[]) rfl rfl),hz12 6 _ _ h6 mi⟩ ?_
     rintro s ⟨h0,h3,h4,h5,h6⟩
     refine .nbk (.nsq (rg (gm h6 fun h14=>g1 14 (ji (w64 (x14 + 1))) h14 fun h15=>gm h15 fun h6=>gq (.nlp ?_))))
     exact ih r23.2.a r23.2.b r23.2.c.v ap28 (w64 (x14 + 1)) _ ⟨h0,h3,h4,h5,h6⟩ h
   refine .exit (.esq (.elp (.ebk (.nsq (.seq (.seq (rg (gm h0 fun h33=>?_))))))))
   obtain ⟨r29,Er29,h⟩:=zc h
   refine uz (r:=zN) (b:=0) (x:=((S3.mk x10 x11 (Kd.mk x12:Kd .u64)):CU)) (x':=r29.2) (vs:=[Enc.enc (24:Int)]) (res:=Enc.enc (r29.1:Bool)) h0 (by exact (zQ (v:=cuV zN ((S3.mk x10 x11 (Kd.mk x12:Kd .u64)):CU)) h33 rfl (zQ (v:=Enc.enc (24:Int)) rfl rfl y5))) (yr te yK) fm1 (H.c31 _ _ _ Er29) H.g31 te rfl (fun s13 hb13 ha13=>gz [(0,_),(4,nI),(5,oI 5 [] (.of x13)),(34,jb r29.1)] ⟨(show s13 0=(bC r29.2) from hb13 0 h0),(show s13 4=nI from ha13 4 _ _ h4 rfl rfl),(show s13 5=(oI 5 [] (.of x13)) from ha13 5 _ _ h5 rfl (zo (r:=5) (p:=[]) rfl rfl)),rfl⟩ ?_)
   rintro s ⟨h0,h4,h5,h34⟩
   refine .nsq (zp h34 h (fun h=>?_) (fun h=>?_))
   · refine zA (zZ ?_)
     refine ez [(0,_),(4,_),(5,_),(37,_),(39,_),(40,_)] ⟨za h0 rfl (zi rfl u7),za h4 rfl rfl,za h5 rfl (zo (r:=5) (p:=[]) rfl rfl),ze rfl,ze rfl,ze rfl⟩ ?_
     rintro s ⟨h0,h4,h5,h37,h39,h40⟩
     refine gm h5 fun h35=>gm h0 fun h36=>zaQ [] ([0,(-1),8]:LI) trivial rfl rfl rfl h37 (fun s15 hd_15 hl_15=>?_)
     obtain ⟨r30,Er30,h⟩:=zc h
     refine uz (r:=zN) (b:=0) (x:=r29.2) (x':=r30.2) (vs:=[Enc.enc ([0,(-1),8]:LI)]) (res:=Enc.enc (r30.1:Int)) (show s15 0=(bC r29.2) from (hl_15 0 (by decide)).trans h0) (by exact (zQ (v:=cuV zN r29.2) (show s15 36=(bC r29.2) from (hl_15 36 (by decide)).trans h36) rfl (zQ (v:=Enc.enc ([0,(-1),8]:LI)) (show s15 37=(eL [0,(-1),8]) from hd_15) rfl y5))) (yr te yK) fm1 (H.c47 _ _ _ Er30) H.g47 te rfl (fun s16 hb16 ha16=>wA [(38,ji r30.1)] [Enc.enc (r30.1:Int)] rfl rfl rfl (show s16 39 = .gone from ha16 39 _ _ (show s15 39 = .gone from (hl_15 39 (by decide)).trans h39) rfl rfl) ?_)
     obtain ⟨ap31,Eap31,h⟩:=zc h
     refine XQ (q:=5) (p:=[]) (o:=.of (x13:LI)) (ys:=([r30.1]:LI)) (t2:=.at 39 []) (lo2:=0) (show s16 35=(oI 5 [] (.of x13)) from ha16 35 _ _ (show s15 35=(oI 5 [] (.of x13)) from (hl_15 35 (by decide)).trans h35) rfl (zo (r:=5) (p:=[]) rfl rfl)) rfl rfl (show s16 40 = .gone from ha16 40 _ _ (show s15 40 = .gone from (hl_15 40 (by decide)).trans h40) rfl rfl) (ZT (o:=.of (x13:LI)) Eap31 trivial) (fun s17 ha17=>gm (rf (oI 40 [] (.of ap31))) fun h5=>xo (y0 (r:=40) (x:=5) (v:=_) h5 rfl (fun s18 hz18=>?_)))
     refine ez [(0,bC r30.2),(4,nI),(5,oI 5 [] (.of ap31))] ⟨hz18 0 _ _ (show s17 0=(bC r30.2) from zR ha17 (show s16 0=(bC r30.2) from hb16 0 (show s15 0=(bC r29.2) from (hl_15 0 (by decide)).trans h0)) (zi rfl u7)) (zi rfl u7),hz18 4 _ nI (show s17 4=nI from zR ha17 (show s16 4=nI from ha16 4 _ _ (show s15 4=nI from (hl_15 4 (by decide)).trans h4) rfl rfl) rfl) rfl,hz18 5 _ _ h5 (zo (r:=40) (p:=[]) rfl rfl)⟩ ?_
     rintro s ⟨h0,h4,h5⟩
     refine .nsq (.seq (rg (gm h5 fun h41=>gm h41 fun h4=>xo (y0 (r:=5) (x:=4) (v:=_) h4 rfl (fun s19 hz19=>Mr (x:=4) (v:=oI 4 [] (.of ap31)) [.at 4 []] (by exact (hz19 4 _ _ h4 (zo (r:=5) (p:=[]) rfl rfl))) yP (fun s20 hz20=>?_))))))
     refine ez [(0,bC r30.2),(4,eL ap31)] ⟨hz20 0 (bC r30.2) (bC r30.2) (hz19 0 _ _ h0 (zi rfl u7)) (vm rfl zdn rfl),hz20 4 (oI 4 [] (.of ap31)) (eL ap31) (hz19 4 _ _ h4 (zo (r:=5) (p:=[]) rfl rfl)) WK⟩ ?_
     rintro s ⟨h0,h4⟩
     refine .nsq (.ret ?_)
     obtain rfl:=oi h
     exact rt1 (t:=0) (zr h4) h0
   refine .skip (.nsq (.seq (rg (gm h5 fun h41=>gm h41 fun h4=>xo (y0 (r:=5) (x:=4) (v:=_) h4 rfl (fun s21 hz21=>Mr (x:=4) (v:=oI 4 [] (.of x13)) [.at 4 []] (by exact (hz21 4 _ _ h4 (zo (r:=5) (p:=[]) rfl rfl))) yP (fun s22 hz22=>?_)))))))
   refine ez [(0,bC r29.2),(4,eL x13)] ⟨hz22 0 (bC r29.2) (bC r29.2) (hz21 0 _ _ h0 (zi rfl u7)) (vm rfl zdn rfl),hz22 4 (oI 4 [] (.of x13)) (eL x13) (hz21 4 _ _ h4 (zo (r:=5) (p:=[]) rfl rfl)) WK⟩ ?_
   rintro s ⟨h0,h4⟩
   refine .nsq (.ret ?_)
   obtain rfl:=oi h
   exact rt1 (t:=0) (zr h4) h0
def vd (F:Nat) (x1:CC) (x2:GR):Option (LI×CU):=
 wd F x2 F x1.v.a x1.v.b x1.v.c.v [] 0
theorem t20 (H:H20 D σ F) (x1:CC) (x2:GR) (s:Nat→V) (hs:zu [(0,bC x1.v),(1,gV x2)] s) (h:vd F x1 x2=some r):Run D σ (R20 r) (.run A20 []) s:=by
 unfold vd at h
 obtain ⟨h0,h1⟩:=hs
 refine .seq (zA (zZ ?_))
 refine ez [(0,_),(1,_),(3,_)] ⟨za h0 rfl (zi rfl u7),za h1 rfl mIE,ze rfl⟩ ?_
 rintro s ⟨h0,h1,h3⟩
 refine xU (gV x2) (zx h1 rfl) h3 rfl (g0 nI fun h4=>gq (.nsq (.seq (zA (zZ ?_)))))
 refine ez [(0,_),(3,_),(4,_),(8,_)] ⟨za h0 rfl (zi rfl u7),za rfl rfl (zi rfl mIE),za h4 rfl rfl,ze rfl⟩ ?_
 rintro s ⟨h0,h3,h4,h8⟩
 refine wA [] [] trivial rfl rfl h8 (gm (rf (oI 8 [] (.of []))) fun h5=>xo (y0 (r:=8) (x:=5) (v:=_) h5 rfl (fun s3 hz3=>?_)))
 refine ez [(0,bC x1.v),(3,bG 3 x2),(4,nI),(5,oI 5 [] (.of []))] ⟨hz3 0 _ _ h0 (zi rfl u7),hz3 3 _ _ h3 (zi rfl mIE),hz3 4 _ _ h4 rfl,hz3 5 _ _ h5 (zo (r:=8) (p:=[]) rfl rfl)⟩ ?_
 rintro s ⟨h0,h3,h4,h5⟩
 refine .nsq (.seq (.seq (rg (g0 (ji 0) fun h6=>gq (.nsq (.block (.loop ?_)))))))
 exact zhJ H x2 F x1.v.a x1.v.b x1.v.c.v [] 0 _ ⟨h0,h3,h4,h5,h6⟩ h
end
def e20 (F:Nat):Ent:=ent 20 (fun (x:(CC×GR×Unit))=>vd F x.1 x.2.1) (fun (r:(LI×CU))=>(.tup [eL r.1,.tup [cuV zN r.2]])) uZ false []
abbrev C20 (D:List V→Option V) (F:Nat):Prop:=∀ (x0:CC) (x1:GR) r,vd F x0 x1=some r→D [Arg.arg x0,Enc.enc x1]=some (.tup [eL r.1,.tup [cuV zN r.2]])
theorem p20 {F:Nat}:C20 (e20 F).den F:=fun x0 x1 _ h=>zS (x0,x1,()) h
theorem o20 (hF:zF Try.prog D σ) (H:H20 D σ F):(e20 F).Ok Try.prog:=okZ (f:=20) Try.func20 fun ⟨x0,x1,_⟩ y hy=>cT hF Try.func20 c20 (t20 H x0 x1 _ ⟨rfl,rfl⟩ hy)
def ztM:AC:=(.seq (rr [jx 11 (.vN (.load (.ag [.s,.p]) (.t 5)) [4]),jm 12 4,jx 13 (.vN (.load (.ag [.s,.p]) (.t 5)) [4]),jx 14 (.callT (jf 20) [.t 12,.t 13] [4] []),jz (.store (.ag [.s,.p]) (.t 2) (.t 11)),jm 3 14]) .ret)
def ztO:AC:=(.seq (.reg [.clr [5]] [jm 9 4,jx 10 (.callT (jf 19) [.t 9] [4] []),jx 5 (.alloc (.agg [i0,.sl .nl (.ag [.s,.s]) 0 []])),jz (.store (.ag [.s,.p]) (.t 5) (.t 10))] []) ztM)
def zth:AC:=(.seq (.reg [.clr [8]] [jm 6 0,jv 7 (.bld (.agg [.sl .nl .s 0 [],i0,.int .u64 (.ofNat 0)]) [(0,0,.t 6)]),jx 8 (.box (.t 7)),jm 4 8] []) ztO)
def A5:AC:=(.seq (.reg [.clr [2]] [jx 2 (.alloc (.agg [i0,.sl .nl (.ag [.s,.s]) 0 []])),jv 3 (.mov (.k (.sl .nl .s 0 [])))] []) zth)
def an5:List An:=[⟨0,[.clr [2]],[],[],[]⟩,⟨1,[.clr [8]],[],[],[]⟩,⟨2,[.clr [5]],[],[2000004],[]⟩,⟨3,[],[],[4000004,1000004,3000004],[]⟩]
theorem c5:cq Try.prog Try.f5 an5=some A5:=by kernel_rfl
structure H5 (D:Den) (σ:Sig) (F:Nat):Prop where
 c19:C19 (D 19) F
 g19:σ 19=some (uZ,false)
 c20:C20 (D 20) F
 g20:σ 20=some (uZ,false)
abbrev R5 (r:(GR×LI)):(Nat→V)→Prop:=RR Try.prog [.cell 2 26,.tmp 3] 0 true (.tup [Enc.enc (r.1:GR),eL r.2])
section
variable {r:(GR×LI)}
def vo (F:Nat) (x1:LB):Option (GR×LI):=
 (vu F (cu x1 0 0)).bind fun r2=>
 (vd F (Cu.mk r2.2) r2.1).bind fun r3=>
 some (r2.1,r3.1)
theorem t5 (H:H5 D σ F) (x1:LB) (s:Nat→V) (hs:zu [(0,eB x1)] s) (h:vo F x1=some r):Run D σ (R5 r) (.run A5 []) s:=by
 unfold vo at h
 have h0:=hs
 refine .seq (zA (zZ ?_))
 refine ez [(0,_),(2,_)] ⟨za h0 rfl me,ze rfl⟩ ?_
 rintro s ⟨h0,h2⟩
 refine yR h2 (g0 nI fun h3=>gq (.nsq (.seq (zA (zZ ?_)))))
 refine ez [(0,_),(2,_),(3,_),(8,_)] ⟨za h0 rfl me,za rfl rfl (zi rfl (mIx rfl)),za h3 rfl rfl,ze rfl⟩ ?_
 rintro s ⟨h0,h2,h3,h8⟩
 refine gm h0 fun h6=>g1 6 (.agg [eB x1,ji 0,.int .u64 0]) h6 fun h7=>xU (.agg [eB x1,ji 0,.int .u64 0]) (zx h7 rfl) h8 rfl (gm (rf (.ref (.bx 8) 0 [] (.agg [eB x1,ji 0,.int .u64 0]))) fun h4=>gq (.nsq (.seq (zA (zZ ?_)))))
 refine ez [(2,_),(3,_),(4,_),(5,_)] ⟨za h2 rfl (zi rfl (mIx rfl)),za h3 rfl rfl,za h4 rfl (zi rfl u7),ze rfl⟩ ?_
 rintro s ⟨h2,h3,h4,h5⟩
 refine gm h4 fun h9=>?_
 obtain ⟨r2,Er2,h⟩:=zc h
 refine uz (r:=8) (b:=4) (x:=((S3.mk x1 0 (Kd.mk 0:Kd .u64)):CU)) (x':=r2.2) (vs:=[]) (res:=Enc.enc (r2.1:GR)) h4 (by exact (zQ (v:=cuV 8 ((S3.mk x1 0 (Kd.mk 0:Kd .u64)):CU)) h9 rfl y5)) yK (fun f=>zn) (H.c19 _ _ Er2) H.g19 te rfl (fun s4 hb4 ha4=>yR (show s4 5 = .gone from ha4 5 _ _ h5 rfl rfl) (z5 (gV r2.1) (zx rfl rfl) (zx rfl rfl) (xE (by first | rfl | simp [V.toks,V.tokss,Enc.toks_enc,zX])) ?_))
 refine gz [(2,bZ 2),(3,nI),(4,.ref (.bx 8) 0 [] (cV r2.2)),(5,bG 5 r2.1)] ⟨zd (show s4 2=(bZ 2) from ha4 2 _ _ h2 rfl (zi rfl (mIx rfl))) (zy rfl rfl (yx (zq rfl (zq rfl rfl)))),zd (show s4 3=nI from ha4 3 _ _ h3 rfl rfl) rfl,zd (show s4 4=(.ref (.bx 8) 0 [] (cV r2.2)) from hb4 4 h4) (zy rfl rfl UU),zd rfl rfl⟩ ?_
 rintro s ⟨h2,h3,h4,h5⟩
 refine .nsq (.seq (rg (Md (r:=8) (b:=4) (x:=r2.2) (gV r2.1) h4 (Xn [(5,bG 5 r2.1)] h5 rfl rfl) [(5,bG 5 r2.1)] h5 rfl (by simp [V.live,V.lives,uv,V.toks,V.tokss,yP,Enc.toks_enc,zN,u6]) (by simp [V.toks,V.tokss,yP,Enc.toks_enc,zN,u6]) (gm h4 fun h12=>Md (r:=8) (b:=4) (x:=r2.2) (gV r2.1) h4 (Xn [(5,bG 5 r2.1)] h5 rfl rfl) [(5,bG 5 r2.1)] h5 rfl (by simp [V.live,V.lives,uv,V.toks,V.tokss,yP,Enc.toks_enc,zN,u6]) (by simp [V.toks,V.tokss,yP,Enc.toks_enc,zN,u6]) ?_))))
 obtain ⟨r3,Er3,h⟩:=zc h
 refine uz (r:=8) (b:=4) (x:=r2.2) (x':=r3.2) (vs:=[Enc.enc (r2.1:GR)]) (res:=eL r3.1) h4 (by exact (zQ (v:=cuV 8 r2.2) h12 rfl (zQ (v:=Enc.enc (r2.1:GR)) rfl rfl y5))) (yr te yK) fm1 (H.c20 _ _ _ Er3) H.g20 te rfl (fun s5 hb5 ha5=>z5 (gV r2.1) (zx (show s5 2=(bZ 2) from ha5 2 _ _ h2 rfl (zi rfl (mIx rfl))) rfl) (zx (show s5 11=(gV r2.1) from ha5 11 (gV r2.1) _ rfl rfl mIE) rfl) (xE (by first | rfl | simp [V.toks,V.tokss,Enc.toks_enc,zX])) (gm (zd rfl uE) fun h3=>gz [(2,bG 2 r2.1),(3,_)] ⟨zd (show s5 2=(bZ 2) from ha5 2 _ _ h2 rfl (zi rfl (mIx rfl))) rfl,h3⟩ ?_))
 rintro s ⟨h2,h3⟩
 refine .nsq (.ret ?_)
 obtain rfl:=oi h
 exact rrB (xO h2 (by kernel_rfl)) (zr h3) (YU (ZF (yp (wx (x:=(r2.1:GR))) (yp (wx (x:=(r3.1:LI))) wG))))
end
def e5 (F:Nat):Ent:=ent 5 (fun (x:(LB×Unit))=>vo F x.1) (fun (r:(GR×LI))=>(.tup [Enc.enc (r.1:GR),eL r.2])) 0 true []
abbrev C5 (D:List V→Option V) (F:Nat):Prop:=∀ (x0:LB) r,vo F x0=some r→D [Enc.enc x0]=some (.tup [Enc.enc (r.1:GR),eL r.2])
theorem p5 {F:Nat}:C5 (e5 F).den F:=fun x0 _ h=>zS (x0,()) h
theorem o5 (hF:zF Try.prog D σ) (H:H5 D σ F):(e5 F).Ok Try.prog:=okZ (f:=5) Try.func5 fun ⟨x0,_⟩ y hy=>cR hF Try.func5 c5 (t5 H x0 _ rfl hy)
def zoW:AC:=(.seq (rr [jm 7 0,jm 8 1,jv 9 (.bin .geq (.t 7) (.t 8)),jm 10 9,jg 11 10 true (.mov (.t 0)),jg 12 10 true (.mov (.t 2)),jg 13 10 true (.bin .leq (.t 11) (.t 12)),jv 14 (.pick (.t 10) (.t 13) kf),jm 6 14]) .ret)
def A48:AC:=(.seq (rr [jv 6 (.mov kf)]) zoW)
def ztf:List An:=[]
theorem c48:cq Try.prog Try.f48 ztf=some A48:=by kernel_rfl
structure H48 (D:Den) (σ:Sig) (F:Nat):Prop where
 mk ::
abbrev R48 (r:Bool):(Nat→V)→Prop:=RR Try.prog [.tmp 6] 0 false (Enc.enc (r:Bool))
section
variable {r:Bool}
def XA (F:Nat) (x1:Int) (x2:Int) (x3:Int):Option Bool:=
 bif decide (x1≥x2) then
  some (decide (x1≤x3))
 else
  some false
theorem t48 (H:H48 D σ F) (x1:Int) (x2:Int) (x3:Int) (s:Nat→V) (hs:zu [(0,ji x1),(1,ji x2),(2,ji x3)] s) (h:XA F x1 x2 x3=some r):Run D σ (R48 r) (.run A48 []) s:=by
 unfold XA at h
 obtain ⟨h0,h1,h2⟩:=hs
 refine .seq (rg (g0 (jb false) fun h6=>gq (.nsq (.seq (rg (gm h0 fun h7=>gm h1 fun h8=>g2 7 8 (jb (decide (x1≥x2))) h7 h8 fun h9=>gm h9 fun h10=>yj h (fun hg4 h=>?_) (fun hg4 h=>?_)))))))
 · refine zt (ct h10 hg4) (gm h0 fun h11=>zt (ct h10 hg4) (gm h2 fun h12=>zt (ct h10 hg4) (g2 11 12 (jb (decide (x1≤x3))) h11 h12 fun h13=>g2 10 13 (jb (decide (x1≤x3))) (ct h10 hg4) h13 fun h14=>gm h14 fun h6=>gq (.nsq (.ret ?_)))))
   obtain rfl:=oi h
   exact rrA (zr h6) rfl
 iterate 3 refine yY (ct h10 hg4) ?_
 refine g2 10 13 (jb false) (ct h10 hg4) (rf (.tup [])) fun h14=>gm h14 fun h6=>gq (.nsq (.ret ?_))
 obtain rfl:=oi h
 exact rrA (zr h6) rfl
end
def e48 (F:Nat):Ent:=ent 48 (fun (x:(Int×Int×Int×Unit))=>XA F x.1 x.2.1 x.2.2.1) (fun (r:Bool)=>(Enc.enc (r:Bool))) 0 false []
abbrev C48 (D:List V→Option V) (F:Nat):Prop:=∀ (x0:Int) (x1:Int) (x2:Int) r,XA F x0 x1 x2=some r→D [Enc.enc x0,Enc.enc x1,Enc.enc x2]=some (Enc.enc (r:Bool))
theorem p48 {F:Nat}:C48 (e48 F).den F:=fun x0 x1 x2 _ h=>zS (x0,x1,x2,()) h
theorem o48 (hF:zF Try.prog D σ) (H:H48 D σ F):(e48 F).Ok Try.prog:=okZ (f:=48) Try.func48 fun ⟨x0,x1,x2,_⟩ y hy=>cR hF Try.func48 c48 (t48 H x0 x1 x2 _ ⟨rfl,rfl,rfl⟩ hy)
def zp9:AC:=(.seq (rr [jm 3 0,jm 4 0,jv 5 (.bin .neq (.t 3) (.t 4)),jm 2 5]) .ret)
def A80:AC:=(.seq (rr [jv 2 (.mov kf)]) zp9)
def ztB:List An:=[]
theorem c80:cq Try.prog Try.f80 ztB=some A80:=by kernel_rfl
structure H80 (D:Den) (σ:Sig) (F:Nat):Prop where
 mk ::
abbrev R80 (r:Bool):(Nat→V)→Prop:=RR Try.prog [.tmp 2] 0 false (Enc.enc (r:Bool))
section
variable {r:Bool}
def vv (F:Nat) (x1:Int):Option Bool:=
 some (x1 != x1)
theorem t80 (H:H80 D σ F) (x1:Int) (s:Nat→V) (hs:zu [(0,ji x1)] s) (h:vv F x1=some r):Run D σ (R80 r) (.run A80 []) s:=by
 unfold vv at h
 have h0:=hs
 refine .seq (rg (g0 (jb false) fun h2=>gq (.nsq (.seq (rg (gm h0 fun h3=>gm h0 fun h4=>g2 3 4 (jb (x1 != x1)) h3 h4 fun h5=>gm h5 fun h2=>gq (.nsq (.ret ?_))))))))
 obtain rfl:=oi h
 exact rrA (zr h2) rfl
end
def e80 (F:Nat):Ent:=ent 80 (fun (x:(Int×Unit))=>vv F x.1) (fun (r:Bool)=>(Enc.enc (r:Bool))) 0 false []
abbrev C80 (D:List V→Option V) (F:Nat):Prop:=∀ (x0:Int) r,vv F x0=some r→D [Enc.enc x0]=some (Enc.enc (r:Bool))
theorem p80 {F:Nat}:C80 (e80 F).den F:=fun x0 _ h=>zS (x0,()) h
theorem o80 (hF:zF Try.prog D σ) (H:H80 D σ F):(e80 F).Ok Try.prog:=okZ (f:=80) Try.func80 fun ⟨x0,_⟩ y hy=>cR hF Try.func80 c80 (t80 H x0 _ rfl hy)
def zrW:AC:=(.cond (.t 12) (.seq (rr [jv 4 (.mov (jn 0))]) .ret) .skip)
def zn7:AC:=(.seq (rr [jv 4 (.mov (jn (-1)))]) .ret)
def zqp:AC:=(.cond (.t 11) (.seq (.seq (rr [jm 12 6]) zrW) zn7) .skip)
def zo5:AC:=(.cond (.t 13) (.seq (rr [jv 4 (.mov (jn 1))]) .ret) .skip)
def zni:AC:=(.cond (.t 16) (.seq (rr [jv 4 (.mov (jn (-1)))]) .ret) .skip)
def zlL:AC:=(.cond (.t 19) (.seq (rr [jv 4 (.mov (jn 1))]) .ret) .skip)
def zm0:AC:=(.seq (rr [jv 4 (.mov (jn 0))]) .ret)
def zlR:AC:=(.seq (.seq (rr [jm 17 0,jm 18 1,jv 19 (.bin .gtr (.t 17) (.t 18))]) zlL) zm0)
def zoc:AC:=(.seq (.seq (rr [jm 14 0,jm 15 1,jv 16 (.bin .lss (.t 14) (.t 15))]) zni) zlR)
def zpR:AC:=(.seq (.seq (rr [jm 13 6]) zo5) zoc)
def zo4:AC:=(.seq (.seq (rr [jm 11 5]) zqp) zpR)
def zsR:AC:=(.seq (rr [jm 9 1,jx 10 (.call (jf 80) [.t 9]),jm 6 10]) zo4)
def zq3:AC:=(.seq (rr [jm 7 0,jx 8 (.call (jf 80) [.t 7]),jm 5 8]) zsR)
def A75:AC:=(.seq (rr [jv 4 (.mov (jn 0))]) zq3)
def zu0:List An:=[]
theorem c75:cq Try.prog Try.f75 zu0=some A75:=by kernel_rfl
structure H75 (D:Den) (σ:Sig) (F:Nat):Prop where
 c80:C80 (D 80) F
 g80:σ 80=some (0,false)
abbrev R75 (r:Int):(Nat→V)→Prop:=RR Try.prog [.tmp 4] 0 false (Enc.enc (r:Int))
section
variable {r:Int}
def wl (F:Nat) (x1:Int) (x2:Int):Option Int:=
 (vv F x1).bind fun r3=>
 (vv F x2).bind fun r4=>
 bif r3 then
  bif r4 then
   some 0
  else
   some (-1)
 else
  bif r4 then
   some 1
  else
   bif decide (x1 < x2) then
    some (-1)
   else
    bif decide (x1 > x2) then
     some 1
    else
     some 0
theorem t75 (H:H75 D σ F) (x1:Int) (x2:Int) (s:Nat→V) (hs:zu [(0,ji x1),(1,ji x2)] s) (h:wl F x1 x2=some r):Run D σ (R75 r) (.run A75 []) s:=by
 unfold wl at h
 obtain ⟨h0,h1⟩:=hs
 refine .seq (rg (g0 (ji 0) fun h4=>gq (.nsq (.seq (rg (gm h0 fun h7=>?_))))))
 obtain ⟨r3,Er3,h⟩:=zc h
 refine gcF [Enc.enc (x1:Int)] (zh h7 rfl rfl zI) (H.c80 _ _ Er3) H.g80 (gm (rf (jb r3)) fun h5=>gq (.nsq (.seq (rg (gm h1 fun h9=>?_)))))
 obtain ⟨r4,Er4,h⟩:=zc h
 refine gcF [Enc.enc (x2:Int)] (zh h9 rfl rfl zI) (H.c80 _ _ Er4) H.g80 (gm (rf (jb r4)) fun h6=>gq (.nsq (.seq (.seq (rg (gm h5 fun h11=>gq (.nsq (zp h11 h (fun h=>?_) (fun h=>?_)))))))))
 · refine .seq (.seq (rg (gm h6 fun h12=>gq (.nsq (zp h12 h (fun h=>?_) (fun h=>?_))))))
   · refine .seq (rg (g0 (ji 0) fun h4=>gq (.nsq (.ret ?_))))
     obtain rfl:=oi h
     exact rrA (zr h4) rfl
   refine .skip (.nsq (.seq (rg (g0 (ji (-1)) fun h4=>gq (.nsq (.ret ?_))))))
   obtain rfl:=oi h
   exact rrA (zr h4) rfl
 refine .skip (.nsq (.seq (.seq (rg (gm h6 fun h13=>gq (.nsq (zp h13 h (fun h=>?_) (fun h=>?_))))))))
 · refine .seq (rg (g0 (ji 1) fun h4=>gq (.nsq (.ret ?_))))
   obtain rfl:=oi h
   exact rrA (zr h4) rfl
 refine .skip (.nsq (.seq (.seq (rg (gm h0 fun h14=>gm h1 fun h15=>g2 14 15 (jb (decide (x1 < x2))) h14 h15 fun h16=>gq (.nsq (zp h16 h (fun h=>?_) (fun h=>?_))))))))
 · refine .seq (rg (g0 (ji (-1)) fun h4=>gq (.nsq (.ret ?_))))
   obtain rfl:=oi h
   exact rrA (zr h4) rfl
 refine .skip (.nsq (.seq (.seq (rg (gm h0 fun h17=>gm h1 fun h18=>g2 17 18 (jb (decide (x1 > x2))) h17 h18 fun h19=>gq (.nsq (zp h19 h (fun h=>?_) (fun h=>?_))))))))
 · refine .seq (rg (g0 (ji 1) fun h4=>gq (.nsq (.ret ?_))))
   obtain rfl:=oi h
   exact rrA (zr h4) rfl
 refine .skip (.nsq (.seq (rg (g0 (ji 0) fun h4=>gq (.nsq (.ret ?_))))))
 obtain rfl:=oi h
 exact rrA (zr h4) rfl
end
def e75 (F:Nat):Ent:=ent 75 (fun (x:(Int×Int×Unit))=>wl F x.1 x.2.1) (fun (r:Int)=>(Enc.enc (r:Int))) 0 false []
abbrev C75 (D:List V→Option V) (F:Nat):Prop:=∀ (x0:Int) (x1:Int) r,wl F x0 x1=some r→D [Enc.enc x0,Enc.enc x1]=some (Enc.enc (r:Int))
theorem p75 {F:Nat}:C75 (e75 F).den F:=fun x0 x1 _ h=>zS (x0,x1,()) h
theorem o75 (hF:zF Try.prog D σ) (H:H75 D σ F):(e75 F).Ok Try.prog:=okZ (f:=75) Try.func75 fun ⟨x0,x1,_⟩ y hy=>cR hF Try.func75 c75 (t75 H x0 x1 _ ⟨rfl,rfl⟩ hy)
def zoG:AC:=(.cond (.t 19) (.seq (rr [jv 4 (.mov (jn 1))]) .ret) .skip)
def zpu:AC:=(.cond (.t 28) (.seq (rr [jm 29 8,jm 4 29]) .ret) .skip)
def zqA:AC:=(.seq (rr [jm 27 8,jv 28 (.bin .neq (.t 27) (jn 0))]) zpu)
def zrt:AC:=(.seq (rr [jm 24 6,jm 25 7,jx 26 (.call (jf 75) [.t 24,.t 25]),jm 8 26]) zqA)
def zqy:AC:=(.seq (rr [jm 20 1,jm 21 5,jv 22 (.idx (.t 20) (.t 21) 1),jl 23 22,jm 7 23]) zrt)
def zoh:AC:=(.seq (.seq (rr [jm 16 5,jm 17 1,jk 18 17,jv 19 (.bin .geq (.t 16) (.t 18))]) zoG) zqy)
def znB:AC:=(rr [jv 30 (.bin .add (.t 11) (jn 1)),jm 11 30])
def zsP:AC:=(.seq (.block 1 (.seq (rr [jm 13 11,jv 14 (.idx (.t 9) (.t 11) 1),jl 15 14,jm 5 13,jm 6 15]) zoh)) znB)
def zrl:AC:=(.seq (.cond (.t 12) .skip (.exit 0)) zsP)
def zgB:AC:=(.seq (rr [jv 12 (.bin .lss (.t 11) (.t 10))]) zrl)
def zmB:AC:=(.cond (.t 35) (.seq (rr [jv 4 (.mov (jn (-1)))]) .ret) .skip)
def znC:AC:=(.seq (rr [jv 4 (.mov (jn 0))]) .ret)
def zhU:AC:=(.seq (.seq (rr [jm 31 0,jk 32 31,jm 33 1,jk 34 33,jv 35 (.bin .lss (.t 32) (.t 34))]) zmB) znC)
def zmP:AC:=(.block 0 (.loop zgB))
def zmk:AC:=(.seq (.seq (rr [jm 9 0,jk 10 9,jv 11 (.mov (jn 0))]) zmP) zhU)
def A49:AC:=(.seq (rr [jv 4 (.mov (jn 0))]) zmk)
def zuX:List An:=[]
theorem c49:cq Try.prog Try.f49 zuX=some A49:=by kernel_rfl
structure H49 (D:Den) (σ:Sig) (F:Nat):Prop where
 c75:C75 (D 75) F
 g75:σ 75=some (0,false)
abbrev R49 (r:Int):(Nat→V)→Prop:=RR Try.prog [.tmp 4] 0 false (Enc.enc (r:Int))
section
variable {r:Int}
def we (F:Nat) (x1:LI) (x2:LI) :Nat→Int→Option Int
 | 0,_=>none
 | k + 1,x6=>
   bif decide (x6 < (x1.length:Int)) then
    (idx x1 x6).bind fun v10=>
    bif decide (x6≥(x2.length:Int)) then
     some 1
    else
     (idx x2 x6).bind fun v11=>
     (wl F v10 v11).bind fun r12=>
     bif (r12 != 0) then
      some r12
     else
      (we F x1 x2 k) (w64 (x6 + 1))
   else
    bif decide ((x1.length:Int) < (x2.length:Int)) then
     some (-1)
    else
     some 0
theorem ziz (H:H49 D σ F) (x1:LI) (x2:LI) :∀ (k:Nat) (x6:Int) (s:Nat→V),zu [(0,eL x1),(1,eL x2),(4,ji 0),(9,eL x1),(10,ji (x1.length:Int)),(11,ji x6)] s→we F x1 x2 k x6=some r→Run D σ (R49 r) (.run zgB [.lp zgB,.bk 0,.sq zhU]) s:=by
 intro k
 induction k with
 | zero=>intro x6 s _ h;exact nm h
 | succ k ih=>
   intro x6 s hs h
   rw [we] at h
   obtain ⟨h0,h1,h4,h9,h10,h11⟩:=hs
   refine .seq (rg (g2 11 10 (jb (decide (x6 < (x1.length:Int)))) h11 h10 fun h12=>gq (.nsq (.seq (zp h12 h (fun h=>?_) (fun h=>?_))))))
   · refine .skip (.nsq (.seq (.block (.seq (rg (gm h11 fun h13=>?_))))))
     obtain ⟨v10,Ev10,h⟩:=zc h
     refine gv (.ref .sh 0 [] (ji v10)) (yV (t:=.sh) (lo:=0) (xs:=x1) h9 h11 Ev10 rfl rfl) fun h14=>g1 14 (ji v10) h14 fun h15=>gm h13 fun h5=>gm h15 fun h6=>gq (.nsq (.seq (.seq (rg (gm h5 fun h16=>gm h1 fun h17=>gl x2 h17 fun h18=>g2 16 18 (jb (decide (x6≥(x2.length:Int)))) h16 h18 fun h19=>gq (.nsq (zp h19 h (fun h=>?_) (fun h=>?_))))))))
     · refine .seq (rg (g0 (ji 1) fun h4=>gq (.nsq (.ret ?_))))
       obtain rfl:=oi h
       exact rrA (zr h4) rfl
     refine .skip (.nsq (.seq (rg (gm h1 fun h20=>gm h5 fun h21=>?_))))
     obtain ⟨v11,Ev11,h⟩:=zc h
     refine gv (.ref .sh 0 [] (ji v11)) (yV (t:=.sh) (lo:=0) (xs:=x2) h20 h21 Ev11 rfl rfl) fun h22=>g1 22 (ji v11) h22 fun h23=>gm h23 fun h7=>gq (.nsq (.seq (rg (gm h6 fun h24=>gm h7 fun h25=>?_))))
     obtain ⟨r12,Er12,h⟩:=zc h
     refine gcF [Enc.enc (v10:Int),Enc.enc (v11:Int)] (zh h24 rfl rfl (zh h25 rfl rfl zI)) (H.c75 _ _ _ Er12) H.g75 (gm (rf (ji r12)) fun h8=>gq (.nsq (.seq (rg (gm h8 fun h27=>g1 27 (jb (r12 != 0)) h27 fun h28=>gq (.nsq (zp h28 h (fun h=>?_) (fun h=>?_))))))))
     · refine .seq (rg (gm h8 fun h29=>gm h29 fun h4=>gq (.nsq (.ret ?_))))
       obtain rfl:=oi h
       exact rrA (zr h4) rfl
     refine .skip (.nbk (.nsq (rg (g1 11 (ji (w64 (x6 + 1))) h11 fun h30=>gm h30 fun h11=>gq (.nlp ?_)))))
     exact ih (w64 (x6 + 1)) _ ⟨h0,h1,h4,h9,h10,h11⟩ h
   refine .exit (.esq (.elp (.ebk (.nsq (.seq (.seq (rg (gm h0 fun h31=>gl x1 h31 fun h32=>gm h1 fun h33=>gl x2 h33 fun h34=>g2 32 34 (jb (decide ((x1.length:Int) < (x2.length:Int)))) h32 h34 fun h35=>gq (.nsq (zp h35 h (fun h=>?_) (fun h=>?_)))))))))))
   · refine .seq (rg (g0 (ji (-1)) fun h4=>gq (.nsq (.ret ?_))))
     obtain rfl:=oi h
     exact rrA (zr h4) rfl
   refine .skip (.nsq (.seq (rg (g0 (ji 0) fun h4=>gq (.nsq (.ret ?_))))))
   obtain rfl:=oi h
   exact rrA (zr h4) rfl
def wg (F:Nat) (x1:LI) (x2:LI):Option Int:=
 we F x1 x2 F 0
theorem t49 (H:H49 D σ F) (x1:LI) (x2:LI) (s:Nat→V) (hs:zu [(0,eL x1),(1,eL x2)] s) (h:wg F x1 x2=some r):Run D σ (R49 r) (.run A49 []) s:=by
 unfold wg at h
 obtain ⟨h0,h1⟩:=hs
 refine .seq (rg (g0 (ji 0) fun h4=>gq (.nsq (.seq (.seq (rg (gm h0 fun h9=>gl x1 h9 fun h10=>g0 (ji 0) fun h11=>gq (.nsq (.block (.loop ?_))))))))))
 exact ziz H x1 x2 F 0 _ ⟨h0,h1,h4,h9,h10,h11⟩ h
end
def e49 (F:Nat):Ent:=ent 49 (fun (x:(LI×LI×Unit))=>wg F x.1 x.2.1) (fun (r:Int)=>(Enc.enc (r:Int))) 0 false []
abbrev C49 (D:List V→Option V) (F:Nat):Prop:=∀ (x0:LI) (x1:LI) r,wg F x0 x1=some r→D [Enc.enc x0,Enc.enc x1]=some (Enc.enc (r:Int))
theorem p49 {F:Nat}:C49 (e49 F).den F:=fun x0 x1 _ h=>zS (x0,x1,()) h
theorem o49 (hF:zF Try.prog D σ) (H:H49 D σ F):(e49 F).Ok Try.prog:=okZ (f:=49) Try.func49 fun ⟨x0,x1,_⟩ y hy=>cR hF Try.func49 c49 (t49 H x0 x1 _ ⟨rfl,rfl⟩ hy)
def zlj:AC:=(.cond (.t 48) (.seq (rr [jv 2 (.mov kf)]) .ret) .skip)
def zsh:AC:=(.seq (rr [jv 17 (.idxA (.t 4) (jn 0) 2 1),jl 18 17,jv 19 (.bin .lss (.t 18) (jn 0)),jm 20 19,jg 21 20 false (.idxA (.t 4) (jn 0) 2 1),jg 22 20 false (.load .s (.t 21)),jg 23 20 false (.idxA (.t 4) (jn 1) 2 1),jg 24 20 false (.load .s (.t 23)),jg 25 20 false (.bin .geq (.t 22) (.t 24)),jv 26 (.pick (.t 20) kt (.t 25)),jm 27 26,jg 28 27 false (.idxA (.t 4) (jn 1) 2 1),jg 29 27 false (.load .s (.t 28)),jg 30 27 false (.fld (.t 1) 0 0),jg 31 27 false (.load .s (.t 30)),jg 32 27 false (.bin .geq (.t 29) (.t 31)),jv 33 (.pick (.t 27) kt (.t 32)),jm 34 33,jg 35 34 false (.mov (.t 3)),jg 36 34 false (.bin .gtr (.t 35) (jn 0)),jg 37 34 false (.mov (.t 36)),jg 38 37 true (.fld (.t 1) 1 1),jg 39 37 true (.load .p (.t 38)),jg 40 37 true (.mov (.t 3)),jg 41 37 true (.bin .sub (.t 40) (jn 1)),jg 42 37 true (.idx (.t 39) (.t 41) 2),jg 43 37 true (.sliceA (.t 42) 2 .s),jg 44 37 true (.sliceA (.t 4) 2 .s),.mk (some 45) (some (37,true)) false (.call (jf 49) [.t 43,.t 44]),jg 46 37 true (.bin .geq (.t 45) (jn 0)),jg 47 34 false (.pick (.t 37) (.t 46) kf),jv 48 (.pick (.t 34) kt (.t 47))]) zlj)
def zlm:AC:=(rr [jv 49 (.bin .add (.t 12) (jn 1)),jm 12 49])
def zrc:AC:=(.seq (.block 1 (.seq (.reg [.clr [4]] [jm 14 12,jv 15 (.idx (.t 10) (.t 12) 2),jv 16 (.load (.ag [.s,.s]) (.t 15)),jx 4 (.alloc (.agg [i0,i0])),jm 3 14,jz (.store (.ag [.s,.s]) (.t 4) (.t 16))] []) zsh)) zlm)
def zpa:AC:=(.seq (.cond (.t 13) .skip (.exit 0)) zrc)
def Qg:AC:=(.seq (rr [jv 13 (.bin .lss (.t 12) (.t 11))]) zpa)
def zeM:AC:=(.seq (rr [jv 2 (.mov kt)]) .ret)
def zs6:AC:=(.cond (.t 8) (.seq (rr [jv 2 (.mov kf)]) .ret) .skip)
def zl5:AC:=(.block 0 (.loop Qg))
def zmY:AC:=(.seq (.seq (rr [jv 9 (.fld (.t 1) 1 1),jv 10 (.load .p (.t 9)),jk 11 10,jv 12 (.mov (jn 0))]) zl5) zeM)
def zqe:AC:=(.seq (.seq (rr [jv 5 (.fld (.t 1) 0 0),jl 6 5,jx 7 (.call (jf 48) [.t 6,jn 0,jn 8]),jv 8 (.un .not (.t 7))]) zs6) zmY)
def A21:AC:=(.seq (.reg [.clr [1]] [jx 1 (.box (.t 0)),jv 2 (.mov kf)] []) zqe)
def ztp:List An:=[⟨0,[.clr [1]],[],[],[]⟩,⟨5,[.clr [4]],[],[],[]⟩]
theorem c21:cq Try.prog Try.f21 ztp=some A21:=by kernel_rfl
structure H21 (D:Den) (σ:Sig) (F:Nat):Prop where
 c48:C48 (D 48) F
 g48:σ 48=some (0,false)
 c49:C49 (D 49) F
 g49:σ 49=some (0,false)
abbrev R21 (r:Bool):(Nat→V)→Prop:=RR Try.prog [.tmp 2] 0 false (Enc.enc (r:Bool))
section
variable {r:Bool}
def vX (F:Nat) (x1:GR) (x9:Int) (c1:Int→Option Bool) (x19:Bool):Option Bool:=
 bif x19 then
  some false
 else
  c1 (w64 (x9 + 1))
theorem Jp (H:H21 D σ F) (x1:GR) (x9:Int) (c1:Int→Option Bool) (Hc1:∀ (x9:Int) (s:Nat→V),zu [(1,bG 1 x1),(2,jb false),(10,eP x1.2),(11,ji (x1.2.length:Int)),(12,ji x9)] s→c1 x9=some r→Run D σ (R21 r) (.run Qg [.lp Qg,.bk 0,.sq zeM]) s) (x19:Bool) (s:Nat→V) (hs:zu [(1,bG 1 x1),(2,jb false),(10,eP x1.2),(11,ji (x1.2.length:Int)),(12,ji x9),(48,jb x19)] s) (h:vX F x1 x9 c1 x19=some r):Run D σ (R21 r) (.nrm [.sq zlj,.bk 1,.sq zlm,.lp Qg,.bk 0,.sq zeM]) s:=by
 unfold vX at h
 obtain ⟨h1,h2,h10,h11,h12,h48⟩:=hs
 refine .nsq (zp h48 h (fun h=>?_) (fun h=>?_))
 · refine .seq (rg (g0 (jb false) fun h2=>gq (.nsq (.ret ?_))))
   obtain rfl:=oi h
   exact rrA (zr h2) rfl
 refine .skip (.nbk (.nsq (rg (g1 12 (ji (w64 (x9 + 1))) h12 fun h49=>gm h49 fun h12=>gq (.nlp ?_)))))
 exact Hc1 (w64 (x9 + 1)) _ ⟨h1,h2,h10,h11,h12⟩ h
def xm (F:Nat) (x1:GR) :Nat→Int→Option Bool
 | 0,_=>none
 | k + 1,x9=>
   bif decide (x9 < (x1.2.length:Int)) then
    (idx x1.2 x9).bind fun v16=>
    bif decide (v16.1 < 0) then
     vX F x1 x9 (xm F x1 k) true
    else
     bif decide (v16.1≥v16.2) then
      vX F x1 x9 (xm F x1 k) true
     else
      bif decide (v16.2≥x1.1) then
       vX F x1 x9 (xm F x1 k) true
      else
       bif decide (x9 > 0) then
        (idx x1.2 (w64 (x9 - 1))).bind fun v20=>
        (wg F [v20.1,v20.2] [v16.1,v16.2]).bind fun r21=>
        vX F x1 x9 (xm F x1 k) (decide (r21≥0))
       else
        vX F x1 x9 (xm F x1 k) false
   else
    some true
theorem zgO (H:H21 D σ F) (x1:GR) :∀ (k:Nat) (x9:Int) (s:Nat→V),zu [(1,bG 1 x1),(2,jb false),(10,eP x1.2),(11,ji (x1.2.length:Int)),(12,ji x9)] s→xm F x1 k x9=some r→Run D σ (R21 r) (.run Qg [.lp Qg,.bk 0,.sq zeM]) s:=by
 intro k
 induction k with
 | zero=>intro x9 s _ h;exact nm h
 | succ k ih=>
   intro x9 s hs h
   rw [xm] at h
   obtain ⟨h1,h2,h10,h11,h12⟩:=hs
   refine .seq (rg (g2 12 11 (jb (decide (x9 < (x1.2.length:Int)))) h12 h11 fun h13=>gq (.nsq (.seq (zp h13 h (fun h=>?_) (fun h=>?_))))))
   · refine .skip (.nsq (.seq (.block (.seq (zA (zZ ?_))))))
     refine ez [(1,_),(2,_),(4,_),(10,_),(11,_),(12,_)] ⟨za h1 rfl (zi rfl mIE),za h2 rfl mb,ze rfl,za h10 rfl me,za h11 rfl mi,za h12 rfl mi⟩ ?_
     rintro s ⟨h1,h2,h4,h10,h11,h12⟩
     refine gm h12 fun h14=>?_
     obtain ⟨v16,Ev16,h⟩:=zc h
     refine gv (.ref .sh 0 [] (.agg [ji v16.1,ji v16.2])) (yV (t:=.sh) (lo:=0) (xs:=x1.2) h10 h12 Ev16 rfl rfl) fun h15=>g1 15 (.agg [ji v16.1,ji v16.2]) h15 fun h16=>yR h4 (gm h14 fun h3=>z5 (.agg [ji v16.1,ji v16.2]) (zx rfl rfl) (zx h16 rfl) (xE (by first | rfl | simp [V.toks,V.tokss,Enc.toks_enc,zX])) (gz [(1,bG 1 x1),(2,jb false),(3,ji x9),(4,.ref (.bx 4) 0 [] (.agg [ji v16.1,ji v16.2])),(10,eP x1.2),(11,ji (x1.2.length:Int)),(12,ji x9)] ⟨zd h1 (zy rfl rfl uIE),zd h2 rfl,zd h3 rfl,zd rfl rfl,zd h10 uE,zd h11 rfl,zd h12 rfl⟩ ?_))
     rintro s ⟨h1,h2,h3,h4,h10,h11,h12⟩
     refine .nsq (.seq (rg (g1 4 (.ref (.bx 4) 0 [0] (ji v16.1)) h4 fun h17=>g1 17 (ji v16.1) h17 fun h18=>g1 18 (jb (decide (v16.1 < 0))) h18 fun h19=>gm h19 fun h20=>yj h (fun hg4 h=>?_) (fun hg4 h=>?_))))
     · iterate 5 refine yY (ct h20 hg4) ?_
       refine g2 20 25 (jb true) (ct h20 hg4) (rf (.tup [])) fun h26=>gm h26 fun h27=>yY h27 ?_
       iterate 4 refine yY h27 ?_
       refine g2 27 32 (jb true) h27 (rf (.tup [])) fun h33=>gm h33 fun h34=>yY h34 ?_
       iterate 2 refine yY h34 ?_
       iterate 9 refine UD rfl ?_
       refine yY h34 (g2 34 47 (jb true) h34 (rf (.tup [])) fun h48=>gz [(1,_),(2,_),(10,_),(11,_),(12,_),(48,_)] ⟨h1,h2,h10,h11,h12,h48⟩ ?_)
       rintro s ⟨h1,h2,h10,h11,h12,h48⟩
       exact Jp H x1 x9 (xm F x1 k) ih true _ ⟨h1,h2,h10,h11,h12,h48⟩ h
     refine zt (ct h20 hg4) (g1 4 (.ref (.bx 4) 0 [0] (ji v16.1)) h4 fun h21=>zt (ct h20 hg4) (g1 21 (ji v16.1) h21 fun h22=>zt (ct h20 hg4) (g1 4 (.ref (.bx 4) 0 [1] (ji v16.2)) h4 fun h23=>zt (ct h20 hg4) (g1 23 (ji v16.2) h23 fun h24=>zt (ct h20 hg4) (g2 22 24 (jb (decide (v16.1≥v16.2))) h22 h24 fun h25=>g2 20 25 (jb (decide (v16.1≥v16.2))) (ct h20 hg4) h25 fun h26=>gm h26 fun h27=>yj h (fun hg11 h=>?_) (fun hg11 h=>?_))))))
     · iterate 5 refine yY (ct h27 hg11) ?_
       refine g2 27 32 (jb true) (ct h27 hg11) (rf (.tup [])) fun h33=>gm h33 fun h34=>yY h34 ?_
       iterate 2 refine yY h34 ?_
       iterate 9 refine UD rfl ?_
       refine yY h34 (g2 34 47 (jb true) h34 (rf (.tup [])) fun h48=>gz [(1,_),(2,_),(10,_),(11,_),(12,_),(48,_)] ⟨h1,h2,h10,h11,h12,h48⟩ ?_)
       rintro s ⟨h1,h2,h10,h11,h12,h48⟩
       exact Jp H x1 x9 (xm F x1 k) ih true _ ⟨h1,h2,h10,h11,h12,h48⟩ h
     refine zt (ct h27 hg11) (g1 4 (.ref (.bx 4) 0 [1] (ji v16.2)) h4 fun h28=>zt (ct h27 hg11) (g1 28 (ji v16.2) h28 fun h29=>zt (ct h27 hg11) (g1 1 (.ref (.bx 1) 0 [0] (ji x1.1)) h1 fun h30=>zt (ct h27 hg11) (g1 30 (ji x1.1) h30 fun h31=>zt (ct h27 hg11) (g2 29 31 (jb (decide (v16.2≥x1.1))) h29 h31 fun h32=>g2 27 32 (jb (decide (v16.2≥x1.1))) (ct h27 hg11) h32 fun h33=>gm h33 fun h34=>yj h (fun hg18 h=>?_) (fun hg18 h=>?_))))))
     · iterate 3 refine yY (ct h34 hg18) ?_
       iterate 9 refine UD rfl ?_
       refine yY (ct h34 hg18) (g2 34 47 (jb true) (ct h34 hg18) (rf (.tup [])) fun h48=>gz [(1,_),(2,_),(10,_),(11,_),(12,_),(48,_)] ⟨h1,h2,h10,h11,h12,h48⟩ ?_)
       rintro s ⟨h1,h2,h10,h11,h12,h48⟩
       exact Jp H x1 x9 (xm F x1 k) ih true _ ⟨h1,h2,h10,h11,h12,h48⟩ h
     refine zt (ct h34 hg18) (gm h3 fun h35=>zt (ct h34 hg18) (g1 35 (jb (decide (x9 > 0))) h35 fun h36=>zt (ct h34 hg18) (gm h36 fun h37=>yj h (fun hg21 h=>?_) (fun hg21 h=>?_))))
     · refine zt (ct h37 hg21) (g1 1 (.ref (.bx 1) 0 [1] (eP x1.2)) h1 fun h38=>zt (ct h37 hg21) (g1 38 (eP x1.2) h38 fun h39=>zt (ct h37 hg21) (gm h3 fun h40=>zt (ct h37 hg21) (g1 40 (ji (w64 (x9 - 1))) h40 fun h41=>?_))))
       obtain ⟨v20,Ev20,h⟩:=zc h
       refine zt (ct h37 hg21) (gv (.ref .sh 0 [] (.agg [ji v20.1,ji v20.2])) (yV (t:=.sh) (lo:=0) (xs:=x1.2) h39 h41 Ev20 rfl rfl) fun h42=>zt (ct h37 hg21) (g1 42 (eL [v20.1,v20.2]) h42 fun h43=>zt (ct h37 hg21) (g1 4 (zm (.bx 4) (.of ([v16.1,v16.2]:LI))) h4 fun h44=>?_)))
       obtain ⟨r21,Er21,h⟩:=zc h
       refine zt (ct h37 hg21) (gcF [Enc.enc ([v20.1,v20.2]:LI),Enc.enc ([v16.1,v16.2]:LI)] (zh h43 rfl (Enc.erase_enc ([v20.1,v20.2]:LI)) (zh h44 rfl (vK (o:=.of [v16.1,v16.2])) zI)) (H.c49 _ _ _ Er21) H.g49 (zt (ct h37 hg21) (g1 45 (jb (decide (r21≥0))) (rf (ji r21)) fun h46=>zt (ct h34 hg18) (g2 37 46 (jb (decide (r21≥0))) (ct h37 hg21) h46 fun h47=>g2 34 47 (jb (decide (r21≥0))) (ct h34 hg18) h47 fun h48=>gz [(1,_),(2,_),(10,_),(11,_),(12,_),(48,_)] ⟨h1,h2,h10,h11,h12,h48⟩ ?_))))
       rintro s ⟨h1,h2,h10,h11,h12,h48⟩
       exact Jp H x1 x9 (xm F x1 k) ih (decide (r21≥0)) _ ⟨h1,h2,h10,h11,h12,h48⟩ h
     iterate 9 refine yY (ct h37 hg21) ?_
     refine zt (ct h34 hg18) (g2 37 46 (jb false) (ct h37 hg21) (rf (.tup [])) fun h47=>g2 34 47 (jb false) (ct h34 hg18) h47 fun h48=>gz [(1,_),(2,_),(10,_),(11,_),(12,_),(48,_)] ⟨h1,h2,h10,h11,h12,h48⟩ ?_)
     rintro s ⟨h1,h2,h10,h11,h12,h48⟩
     exact Jp H x1 x9 (xm F x1 k) ih false _ ⟨h1,h2,h10,h11,h12,h48⟩ h
   refine .exit (.esq (.elp (.ebk (.nsq (.seq (rg (g0 (jb true) fun h2=>gq (.nsq (.ret ?_)))))))))
   obtain rfl:=oi h
   exact rrA (zr h2) rfl
def vy (F:Nat) (x1:GR):Option Bool:=
 (XA F x1.1 0 8).bind fun r2=>
 bif (!r2) then
  some false
 else
  xm F x1 F 0
theorem t21 (H:H21 D σ F) (x1:GR) (s:Nat→V) (hs:zu [(0,gV x1)] s) (h:vy F x1=some r):Run D σ (R21 r) (.run A21 []) s:=by
 unfold vy at h
 have h0:=hs
 refine .seq (zA (zZ ?_))
 refine ez [(0,_),(1,_)] ⟨za h0 rfl mIE,ze rfl⟩ ?_
 rintro s ⟨h0,h1⟩
 refine xU (gV x1) (zx h0 rfl) h1 rfl (g0 (jb false) fun h2=>gq (.nsq (.seq (.seq (rg (g1 1 (.ref (.bx 1) 0 [0] (ji x1.1)) (rf (bG 1 x1)) fun h5=>g1 5 (ji x1.1) h5 fun h6=>?_))))))
 obtain ⟨r2,Er2,h⟩:=zc h
 refine gcF [Enc.enc (x1.1:Int),Enc.enc (0:Int),Enc.enc (8:Int)] (zh h6 rfl rfl (zh (v:=ji 0) rfl rfl rfl (zh (v:=ji 8) rfl rfl rfl zI))) (H.c48 _ _ _ _ Er2) H.g48 (g1 7 (jb (!r2)) (rf (jb r2)) fun h8=>gq (.nsq (zp h8 h (fun h=>?_) (fun h=>?_))))
 · refine .seq (rg (g0 (jb false) fun h2=>gq (.nsq (.ret ?_))))
   obtain rfl:=oi h
   exact rrA (zr h2) rfl
 refine .skip (.nsq (.seq (.seq (rg (g1 1 (.ref (.bx 1) 0 [1] (eP x1.2)) (rf (bG 1 x1)) fun h9=>g1 9 (eP x1.2) h9 fun h10=>gl x1.2 h10 fun h11=>g0 (ji 0) fun h12=>gq (.nsq (.block (.loop ?_))))))))
 exact zgO H x1 F 0 _ ⟨rfl,h2,h10,h11,h12⟩ h
end
def e21 (F:Nat):Ent:=ent 21 (fun (x:(GR×Unit))=>vy F x.1) (fun (r:Bool)=>(Enc.enc (r:Bool))) 0 false []
abbrev C21 (D:List V→Option V) (F:Nat):Prop:=∀ (x0:GR) r,vy F x0=some r→D [Enc.enc x0]=some (Enc.enc (r:Bool))
theorem p21 {F:Nat}:C21 (e21 F).den F:=fun x0 _ h=>zS (x0,()) h
theorem o21 (hF:zF Try.prog D σ) (H:H21 D σ F):(e21 F).Ok Try.prog:=okZ (f:=21) Try.func21 fun ⟨x0,_⟩ y hy=>cR hF Try.func21 c21 (t21 H x0 _ rfl hy)
def zsi:AC:=(.cond (.t 19) (.seq (rr [jv 6 (.mov kf)]) .ret) .skip)
def zs3:AC:=(.seq (rr [jm 15 8,jm 16 1,jm 17 2,jx 18 (.call (jf 48) [.t 15,.t 16,.t 17]),jv 19 (.un .not (.t 18))]) zsi)
def zq0:AC:=(rr [jv 20 (.bin .add (.t 11) (jn 1)),jm 11 20])
def zpV:AC:=(.seq (.block 1 (.seq (rr [jv 13 (.idx (.t 9) (.t 11) 1),jl 14 13,jm 8 14]) zs3)) zq0)
def zpL:AC:=(.seq (.cond (.t 12) .skip (.exit 0)) zpV)
def zhK:AC:=(.seq (rr [jv 12 (.bin .lss (.t 11) (.t 10))]) zpL)
def zkY:AC:=(.seq (rr [jv 6 (.mov kt)]) .ret)
def zqh:AC:=(.block 0 (.loop zhK))
def zoU:AC:=(.seq (.seq (rr [jm 9 0,jk 10 9,jv 11 (.mov (jn 0))]) zqh) zkY)
def A50:AC:=(.seq (rr [jv 6 (.mov kf)]) zoU)
def ztJ:List An:=[]
theorem c50:cq Try.prog Try.f50 ztJ=some A50:=by kernel_rfl
structure H50 (D:Den) (σ:Sig) (F:Nat):Prop where
 c48:C48 (D 48) F
 g48:σ 48=some (0,false)
abbrev R50 (r:Bool):(Nat→V)→Prop:=RR Try.prog [.tmp 6] 0 false (Enc.enc (r:Bool))
section
variable {r:Bool}
def vJ (F:Nat) (x2:Int) (x3:Int) (x1:LI) :Nat→Int→Option Bool
 | 0,_=>none
 | k + 1,x6=>
   bif decide (x6 < (x1.length:Int)) then
    (idx x1 x6).bind fun v9=>
    (XA F v9 x2 x3).bind fun r10=>
    bif (!r10) then
     some false
    else
     (vJ F x2 x3 x1 k) (w64 (x6 + 1))
   else
    some true
theorem zhZ (H:H50 D σ F) (x2:Int) (x3:Int) (x1:LI) :∀ (k:Nat) (x6:Int) (s:Nat→V),zu [(1,ji x2),(2,ji x3),(6,jb false),(9,eL x1),(10,ji (x1.length:Int)),(11,ji x6)] s→vJ F x2 x3 x1 k x6=some r→Run D σ (R50 r) (.run zhK [.lp zhK,.bk 0,.sq zkY]) s:=by
 intro k
 induction k with
 | zero=>intro x6 s _ h;exact nm h
 | succ k ih=>
   intro x6 s hs h
   rw [vJ] at h
   obtain ⟨h1,h2,h6,h9,h10,h11⟩:=hs
   refine .seq (rg (g2 11 10 (jb (decide (x6 < (x1.length:Int)))) h11 h10 fun h12=>gq (.nsq (.seq (zp h12 h (fun h=>?_) (fun h=>?_))))))
   · refine .skip (.nsq (.seq (.block (.seq (rg ?_)))))
     obtain ⟨v9,Ev9,h⟩:=zc h
     refine gv (.ref .sh 0 [] (ji v9)) (yV (t:=.sh) (lo:=0) (xs:=x1) h9 h11 Ev9 rfl rfl) fun h13=>g1 13 (ji v9) h13 fun h14=>gm h14 fun h8=>gq (.nsq (.seq (rg (gm h8 fun h15=>gm h1 fun h16=>gm h2 fun h17=>?_))))
     obtain ⟨r10,Er10,h⟩:=zc h
     refine gcF [Enc.enc (v9:Int),Enc.enc (x2:Int),Enc.enc (x3:Int)] (zh h15 rfl rfl (zh h16 rfl rfl (zh h17 rfl rfl zI))) (H.c48 _ _ _ _ Er10) H.g48 (g1 18 (jb (!r10)) (rf (jb r10)) fun h19=>gq (.nsq (zp h19 h (fun h=>?_) (fun h=>?_))))
     · refine .seq (rg (g0 (jb false) fun h6=>gq (.nsq (.ret ?_))))
       obtain rfl:=oi h
       exact rrA (zr h6) rfl
     refine .skip (.nbk (.nsq (rg (g1 11 (ji (w64 (x6 + 1))) h11 fun h20=>gm h20 fun h11=>gq (.nlp ?_)))))
     exact ih (w64 (x6 + 1)) _ ⟨h1,h2,h6,h9,h10,h11⟩ h
   refine .exit (.esq (.elp (.ebk (.nsq (.seq (rg (g0 (jb true) fun h6=>gq (.nsq (.ret ?_)))))))))
   obtain rfl:=oi h
   exact rrA (zr h6) rfl
def Zm (F:Nat) (x1:LI) (x2:Int) (x3:Int):Option Bool:=
 vJ F x2 x3 x1 F 0
theorem t50 (H:H50 D σ F) (x1:LI) (x2:Int) (x3:Int) (s:Nat→V) (hs:zu [(0,eL x1),(1,ji x2),(2,ji x3)] s) (h:Zm F x1 x2 x3=some r):Run D σ (R50 r) (.run A50 []) s:=by
 unfold Zm at h
 obtain ⟨h0,h1,h2⟩:=hs
 refine .seq (rg (g0 (jb false) fun h6=>gq (.nsq (.seq (.seq (rg (gm h0 fun h9=>gl x1 h9 fun h10=>g0 (ji 0) fun h11=>gq (.nsq (.block (.loop ?_))))))))))
 exact zhZ H x2 x3 x1 F 0 _ ⟨h1,h2,h6,h9,h10,h11⟩ h
end
def e50 (F:Nat):Ent:=ent 50 (fun (x:(LI×Int×Int×Unit))=>Zm F x.1 x.2.1 x.2.2.1) (fun (r:Bool)=>(Enc.enc (r:Bool))) 0 false []
abbrev C50 (D:List V→Option V) (F:Nat):Prop:=∀ (x0:LI) (x1:Int) (x2:Int) r,Zm F x0 x1 x2=some r→D [Enc.enc x0,Enc.enc x1,Enc.enc x2]=some (Enc.enc (r:Bool))
theorem p50 {F:Nat}:C50 (e50 F).den F:=fun x0 x1 x2 _ h=>zS (x0,x1,x2,()) h
theorem o50 (hF:zF Try.prog D σ) (H:H50 D σ F):(e50 F).Ok Try.prog:=okZ (f:=50) Try.func50 fun ⟨x0,x1,x2,_⟩ y hy=>cR hF Try.func50 c50 (t50 H x0 x1 x2 _ ⟨rfl,rfl,rfl⟩ hy)
def znT:AC:=(rr [jm 12 3,jm 13 5,jv 14 (.bin .shl (jn 1) (.t 13)),jv 15 (.bin .or (.t 12) (.t 14)),jm 3 15])
def zoQ:AC:=(rr [jv 16 (.bin .add (.t 8) (jn 1)),jm 8 16])
def zqw:AC:=(.seq (.block 1 (.seq (rr [jv 10 (.idx (.t 6) (.t 8) 1),jl 11 10,jm 5 11]) znT)) zoQ)
def zoF:AC:=(.seq (.cond (.t 9) .skip (.exit 0)) zqw)
def zhO:AC:=(.seq (rr [jv 9 (.bin .lss (.t 8) (.t 7))]) zoF)
def zkZ:AC:=(.seq (rr [jm 17 3,jm 2 17]) .ret)
def zrG:AC:=(.block 0 (.loop zhO))
def zqN:AC:=(.seq (.seq (rr [jm 6 0,jk 7 6,jv 8 (.mov (jn 0))]) zrG) zkZ)
def zpo:AC:=(.seq (rr [jv 3 (.mov (jn 0))]) zqN)
def A51:AC:=(.seq (rr [jv 2 (.mov (jn 0))]) zpo)
def zuV:List An:=[]
theorem c51:cq Try.prog Try.f51 zuV=some A51:=by kernel_rfl
structure H51 (D:Den) (σ:Sig) (F:Nat):Prop where
 mk ::
abbrev R51 (r:Int):(Nat→V)→Prop:=RR Try.prog [.tmp 2] 0 false (Enc.enc (r:Int))
section
variable {r:Int}
def uF (F:Nat) (x1:LI) :Nat→Int→Int→Option Int
 | 0,_,_=>none
 | k + 1,x4,x5=>
   bif decide (x5 < (x1.length:Int)) then
    (idx x1 x5).bind fun v8=>
    (WZ .i64 1 v8).bind fun q9=>
    (uF F x1 k) (ior .i64 x4 q9) (w64 (x5 + 1))
   else
    some x4
theorem ziJ (H:H51 D σ F) (x1:LI) :∀ (k:Nat) (x4:Int) (x5:Int) (s:Nat→V),zu [(2,ji 0),(3,ji x4),(6,eL x1),(7,ji (x1.length:Int)),(8,ji x5)] s→uF F x1 k x4 x5=some r→Run D σ (R51 r) (.run zhO [.lp zhO,.bk 0,.sq zkZ]) s:=by
 intro k
 induction k with
 | zero=>intro x4 x5 s _ h;exact nm h
 | succ k ih=>
   intro x4 x5 s hs h
   rw [uF] at h
   obtain ⟨h2,h3,h6,h7,h8⟩:=hs
   refine .seq (rg (g2 8 7 (jb (decide (x5 < (x1.length:Int)))) h8 h7 fun h9=>gq (.nsq (.seq (zp h9 h (fun h=>?_) (fun h=>?_))))))
   · refine .skip (.nsq (.seq (.block (.seq (rg ?_)))))
     obtain ⟨v8,Ev8,h⟩:=zc h
     refine gv (.ref .sh 0 [] (ji v8)) (yV (t:=.sh) (lo:=0) (xs:=x1) h6 h8 Ev8 rfl rfl) fun h10=>g1 10 (ji v8) h10 fun h11=>gm h11 fun h5=>gq (.nsq (rg (gm h3 fun h12=>gm h5 fun h13=>?_)))
     obtain ⟨q9,Eq9,h⟩:=zc h
     refine gv (ji q9) (YF rfl h13 Eq9) fun h14=>g2 12 14 (ji (ior .i64 x4 q9)) h12 h14 fun h15=>gm h15 fun h3=>gq (.nbk (.nsq (rg (g1 8 (ji (w64 (x5 + 1))) h8 fun h16=>gm h16 fun h8=>gq (.nlp ?_)))))
     exact ih (ior .i64 x4 q9) (w64 (x5 + 1)) _ ⟨h2,h3,h6,h7,h8⟩ h
   refine .exit (.esq (.elp (.ebk (.nsq (.seq (rg (gm h3 fun h17=>gm h17 fun h2=>gq (.nsq (.ret ?_)))))))))
   obtain rfl:=oi h
   exact rrA (zr h2) rfl
def WE (F:Nat) (x1:LI):Option Int:=
 uF F x1 F 0 0
theorem t51 (H:H51 D σ F) (x1:LI) (s:Nat→V) (hs:zu [(0,eL x1)] s) (h:WE F x1=some r):Run D σ (R51 r) (.run A51 []) s:=by
 unfold WE at h
 have h0:=hs
 refine .seq (rg (g0 (ji 0) fun h2=>gq (.nsq (.seq (rg (g0 (ji 0) fun h3=>gq (.nsq (.seq (.seq (rg (gm h0 fun h6=>gl x1 h6 fun h7=>g0 (ji 0) fun h8=>gq (.nsq (.block (.loop ?_))))))))))))))
 exact ziJ H x1 F 0 0 _ ⟨h2,h3,h6,h7,h8⟩ h
end
def e51 (F:Nat):Ent:=ent 51 (fun (x:(LI×Unit))=>WE F x.1) (fun (r:Int)=>(Enc.enc (r:Int))) 0 false []
abbrev C51 (D:List V→Option V) (F:Nat):Prop:=∀ (x0:LI) r,WE F x0=some r→D [Enc.enc x0]=some (Enc.enc (r:Int))
theorem p51 {F:Nat}:C51 (e51 F).den F:=fun x0 _ h=>zS (x0,()) h
theorem o51 (hF:zF Try.prog D σ) (H:H51 D σ F):(e51 F).Ok Try.prog:=okZ (f:=51) Try.func51 fun ⟨x0,_⟩ y hy=>cR hF Try.func51 c51 (t51 H x0 _ rfl hy)
def zr6:AC:=(.seq (rr [jm 5 1,jk 6 5,jv 7 (.fld (.t 2) 0 0),jl 8 7,jv 9 (.bin .eql (.t 6) (.t 8)),jm 10 9,jg 11 10 true (.mov (.t 1)),jg 12 10 true (.fld (.t 2) 0 0),jg 13 10 true (.load .s (.t 12)),jg 14 10 true (.bin .sub (.t 13) (jn 1)),.mk (some 15) (some (10,true)) false (.call (jf 50) [.t 11,jn 0,.t 14]),jv 16 (.pick (.t 10) (.t 15) kf),jm 17 16,jg 18 17 true (.mov (.t 1)),.mk (some 19) (some (17,true)) false (.call (jf 51) [.t 18]),jg 20 17 true (.fld (.t 2) 0 0),jg 21 17 true (.load .s (.t 20)),jg 22 17 true (.bin .shl (jn 1) (.t 21)),jg 23 17 true (.bin .sub (.t 22) (jn 1)),jg 24 17 true (.bin .eql (.t 19) (.t 23)),jv 25 (.pick (.t 17) (.t 24) kf),jm 4 25]) .ret)
def A22:AC:=(.seq (.reg [.clr [2]] [jx 2 (.box (.t 0)),jv 4 (.mov kf)] []) zr6)
def zt5:List An:=[⟨0,[.clr [2]],[],[],[]⟩]
theorem c22:cq Try.prog Try.f22 zt5=some A22:=by kernel_rfl
structure H22 (D:Den) (σ:Sig) (F:Nat):Prop where
 c50:C50 (D 50) F
 g50:σ 50=some (0,false)
 c51:C51 (D 51) F
 g51:σ 51=some (0,false)
abbrev R22 (r:Bool):(Nat→V)→Prop:=RR Try.prog [.tmp 4] 0 false (Enc.enc (r:Bool))
section
variable {r:Bool}
def Zw (F:Nat) (x1:GR) (x2:LI):Option Bool:=
 bif ((x2.length:Int) == x1.1) then
  (Zm F x2 0 (w64 (x1.1 - 1))).bind fun r3=>
  bif r3 then
   (WE F x2).bind fun r4=>
   (WZ .i64 1 x1.1).bind fun q5=>
   some (r4 == (w64 (q5 - 1)))
  else
   some false
 else
  some false
theorem t22 (H:H22 D σ F) (x1:GR) (x2:LI) (s:Nat→V) (hs:zu [(0,gV x1),(1,eL x2)] s) (h:Zw F x1 x2=some r):Run D σ (R22 r) (.run A22 []) s:=by
 unfold Zw at h
 obtain ⟨h0,h1⟩:=hs
 refine .seq (zA (zZ ?_))
 refine ez [(0,_),(1,_),(2,_)] ⟨za h0 rfl mIE,za h1 rfl me,ze rfl⟩ ?_
 rintro s ⟨h0,h1,h2⟩
 refine xU (gV x1) (zx h0 rfl) h2 rfl (g0 (jb false) fun h4=>gq (.nsq (.seq (rg (gm h1 fun h5=>gl x2 h5 fun h6=>g1 2 (.ref (.bx 2) 0 [0] (ji x1.1)) (rf (bG 2 x1)) fun h7=>g1 7 (ji x1.1) h7 fun h8=>g2 6 8 (jb ((x2.length:Int) == x1.1)) h6 h8 fun h9=>gm h9 fun h10=>yj h (fun hg6 h=>?_) (fun hg6 h=>?_))))))
 · refine zt (ct h10 hg6) (gm h1 fun h11=>zt (ct h10 hg6) (g1 2 (.ref (.bx 2) 0 [0] (ji x1.1)) (rf (bG 2 x1)) fun h12=>zt (ct h10 hg6) (g1 12 (ji x1.1) h12 fun h13=>zt (ct h10 hg6) (g1 13 (ji (w64 (x1.1 - 1))) h13 fun h14=>?_))))
   obtain ⟨r3,Er3,h⟩:=zc h
   refine zt (ct h10 hg6) (gcF [eL x2,Enc.enc (0:Int),Enc.enc (w64 (x1.1 - 1):Int)] (zh h11 rfl (Enc.erase_enc (x2:LI)) (zh (v:=ji 0) rfl rfl rfl (zh h14 rfl rfl zI))) (H.c50 _ _ _ _ Er3) H.g50 (g2 10 15 (jb r3) (ct h10 hg6) (rf (jb r3)) fun h16=>gm h16 fun h17=>yj h (fun hg13 h=>?_) (fun hg13 h=>?_)))
   · refine zt (ct h17 hg13) (gm h1 fun h18=>?_)
     obtain ⟨r4,Er4,h⟩:=zc h
     refine zt (ct h17 hg13) (gcF [eL x2] (zh h18 rfl (Enc.erase_enc (x2:LI)) zI) (H.c51 _ _ Er4) H.g51 (zt (ct h17 hg13) (g1 2 (.ref (.bx 2) 0 [0] (ji x1.1)) (rf (bG 2 x1)) fun h20=>zt (ct h17 hg13) (g1 20 (ji x1.1) h20 fun h21=>?_))))
     obtain ⟨q5,Eq5,h⟩:=zc h
     refine zt (ct h17 hg13) (gv (ji q5) (YF rfl h21 Eq5) fun h22=>zt (ct h17 hg13) (g1 22 (ji (w64 (q5 - 1))) h22 fun h23=>zt (ct h17 hg13) (g2 19 23 (jb (r4 == (w64 (q5 - 1)))) (rf (ji r4)) h23 fun h24=>g2 17 24 (jb (r4 == (w64 (q5 - 1)))) (ct h17 hg13) h24 fun h25=>gm h25 fun h4=>gq (.nsq (.ret ?_)))))
     obtain rfl:=oi h
     exact rrA (zr h4) rfl
   iterate 7 refine yY (ct h17 hg13) ?_
   refine g2 17 24 (jb false) (ct h17 hg13) (rf (.tup [])) fun h25=>gm h25 fun h4=>gq (.nsq (.ret ?_))
   obtain rfl:=oi h
   exact rrA (zr h4) rfl
 iterate 5 refine yY (ct h10 hg6) ?_
 refine g2 10 15 (jb false) (ct h10 hg6) (rf (.tup [])) fun h16=>gm h16 fun h17=>yY h17 ?_
 iterate 6 refine yY h17 ?_
 refine g2 17 24 (jb false) h17 (rf (.tup [])) fun h25=>gm h25 fun h4=>gq (.nsq (.ret ?_))
 obtain rfl:=oi h
 exact rrA (zr h4) rfl
end
def e22 (F:Nat):Ent:=ent 22 (fun (x:(GR×LI×Unit))=>Zw F x.1 x.2.1) (fun (r:Bool)=>(Enc.enc (r:Bool))) 0 false []
abbrev C22 (D:List V→Option V) (F:Nat):Prop:=∀ (x0:GR) (x1:LI) r,Zw F x0 x1=some r→D [Enc.enc x0,Enc.enc x1]=some (Enc.enc (r:Bool))
theorem p22 {F:Nat}:C22 (e22 F).den F:=fun x0 x1 _ h=>zS (x0,x1,()) h
theorem o22 (hF:zF Try.prog D σ) (H:H22 D σ F):(e22 F).Ok Try.prog:=okZ (f:=22) Try.func22 fun ⟨x0,x1,_⟩ y hy=>cR hF Try.func22 c22 (t22 H x0 x1 _ ⟨rfl,rfl⟩ hy)
def zoP:AC:=(rr [jv 28 (.fld (.t 3) 0 0),jv 29 (.load .p (.t 28)),jv 30 (.idxA (.t 5) (jn 1) 2 1),jl 31 30,jv 32 (.idx (.t 29) (.t 31) 1),jl 33 32,jv 34 (.idxA (.t 5) (jn 0) 2 1),jl 35 34,jv 36 (.bin .shl (jn 1) (.t 35)),jv 37 (.bin .or (.t 33) (.t 36)),jv 38 (.idx (.t 29) (.t 31) 1),jz (.store .s (.t 38) (.t 37))])
def zsn:AC:=(.seq (rr [jv 17 (.fld (.t 3) 0 0),jv 18 (.load .p (.t 17)),jv 19 (.idxA (.t 5) (jn 0) 2 1),jl 20 19,jv 21 (.idx (.t 18) (.t 20) 1),jl 22 21,jv 23 (.idxA (.t 5) (jn 1) 2 1),jl 24 23,jv 25 (.bin .shl (jn 1) (.t 24)),jv 26 (.bin .or (.t 22) (.t 25)),jv 27 (.idx (.t 18) (.t 20) 1),jz (.store .s (.t 27) (.t 26))]) zoP)
def zoq:AC:=(rr [jv 39 (.bin .add (.t 13) (jn 1)),jm 13 39])
def zo8:AC:=(.seq (.block 1 (.seq (.reg [.clr [5]] [jv 15 (.idx (.t 11) (.t 13) 2),jv 16 (.load (.ag [.s,.s]) (.t 15)),jx 5 (.alloc (.agg [i0,i0])),jz (.store (.ag [.s,.s]) (.t 5) (.t 16))] []) zsn)) zoq)
def zs2:AC:=(.seq (.cond (.t 14) .skip (.exit 0)) zo8)
def ziG:AC:=(.seq (rr [jv 14 (.bin .lss (.t 13) (.t 12))]) zs2)
def zk9:AC:=(.seq (rr [jv 40 (.load (.ag [.p]) (.t 3)),jz (.store (.ag [.p]) (.t 2) (.t 40))]) .ret)
def zmE:AC:=(.block 0 (.loop ziG))
def zqu:AC:=(.seq (.seq (rr [jv 10 (.fld (.t 1) 1 1),jv 11 (.load .p (.t 10)),jk 12 11,jv 13 (.mov (jn 0))]) zmE) zk9)
def zoo:AC:=(.seq (.reg [.clr [8,3]] [jv 6 (.fld (.t 1) 0 0),jl 7 6,jx 8 (.mk (.t 7) i0 i0),jv 9 (.bld (.agg [.sl .nl .s 0 []]) [(0,0,.t 8)]),jx 3 (.alloc (.agg [.sl .nl .s 0 []])),jz (.store (.ag [.p]) (.t 3) (.t 9))] []) zqu)
def A23:AC:=(.seq (.reg [.clr [1,2]] [jx 1 (.box (.t 0)),jx 2 (.alloc (.agg [.sl .nl .s 0 []]))] []) zoo)
def zuT:List An:=[⟨0,[.clr [1,2]],[],[],[]⟩,⟨1,[.clr [8,3]],[],[],[]⟩,⟨4,[.clr [5]],[],[],[]⟩]
theorem c23:cq Try.prog Try.f23 zuT=some A23:=by kernel_rfl
structure H23 (D:Den) (σ:Sig) (F:Nat):Prop where
 mk ::
abbrev R23 (r:(S1 LI)):(Nat→V)→Prop:=RR Try.prog [.cell 2 52] 0 false (Enc.enc (r:(S1 LI)))
section
variable {r:(S1 LI)}
def Z9 (F:Nat) (x1:GR) :Nat→LI→Int→Option (S1 LI)
 | 0,_,_=>none
 | k + 1,x10,x11=>
   bif decide (x11 < (x1.2.length:Int)) then
    (idx x1.2 x11).bind fun v19=>
    (idx x10 v19.1).bind fun v20=>
    (WZ .i64 1 v19.2).bind fun q21=>
    (idx x10 v19.1).bind fun v22=>
    (idx (x10.set v19.1.toNat (ior .i64 v20 q21)) v19.2).bind fun v23=>
    (WZ .i64 1 v19.1).bind fun q24=>
    (idx (x10.set v19.1.toNat (ior .i64 v20 q21)) v19.2).bind fun v25=>
    (Z9 F x1 k) ((x10.set v19.1.toNat (ior .i64 v20 q21)).set v19.2.toNat (ior .i64 v23 q24)) (w64 (x11 + 1))
   else
    some (S1.mk x10)
theorem zjf (H:H23 D σ F) (x1:GR) :∀ (k:Nat) (x10:LI) (x11:Int) (s:Nat→V),zu [(2,.ref (.bx 2) 0 [] (.agg [nI])),(3,.ref (.bx 3) 0 [] (.agg [oI 8 [] (.of x10)])),(11,eP x1.2),(12,ji (x1.2.length:Int)),(13,ji x11)] s→Z9 F x1 k x10 x11=some r→Run D σ (R23 r) (.run ziG [.lp ziG,.bk 0,.sq zk9]) s:=by
 intro k
 induction k with
 | zero=>intro x10 x11 s _ h;exact nm h
 | succ k ih=>
   intro x10 x11 s hs h
   rw [Z9] at h
   obtain ⟨h2,h3,h11,h12,h13⟩:=hs
   refine .seq (rg (g2 13 12 (jb (decide (x11 < (x1.2.length:Int)))) h13 h12 fun h14=>gq (.nsq (.seq (zp h14 h (fun h=>?_) (fun h=>?_))))))
   · refine .skip (.nsq (.seq (.block (.seq (zA (zZ ?_))))))
     refine ez [(2,_),(3,_),(5,_),(11,_),(12,_),(13,_)] ⟨za h2 rfl (zi rfl (zH (zf rfl zn))),za h3 rfl (zi rfl (zH (zf (zo (r:=8) (p:=[]) rfl rfl) zn))),ze rfl,za h11 rfl me,za h12 rfl mi,za h13 rfl mi⟩ ?_
     rintro s ⟨h2,h3,h5,h11,h12,h13⟩
     obtain ⟨v19,Ev19,h⟩:=zc h
     refine gv (.ref .sh 0 [] (.agg [ji v19.1,ji v19.2])) (yV (t:=.sh) (lo:=0) (xs:=x1.2) h11 h13 Ev19 rfl rfl) fun h15=>g1 15 (.agg [ji v19.1,ji v19.2]) h15 fun h16=>yR h5 (z5 (.agg [ji v19.1,ji v19.2]) (zx rfl rfl) (zx h16 rfl) (xE (by first | rfl | simp [V.toks,V.tokss,Enc.toks_enc,zX])) ?_)
     refine gz [(2,.ref (.bx 2) 0 [] (.agg [nI])),(3,.ref (.bx 3) 0 [] (.agg [oI 8 [] (.of x10)])),(5,.ref (.bx 5) 0 [] (.agg [ji v19.1,ji v19.2])),(11,eP x1.2),(12,ji (x1.2.length:Int)),(13,ji x11)] ⟨zd h2 (zy rfl rfl (yx (zq rfl rfl))),zd h3 (zy rfl rfl (yx (zq (wS rfl rfl) rfl))),zd rfl rfl,zd h11 uE,zd h12 rfl,zd h13 rfl⟩ ?_
     rintro s ⟨h2,h3,h5,h11,h12,h13⟩
     refine .nsq (.seq (rg (g1 3 (.ref (.bx 3) 0 [0] (oI 8 [] (.of x10))) h3 fun h17=>g1 17 (oI 8 [] (.of x10)) h17 fun h18=>g1 5 (.ref (.bx 5) 0 [0] (ji v19.1)) h5 fun h19=>g1 19 (ji v19.1) h19 fun h20=>?_)))
     obtain ⟨v20,Ev20,h⟩:=zc h
     refine gv (.ref (.at 8 []) v19.1.toNat [] (ji v20)) (vZ (o:=.of x10) h18 h20 Ev20 rfl) fun h21=>g1 21 (ji v20) h21 fun h22=>g1 5 (.ref (.bx 5) 0 [1] (ji v19.2)) h5 fun h23=>g1 23 (ji v19.2) h23 fun h24=>?_
     obtain ⟨q21,Eq21,h⟩:=zc h
     refine gv (ji q21) (YF rfl h24 Eq21) fun h25=>g2 22 25 (ji (ior .i64 v20 q21)) h22 h25 fun h26=>?_
     obtain ⟨v22,Ev22,h⟩:=zc h
     refine gv (.ref (.at 8 []) v19.1.toNat [] (ji v22)) (vZ (o:=.of x10) h18 h20 Ev22 rfl) fun h27=>z5 (ji (ior .i64 v20 q21)) (zx h27 rfl) (zx h26 rfl) (xE (by first | rfl | simp [V.toks,V.tokss,Enc.toks_enc,zX])) (gz [(2,.ref (.bx 2) 0 [] (.agg [nI])),(3,.ref (.bx 3) 0 [] (.agg [oI 8 [] (.of (x10.set v19.1.toNat (ior .i64 v20 q21)))])),(5,.ref (.bx 5) 0 [] (.agg [ji v19.1,ji v19.2])),(11,eP x1.2),(12,ji (x1.2.length:Int)),(13,ji x11)] ⟨zd h2 (zy rfl rfl (yx (zq rfl rfl))),zd h3 (zy rfl rfl (yx (zq Kb rfl))),zd h5 rfl,zd h11 uE,zd h12 rfl,zd h13 rfl⟩ ?_)
     rintro s ⟨h2,h3,h5,h11,h12,h13⟩
     refine .nsq (rg (g1 3 (.ref (.bx 3) 0 [0] (oI 8 [] (.of (x10.set v19.1.toNat (ior .i64 v20 q21))))) h3 fun h28=>g1 28 (oI 8 [] (.of (x10.set v19.1.toNat (ior .i64 v20 q21)))) h28 fun h29=>g1 5 (.ref (.bx 5) 0 [1] (ji v19.2)) h5 fun h30=>g1 30 (ji v19.2) h30 fun h31=>?_))
     obtain ⟨v23,Ev23,h⟩:=zc h
     refine gv (.ref (.at 8 []) v19.2.toNat [] (ji v23)) (vZ (o:=.of (x10.set v19.1.toNat (ior .i64 v20 q21))) h29 h31 Ev23 rfl) fun h32=>g1 32 (ji v23) h32 fun h33=>g1 5 (.ref (.bx 5) 0 [0] (ji v19.1)) h5 fun h34=>g1 34 (ji v19.1) h34 fun h35=>?_
     obtain ⟨q24,Eq24,h⟩:=zc h
     refine gv (ji q24) (YF rfl h35 Eq24) fun h36=>g2 33 36 (ji (ior .i64 v23 q24)) h33 h36 fun h37=>?_
     obtain ⟨v25,Ev25,h⟩:=zc h
     refine gv (.ref (.at 8 []) v19.2.toNat [] (ji v25)) (vZ (o:=.of (x10.set v19.1.toNat (ior .i64 v20 q21))) h29 h31 Ev25 rfl) fun h38=>z5 (ji (ior .i64 v23 q24)) (zx h38 rfl) (zx h37 rfl) (xE (by first | rfl | simp [V.toks,V.tokss,Enc.toks_enc,zX])) ?_
     refine gz [(2,.ref (.bx 2) 0 [] (.agg [nI])),(3,.ref (.bx 3) 0 [] (.agg [oI 8 [] (.of ((x10.set v19.1.toNat (ior .i64 v20 q21)).set v19.2.toNat (ior .i64 v23 q24)))])),(11,eP x1.2),(12,ji (x1.2.length:Int)),(13,ji x11)] ⟨zd h2 (zy rfl rfl (yx (zq rfl rfl))),zd h3 (zy rfl rfl (yx (zq Kb rfl))),zd h11 uE,zd h12 rfl,zd h13 rfl⟩ ?_
     rintro s ⟨h2,h3,h11,h12,h13⟩
     refine .nbk (.nsq (rg (g1 13 (ji (w64 (x11 + 1))) h13 fun h39=>gm h39 fun h13=>gq (.nlp ?_))))
     exact ih ((x10.set v19.1.toNat (ior .i64 v20 q21)).set v19.2.toNat (ior .i64 v23 q24)) (w64 (x11 + 1)) _ ⟨h2,h3,h11,h12,h13⟩ h
   refine .exit (.esq (.elp (.ebk (.nsq (.seq (rg (g1 3 (.agg [oI 8 [] (.of x10)]) h3 fun h40=>z5 (.agg [oI 8 [] (.of x10)]) (zx h2 rfl) (zx h40 rfl) (xE (by first | rfl | simp [V.toks,V.tokss,Enc.toks_enc,zX])) (gz [(2,.ref (.bx 2) 0 [] (.agg [oI 8 [] (.of x10)]))] (zd h2 rfl) ?_))))))))
   rintro s h2
   refine .nsq (.ret ?_)
   obtain rfl:=oi h
   exact rrA (xO h2 (by kernel_rfl)) (wP (JS (yp (vk (o:=.of x10)) wG)) (XG (yz (xI rfl) wI)))
def ZO (F:Nat) (x1:GR):Option (S1 LI):=
 (mkN x1.1 (0:Int)).bind fun mk2=>
 Z9 F x1 F mk2 0
theorem t23 (H:H23 D σ F) (x1:GR) (s:Nat→V) (hs:zu [(0,gV x1)] s) (h:ZO F x1=some r):Run D σ (R23 r) (.run A23 []) s:=by
 unfold ZO at h
 have h0:=hs
 refine .seq (zA (zZ ?_))
 refine ez [(0,_),(1,_),(2,_)] ⟨za h0 rfl mIE,ze rfl,ze rfl⟩ ?_
 rintro s ⟨h0,h1,h2⟩
 refine xU (gV x1) (zx h0 rfl) h1 rfl (yR h2 (gq (.nsq (.seq (zA (zZ ?_))))))
 refine ez [(1,_),(2,_),(3,_),(8,_)] ⟨za rfl rfl (zi rfl mIE),za rfl rfl (zi rfl (zH (zf rfl zn))),ze rfl,ze rfl⟩ ?_
 rintro s ⟨h1,h2,h3,h8⟩
 refine g1 1 (.ref (.bx 1) 0 [0] (ji x1.1)) h1 fun h6=>g1 6 (ji x1.1) h6 fun h7=>?_
 obtain ⟨mk2,Emk2,h⟩:=zc h
 refine zph (0:Int) h7 rfl h8 Emk2 (g1 8 (.agg [oI 8 [] (.of mk2)]) (rf (oI 8 [] (.of mk2))) fun h9=>yR h3 (z5 (.agg [oI 8 [] (.of mk2)]) (zx rfl rfl) (zx h9 rfl) (xE (by first | rfl | simp [V.toks,V.tokss,Enc.toks_enc,zX])) (gz [(1,bG 1 x1),(2,.ref (.bx 2) 0 [] (.agg [nI])),(3,.ref (.bx 3) 0 [] (.agg [oI 8 [] (.of mk2)]))] ⟨zd h1 (zy rfl rfl uIE),zd h2 (zy rfl rfl (yx (zq rfl rfl))),zd rfl rfl⟩ ?_)))
 rintro s ⟨h1,h2,h3⟩
 refine .nsq (.seq (.seq (rg (g1 1 (.ref (.bx 1) 0 [1] (eP x1.2)) h1 fun h10=>g1 10 (eP x1.2) h10 fun h11=>gl x1.2 h11 fun h12=>g0 (ji 0) fun h13=>gq (.nsq (.block (.loop ?_)))))))
 exact zjf H x1 F mk2 0 _ ⟨h2,h3,h11,h12,h13⟩ h
end
def e23 (F:Nat):Ent:=ent 23 (fun (x:(GR×Unit))=>ZO F x.1) (fun (r:(S1 LI))=>(Enc.enc (r:(S1 LI)))) 0 false []
abbrev C23 (D:List V→Option V) (F:Nat):Prop:=∀ (x0:GR) r,ZO F x0=some r→D [Enc.enc x0]=some (Enc.enc (r:(S1 LI)))
theorem p23 {F:Nat}:C23 (e23 F).den F:=fun x0 _ h=>zS (x0,()) h
theorem o23 (hF:zF Try.prog D σ) (H:H23 D σ F):(e23 F).Ok Try.prog:=okZ (f:=23) Try.func23 fun ⟨x0,_⟩ y hy=>cR hF Try.func23 c23 (t23 H x0 _ rfl hy)
def zpA:AC:=(.seq (rr [jv 3 (.fld (.t 1) 0 0),jv 4 (.load .p (.t 3)),jk 5 4,jv 6 (.bin .shl (jn 1) (.t 5)),jv 7 (.bin .sub (.t 6) (jn 1)),jm 2 7]) .ret)
def A32:AC:=(.seq (.reg [.clr [1]] [jx 1 (.box (.t 0)),jv 2 (.mov (jn 0))] []) zpA)
def ztk:List An:=[⟨0,[.clr [1]],[],[],[]⟩]
theorem c32:cq Try.prog Try.f32 ztk=some A32:=by kernel_rfl
structure H32 (D:Den) (σ:Sig) (F:Nat):Prop where
 mk ::
abbrev R32 (r:Int):(Nat→V)→Prop:=RR Try.prog [.tmp 2] 0 false (Enc.enc (r:Int))
section
variable {r:Int}
def xr (F:Nat) (x1:(S1 LI)):Option Int:=
 (WZ .i64 1 (x1.a.length:Int)).bind fun q2=>
 some (w64 (q2 - 1))
theorem t32 (H:H32 D σ F) (x1:(S1 LI)) (s:Nat→V) (hs:zu [(0,.agg [eL x1.a])] s) (h:xr F x1=some r):Run D σ (R32 r) (.run A32 []) s:=by
 unfold xr at h
 have h0:=hs
 refine .seq (zA (zZ ?_))
 refine ez [(0,_),(1,_)] ⟨za h0 rfl (zH (zf me zn)),ze rfl⟩ ?_
 rintro s ⟨h0,h1⟩
 refine xU (.agg [eL x1.a]) (zx h0 rfl) h1 rfl (g0 (ji 0) fun h2=>gq (.nsq (.seq (rg (g1 1 (.ref (.bx 1) 0 [0] (eL x1.a)) (rf (.ref (.bx 1) 0 [] (.agg [eL x1.a]))) fun h3=>g1 3 (eL x1.a) h3 fun h4=>gl x1.a h4 fun h5=>?_)))))
 obtain ⟨q2,Eq2,h⟩:=zc h
 refine gv (ji q2) (YF rfl h5 Eq2) fun h6=>g1 6 (ji (w64 (q2 - 1))) h6 fun h7=>gm h7 fun h2=>gq (.nsq (.ret ?_))
 obtain rfl:=oi h
 exact rrA (zr h2) rfl
end
def e32 (F:Nat):Ent:=ent 32 (fun (x:((S1 LI)×Unit))=>xr F x.1) (fun (r:Int)=>(Enc.enc (r:Int))) 0 false []
abbrev C32 (D:List V→Option V) (F:Nat):Prop:=∀ (x0:(S1 LI)) r,xr F x0=some r→D [Enc.enc x0]=some (Enc.enc (r:Int))
theorem p32 {F:Nat}:C32 (e32 F).den F:=fun x0 _ h=>zS (x0,()) h
theorem o32 (hF:zF Try.prog D σ) (H:H32 D σ F):(e32 F).Ok Try.prog:=okZ (f:=32) Try.func32 fun ⟨x0,_⟩ y hy=>cR hF Try.func32 c32 (t32 H x0 _ rfl hy)
def zn1:AC:=(.cond (.t 8) .skip (.exit 0))
def zsA:AC:=(.cond (.t 15) (.reg [.clr [18,19]] [jm 16 3,jm 17 4,jx 18 (.lit i0 1 [(0,0,.t 17)]),jx 19 (.app .s (.t 16) (.t 18)),jm 3 19] [.home 19 3]) .skip)
def zk4:AC:=(rr [jm 9 4,jv 10 (.bin .add (.t 9) (jn 1)),jm 4 10])
def zp3:AC:=(.seq (.block 1 (.seq (rr [jm 11 0,jm 12 4,jv 13 (.bin .shr (.t 11) (.t 12)),jv 14 (.bin .and (.t 13) (jn 1)),jv 15 (.bin .eql (.t 14) (jn 1))]) zsA)) zk4)
def NV:AC:=(.seq (.seq (rr [jm 5 0,jm 6 4,jv 7 (.bin .shr (.t 5) (.t 6)),jv 8 (.bin .neq (.t 7) (jn 0))]) zn1) zp3)
def ze9:AC:=(.seq (.reg [] [jm 20 3,jm 2 20] [.home 3 2]) .ret)
def zoB:AC:=(.block 0 (.loop NV))
def zr2:AC:=(.seq (.seq (rr [jv 4 (.mov (jn 0))]) zoB) ze9)
def zpH:AC:=(.seq (rr [jv 3 (.mov (.k (.sl .nl .s 0 [])))]) zr2)
def A34:AC:=(.seq (rr [jv 2 (.mov (.k (.sl .nl .s 0 [])))]) zpH)
def ztU:List An:=[⟨6,[.clr [18,19]],[],[],[.home 19 3]⟩,⟨7,[],[],[],[.home 3 2]⟩]
theorem c34:cq Try.prog Try.f34 ztU=some A34:=by kernel_rfl
structure H34 (D:Den) (σ:Sig) (F:Nat):Prop where
 mk ::
abbrev R34 (r:LI):(Nat→V)→Prop:=RR Try.prog [.tmp 2] 0 false (eL r)
section
variable {r:LI}
def Y2 (F:Nat) (x1:Int) (x8:Int) (c1:(NL Int)→Int→Option LI) (x17:(NL Int)):Option LI:=
 c1 x17 (w64 (x8 + 1))
theorem zch (H:H34 D σ F) (x1:Int) (x8:Int) (c1:(NL Int)→Int→Option LI) (Hc1:∀ (x7:(NL Int)) (x8:Int) (s:Nat→V),zu [(0,ji x1),(2,nI),(3,oI 3 [] x7),(4,ji x8)] s→c1 x7 x8=some r→Run D σ (R34 r) (.run NV [.lp NV,.bk 0,.sq ze9]) s) (x17:(NL Int)) (s:Nat→V) (hs:zu [(0,ji x1),(2,nI),(3,oI 3 [] x17),(4,ji x8)] s) (h:Y2 F x1 x8 c1 x17=some r):Run D σ (R34 r) (.nrm [.bk 1,.sq zk4,.lp NV,.bk 0,.sq ze9]) s:=by
 unfold Y2 at h
 obtain ⟨h0,h2,h3,h4⟩:=hs
 refine .nbk (.nsq (rg (gm h4 fun h9=>g1 9 (ji (w64 (x8 + 1))) h9 fun h10=>gm h10 fun h4=>gq (.nlp ?_))))
 exact Hc1 x17 (w64 (x8 + 1)) _ ⟨h0,h2,h3,h4⟩ h
def vl (F:Nat) (x1:Int) :Nat→(NL Int)→Int→Option LI
 | 0,_,_=>none
 | k + 1,x7,x8=>
   (Uq .i64 x1 x8).bind fun q14=>
   bif (q14 != 0) then
    (Uq .i64 x1 x8).bind fun q15=>
    bif ((yu .i64 q15 1) == 1) then
     (vL x7.list [x8]).bind fun ap18=>
     Y2 F x1 x8 (vl F x1 k) (.of ap18)
    else
     Y2 F x1 x8 (vl F x1 k) x7
   else
    some x7.list
theorem zi6 (H:H34 D σ F) (x1:Int) :∀ (k:Nat) (x7:(NL Int)) (x8:Int) (s:Nat→V),zu [(0,ji x1),(2,nI),(3,oI 3 [] x7),(4,ji x8)] s→vl F x1 k x7 x8=some r→Run D σ (R34 r) (.run NV [.lp NV,.bk 0,.sq ze9]) s:=by
 intro k
 induction k with
 | zero=>intro x7 x8 s _ h;exact nm h
 | succ k ih=>
   intro x7 x8 s hs h
   rw [vl] at h
   obtain ⟨h0,h2,h3,h4⟩:=hs
   refine .seq (.seq (rg (gm h0 fun h5=>gm h4 fun h6=>?_)))
   obtain ⟨q14,Eq14,h⟩:=zc h
   refine gv (ji q14) (Xc h5 h6 Eq14) fun h7=>g1 7 (jb (q14 != 0)) h7 fun h8=>gq (.nsq (zp h8 h (fun h=>?_) (fun h=>?_)))
   · refine .skip (.nsq (.seq (.block (.seq (rg (gm h0 fun h11=>gm h4 fun h12=>?_))))))
     obtain ⟨q15,Eq15,h⟩:=zc h
     refine gv (ji q15) (Xc h11 h12 Eq15) fun h13=>g1 13 (ji (yu .i64 q15 1)) h13 fun h14=>g1 14 (jb ((yu .i64 q15 1) == 1)) h14 fun h15=>gq (.nsq (zp h15 h (fun h=>?_) (fun h=>?_)))
     · refine zA (zZ ?_)
       refine ez [(0,_),(2,_),(3,_),(4,_),(18,_),(19,_)] ⟨za h0 rfl mi,za h2 rfl rfl,za h3 rfl (zo (r:=3) (p:=[]) rfl rfl),za h4 rfl mi,ze rfl,ze rfl⟩ ?_
       rintro s ⟨h0,h2,h3,h4,h18,h19⟩
       refine gv (oI 3 [] x7) (xQ h3 yG) fun h16=>gm h4 fun h17=>wA [(17,ji x8)] [Enc.enc (x8:Int)] h17 rfl rfl h18 ?_
       obtain ⟨ap18,Eap18,h⟩:=zc h
       refine XQ (q:=3) (p:=[]) (o:=(x7:NL Int)) (ys:=([x8]:LI)) (t2:=.at 18 []) (lo2:=0) h16 rfl rfl h19 (ZT (o:=(x7:NL Int)) Eap18 (by split <;> simp)) (fun s17 ha17=>gm (rf (oI 19 [] (.of ap18))) fun h3=>xo (y0 (r:=19) (x:=3) (v:=_) h3 rfl (fun s18 hz18=>?_)))
       refine ez [(0,ji x1),(2,nI),(3,oI 3 [] (.of ap18)),(4,ji x8)] ⟨hz18 0 _ _ (show s17 0=(ji x1) from zR ha17 h0 mi) mi,hz18 2 _ nI (show s17 2=nI from zR ha17 h2 rfl) rfl,hz18 3 _ _ h3 (zo (r:=19) (p:=[]) rfl rfl),hz18 4 _ _ (show s17 4=(ji x8) from zR ha17 h4 mi) mi⟩ ?_
       rintro s ⟨h0,h2,h3,h4⟩
       exact zch H x1 x8 (vl F x1 k) ih (.of ap18) _ ⟨h0,h2,h3,h4⟩ h
     refine .skip ?_
     exact zch H x1 x8 (vl F x1 k) ih x7 _ ⟨h0,h2,h3,h4⟩ h
   refine .exit (.esq (.elp (.ebk (.nsq (.seq (rg (gv (oI 3 [] x7) (xQ h3 yG) fun h20=>gv (oI 3 [] x7) (xQ h20 yG) fun h2=>xo (y0 (r:=3) (x:=2) (v:=_) h2 yG (fun s19 hz19=>?_)))))))))
   refine ez [(2,oI 2 [] x7)] (hz19 2 _ _ h2 (zo (r:=3) (p:=[]) rfl rfl)) ?_
   rintro s h2
   refine .nsq (.ret ?_)
   obtain rfl:=oi h
   exact rrA (zr h2) (wP (vk (o:=x7)) (xI rfl))
def uH (F:Nat) (x1:Int):Option LI:=
 vl F x1 F .nil 0
theorem t34 (H:H34 D σ F) (x1:Int) (s:Nat→V) (hs:zu [(0,ji x1)] s) (h:uH F x1=some r):Run D σ (R34 r) (.run A34 []) s:=by
 unfold uH at h
 have h0:=hs
 refine .seq (rg (g0 nI fun h2=>gq (.nsq (.seq (rg (g0 nI fun h3=>gq (.nsq (.seq (.seq (rg (g0 (ji 0) fun h4=>gq (.nsq (.block (.loop ?_))))))))))))))
 exact zi6 H x1 F .nil 0 _ ⟨h0,h2,h3,h4⟩ h
end
def e34 (F:Nat):Ent:=ent 34 (fun (x:(Int×Unit))=>uH F x.1) (fun (r:LI)=>(eL r)) 0 false []
abbrev C34 (D:List V→Option V) (F:Nat):Prop:=∀ (x0:Int) r,uH F x0=some r→D [Enc.enc x0]=some (eL r)
theorem p34 {F:Nat}:C34 (e34 F).den F:=fun x0 _ h=>zS (x0,()) h
theorem o34 (hF:zF Try.prog D σ) (H:H34 D σ F):(e34 F).Ok Try.prog:=okZ (f:=34) Try.func34 fun ⟨x0,_⟩ y hy=>cR hF Try.func34 c34 (t34 H x0 _ rfl hy)
shelf_lay Lays2.n15 Nm2 15 at Try as Lay76o
structure zuk (D:Den) (σ:Sig) (F:Nat):Prop where
 mk ::
def vG (F:Nat) (s1:LI):Option (NL Int):=
 cloneO s1
def zmD (F:Nat):Ent:=ent 1000000076 (fun (x:(LI×Unit))=>vG F x.1) (fun (r:(NL Int))=>(zm .sh (r:NL Int))) 1 false []
theorem zuS {F:Nat} {x0:LI} {r:(NL Int)} (h:vG F x0=some r):(zmD F).den [Enc.enc x0]=some (zm .sh (r:NL Int)):=zjg (f:=fun (x:(LI×Unit))=>vG F x.1) (t:=fun (r:(NL Int))=>(zm .sh (r:NL Int))) (x0,()) h
theorem zuG {D:Den} {σ:Sig} {F:Nat} (hF:zF Try.prog D σ) (H:zuk D σ F):(zmD F).Ok Try.prog:=by
 refine zb6 (f:=76) (show unk 1000000076=76 from rfl) (fun args r h=>?_) ⟨Try.f76,Try.func76,rfl,rfl⟩
 obtain ⟨⟨x0,_⟩,y,rfl,hy,rfl⟩:=Kw h
 exact con_plain (f:=76) (clone_conO Lay76o hy) rfl
def zlK:AC:=(.seq (.reg [.clr [5]] [jv 3 (.fld (.t 1) 0 0),jv 4 (.load .p (.t 3)),jx 5 (.callO (jf 76) [.t 4]),jv 6 (.bld (.agg [.sl .nl .s 0 []]) [(0,0,.t 5)]),jz (.store (.ag [.p]) (.t 2) (.t 6))] []) .ret)
def zqr:AC:=(.seq (.reg [.clr [1,2]] [jx 1 (.box (.t 0)),jx 2 (.alloc (.agg [.sl .nl .s 0 []]))] []) zlK)
def zpY:List An:=[⟨0,[.clr [1,2]],[],[],[]⟩,⟨1,[.clr [5]],[],[1002],[]⟩]
theorem c52o:cq Try.prog Try.f52 zpY=some zqr:=by kernel_rfl
structure zsO (D:Den) (σ:Sig) (F:Nat):Prop where
 c76o:∀ (x0:LI) r,vG F x0=some r→D 1000000076 [Enc.enc x0]=some (zm .sh (r:NL Int))
 g76o:σ 1000000076=some (1,false)
abbrev ztQ (r:(S1 (NL Int))):(Nat→V)→Prop:=RR Try.prog [.cell 2 52] 1 false (.agg [zm .sh (r.a:NL Int)])
section
variable {r:(S1 (NL Int))}
def ud (F:Nat) (x1:(S1 LI)):Option (S1 (NL Int)):=
 (vG F x1.a).bind fun r2=>
 some (S1.mk r2)
theorem zuy (H:zsO D σ F) (x1:(S1 LI)) (s:Nat→V) (hs:zu [(0,.agg [eL x1.a])] s) (h:ud F x1=some r):Run D σ (ztQ r) (.run zqr []) s:=by
 unfold ud at h
 have h0:=hs
 refine .seq (zA (zZ ?_))
 refine ez [(0,_),(1,_),(2,_)] ⟨za h0 rfl (zH (zf me zn)),ze rfl,ze rfl⟩ ?_
 rintro s ⟨h0,h1,h2⟩
 refine xU (.agg [eL x1.a]) (zx h0 rfl) h1 rfl (yR h2 (gq (.nsq (.seq (zA (zZ ?_))))))
 refine ez [(1,_),(2,_),(5,_)] ⟨za rfl rfl (zi rfl (zH (zf me zn))),za rfl rfl (zi rfl (zH (zf rfl zn))),ze rfl⟩ ?_
 rintro s ⟨h1,h2,h5⟩
 refine g1 1 (.ref (.bx 1) 0 [0] (eL x1.a)) h1 fun h3=>g1 3 (eL x1.a) h3 fun h4=>?_
 obtain ⟨r2,Er2,h⟩:=zc h
 refine ZR (m:=1) (al:=false) (r:=zm .sh (r2:NL Int)) (v:=oI 5 [] r2) (kk:=1000000076) [eL x1.a] (zh h4 rfl (Enc.erase_enc (x1.a:LI)) zI) (H.c76o _ _ Er2) H.g76o rfl vi vW wY h5 (gv (.agg [oI 5 [] r2]) (zkg rfl) fun h6=>z5 (.agg [oI 5 [] r2]) (zx h2 rfl) (zx h6 rfl) ⟨by decide,by decide,rfl,(by simp [V.shape,V.shapes,yo,Sh.beq,Sh.beqs]),(by simp [V.shape,V.shapes,yo,Sh.beq,Sh.beqs]),(by simp [V.toks,V.tokss,zX])⟩ (gz [(2,.ref (.bx 2) 0 [] (.agg [oI 5 [] r2]))] (zd h2 rfl) ?_))
 rintro s h2
 refine .nsq (.ret ?_)
 obtain rfl:=oi h
 exact rrA (xO h2 (by simp only [V.shape,V.shapes,yo];kernel_rfl)) (YS (Ka (Yh (YL (o:=(r2:NL Int))) JP)) rfl (XG (yz (xI rfl) wI)))
end
def zma (F:Nat):Ent:=ent 1000000052 (fun (x:((S1 LI)×Unit))=>ud F x.1) (fun (r:(S1 (NL Int)))=>(.agg [zm .sh (r.a:NL Int)])) 1 false []
abbrev zsy (D:List V→Option V) (F:Nat):Prop:=∀ (x0:(S1 LI)) r,ud F x0=some r→D [Enc.enc x0]=some (.agg [zm .sh (r.a:NL Int)])
theorem zt2 {F:Nat}:zsy (zma F).den F:=fun x0 _ h=>zS (x0,()) h
theorem zuE (hF:zF Try.prog D σ) (H:zsO D σ F):(zma F).Ok Try.prog:=okZ (f:=52) Try.func52 fun ⟨x0,_⟩ y hy=>cR hF Try.func52 c52o (zuy H x0 _ rfl hy)
def zmp:AC:=(rr [jv 40 (.fld (.t 5) 0 0),jv 41 (.load .p (.t 40)),jm 42 11,jv 43 (.idx (.t 41) (.t 42) 1),jl 44 43,jm 45 9,jm 46 11,jv 47 (.bin .shl (jn 1) (.t 46)),jv 48 (.bin .andNot (.t 45) (.t 47)),jv 49 (.bin .or (.t 44) (.t 48)),jv 50 (.idx (.t 41) (.t 42) 1),jz (.store .s (.t 50) (.t 49))])
def zm2:AC:=(rr [jv 51 (.bin .add (.t 36) (jn 1)),jm 36 51])
def znx:AC:=(.seq (.block 3 (.seq (rr [jv 38 (.idx (.t 34) (.t 36) 1),jl 39 38,jm 11 39]) zmp)) zm2)
def zqk:AC:=(.seq (.cond (.t 37) .skip (.exit 2)) znx)
def zit:AC:=(.seq (rr [jv 37 (.bin .lss (.t 36) (.t 35))]) zqk)
def zrr:AC:=(.block 2 (.loop zit))
def zrI:AC:=(.seq (rr [jm 33 9,jx 34 (.call (jf 34) [.t 33]),jk 35 34,jv 36 (.mov (jn 0))]) zrr)
def zn4:AC:=(.seq (rr [jv 26 (.fld (.t 5) 0 0),jv 27 (.load .p (.t 26)),jm 28 8,jv 29 (.idx (.t 27) (.t 28) 1),jl 30 29,jm 31 6,jv 32 (.bin .and (.t 30) (.t 31)),jm 9 32]) zrI)
def zpP:AC:=(.seq (rr [jm 22 6,jm 23 8,jv 24 (.bin .shl (jn 1) (.t 23)),jv 25 (.bin .andNot (.t 22) (.t 24)),jm 6 25]) zn4)
def zgM:AC:=(rr [jv 52 (.bin .add (.t 18) (jn 1)),jm 18 52])
def zrb:AC:=(.seq (.block 1 (.seq (rr [jv 20 (.idx (.t 16) (.t 18) 1),jl 21 20,jm 8 21]) zpP)) zgM)
def zrj:AC:=(.seq (.cond (.t 19) .skip (.exit 0)) zrb)
def Qo:AC:=(.seq (rr [jv 19 (.bin .lss (.t 18) (.t 17))]) zrj)
def zam:AC:=(.seq (rr [jv 53 (.load (.ag [.p]) (.t 5)),jz (.store (.ag [.p]) (.t 4) (.t 53))]) .ret)
def znn:AC:=(.block 0 (.loop Qo))
def zlQ:AC:=(.seq (.seq (rr [jm 16 1,jk 17 16,jv 18 (.mov (jn 0))]) znn) zam)
def zmW:AC:=(.seq (rr [jv 14 (.load (.ag [.p]) (.t 2)),jx 15 (.call (jf 32) [.t 14]),jm 6 15]) zlQ)
def zmU:AC:=(.seq (.reg [.clr [13,5]] [jv 12 (.load (.ag [.p]) (.t 2)),jx 13 (.callO (jf 52) [.t 12]),jx 5 (.alloc (.agg [.sl .nl .s 0 []])),jz (.store (.ag [.p]) (.t 5) (.t 13))] []) zmW)
def A24:AC:=(.seq (.reg [.clr [2,4]] [jx 2 (.box (.t 0)),jx 4 (.alloc (.agg [.sl .nl .s 0 []]))] []) zmU)
def zuj:List An:=[⟨0,[.clr [2,4]],[],[],[]⟩,⟨1,[.clr [13,5]],[],[1001],[]⟩]
theorem c24:cq Try.prog Try.f24 zuj=some A24:=by kernel_rfl
structure H24 (D:Den) (σ:Sig) (F:Nat):Prop where
 c52o:zsy (D 1000000052) F
 g52o:σ 1000000052=some (1,false)
 c32:C32 (D 32) F
 g32:σ 32=some (0,false)
 c34:C34 (D 34) F
 g34:σ 34=some (0,false)
abbrev R24 (r:(S1 LI)):(Nat→V)→Prop:=RR Try.prog [.cell 4 52] 0 false (Enc.enc (r:(S1 LI)))
section
variable {r:(S1 LI)}
def wv (F:Nat) (x24:Int) (q45:Int) (v46:Int) (x2:LI) (x25:Int) (r47:LI) (c1:(NL Int)→Int→Int→Option (S1 LI)):Nat→(NL Int)→Int→Option (S1 LI)
 | 0,_,_=>none
 | k + 1,x52,x53=>
   bif decide (x53 < (r47.length:Int)) then
    (idx r47 x53).bind fun v58=>
    (idx x52.list v58).bind fun v59=>
    (WZ .i64 1 v58).bind fun q60=>
    (idx x52.list v58).bind fun v61=>
    (wv F x24 q45 v46 x2 x25 r47 c1 k) (NL.set x52 v58.toNat (ior .i64 v59 (zY .i64 (yu .i64 v46 (zY .i64 x24 q45)) q60))) (w64 (x53 + 1))
   else
    c1 x52 (zY .i64 x24 q45) (w64 (x25 + 1))
theorem zie (H:H24 D σ F) (x24:Int) (q45:Int) (v46:Int) (x2:LI) (x25:Int) (r47:LI) (c1:(NL Int)→Int→Int→Option (S1 LI)) (Hc1:∀ (x23:(NL Int)) (x24:Int) (x25:Int) (s:Nat→V),zu [(4,.ref (.bx 4) 0 [] (.agg [nI])),(5,.ref (.bx 5) 0 [] (.agg [oI 13 [0] x23])),(6,ji x24),(16,eL x2),(17,ji (x2.length:Int)),(18,ji x25)] s→c1 x23 x24 x25=some r→Run D σ (R24 r) (.run Qo [.lp Qo,.bk 0,.sq zam]) s):∀ (k:Nat) (x52:(NL Int)) (x53:Int) (s:Nat→V),zu [(4,.ref (.bx 4) 0 [] (.agg [nI])),(5,.ref (.bx 5) 0 [] (.agg [oI 13 [0] x52])),(6,ji (zY .i64 x24 q45)),(9,ji (yu .i64 v46 (zY .i64 x24 q45))),(16,eL x2),(17,ji (x2.length:Int)),(18,ji x25),(34,eL r47),(35,ji (r47.length:Int)),(36,ji x53)] s→wv F x24 q45 v46 x2 x25 r47 c1 k x52 x53=some r→Run D σ (R24 r) (.run zit [.lp zit,.bk 2,.bk 1,.sq zgM,.lp Qo,.bk 0,.sq zam]) s:=by
 intro k
 induction k with
 | zero=>intro x52 x53 s _ h;exact nm h
 | succ k ih=>
   intro x52 x53 s hs h
   rw [wv] at h
   obtain ⟨h4,h5,h6,h9,h16,h17,h18,h34,h35,h36⟩:=hs
   refine .seq (rg (g2 36 35 (jb (decide (x53 < (r47.length:Int)))) h36 h35 fun h37=>gq (.nsq (.seq (zp h37 h (fun h=>?_) (fun h=>?_))))))
   · refine .skip (.nsq (.seq (.block (.seq (rg ?_)))))
     obtain ⟨v58,Ev58,h⟩:=zc h
     refine gv (.ref .sh 0 [] (ji v58)) (yV (t:=.sh) (lo:=0) (xs:=r47) h34 h36 Ev58 rfl rfl) fun h38=>g1 38 (ji v58) h38 fun h39=>gm h39 fun h11=>gz [(4,_),(5,_),(6,_),(9,_),(11,_),(16,_),(17,_),(18,_),(34,_),(35,_),(36,_)] ⟨h4,h5,h6,h9,h11,h16,h17,h18,h34,h35,h36⟩ ?_
     rintro s ⟨h4,h5,h6,h9,h11,h16,h17,h18,h34,h35,h36⟩
     refine .nsq (rg (g1 5 (.ref (.bx 5) 0 [0] (oI 13 [0] x52)) h5 fun h40=>gv (oI 13 [0] x52) (ut h40 Wx) fun h41=>gm h11 fun h42=>?_))
     obtain ⟨v59,Ev59,h⟩:=zc h
     refine gv (.ref (.at 13 [0]) v58.toNat [] (ji v59)) (vZ (o:=x52) h41 h42 Ev59 rfl) fun h43=>g1 43 (ji v59) h43 fun h44=>gm h9 fun h45=>gm h11 fun h46=>?_
     obtain ⟨q60,Eq60,h⟩:=zc h
     refine gv (ji q60) (YF rfl h46 Eq60) fun h47=>g2 45 47 (ji (zY .i64 (yu .i64 v46 (zY .i64 x24 q45)) q60)) h45 h47 fun h48=>g2 44 48 (ji (ior .i64 v59 (zY .i64 (yu .i64 v46 (zY .i64 x24 q45)) q60))) h44 h48 fun h49=>?_
     obtain ⟨v61,Ev61,h⟩:=zc h
     refine gv (.ref (.at 13 [0]) v58.toNat [] (ji v61)) (vZ (o:=x52) h41 h42 Ev61 rfl) fun h50=>z5 (ji (ior .i64 v59 (zY .i64 (yu .i64 v46 (zY .i64 x24 q45)) q60))) (zx h50 rfl) (zx h49 rfl) (xE (by first | rfl | simp [V.toks,V.tokss,Enc.toks_enc,zX])) ?_
     refine gz [(4,.ref (.bx 4) 0 [] (.agg [nI])),(5,.ref (.bx 5) 0 [] (.agg [oI 13 [0] (NL.set x52 v58.toNat (ior .i64 v59 (zY .i64 (yu .i64 v46 (zY .i64 x24 q45)) q60)))])),(6,ji (zY .i64 x24 q45)),(9,ji (yu .i64 v46 (zY .i64 x24 q45))),(16,eL x2),(17,ji (x2.length:Int)),(18,ji x25),(34,eL r47),(35,ji (r47.length:Int)),(36,ji x53)] ⟨zd h4 (zy rfl rfl (yx (zq rfl rfl))),zd h5 (zy rfl rfl (yx (zq (zi9 (α:=Int) (u:=ior .i64 v59 (zY .i64 (yu .i64 v46 (zY .i64 x24 q45)) q60)) (i:=v58.toNat) (o:=x52)) rfl))),zd h6 rfl,zd h9 rfl,zd h16 uE,zd h17 rfl,zd h18 rfl,zd h34 uE,zd h35 rfl,zd h36 rfl⟩ ?_
     rintro s ⟨h4,h5,h6,h9,h16,h17,h18,h34,h35,h36⟩
     refine .nbk (.nsq (rg (g1 36 (ji (w64 (x53 + 1))) h36 fun h51=>gm h51 fun h36=>gq (.nlp ?_))))
     exact ih (NL.set x52 v58.toNat (ior .i64 v59 (zY .i64 (yu .i64 v46 (zY .i64 x24 q45)) q60))) (w64 (x53 + 1)) _ ⟨h4,h5,h6,h9,h16,h17,h18,h34,h35,h36⟩ h
   refine .exit (.esq (.elp (.ebk (.nbk (.nsq (rg (g1 18 (ji (w64 (x25 + 1))) h18 fun h52=>gm h52 fun h18=>gq (.nlp ?_))))))))
   exact Hc1 x52 (zY .i64 x24 q45) (w64 (x25 + 1)) _ ⟨h4,h5,h6,h16,h17,h18⟩ h
def y4 (F:Nat) (x2:LI) :Nat→(NL Int)→Int→Int→Option (S1 LI)
 | 0,_,_,_=>none
 | k + 1,x23,x24,x25=>
   bif decide (x25 < (x2.length:Int)) then
    (idx x2 x25).bind fun v44=>
    (WZ .i64 1 v44).bind fun q45=>
    (idx x23.list v44).bind fun v46=>
    (uH F (yu .i64 v46 (zY .i64 x24 q45))).bind fun r47=>
    wv F x24 q45 v46 x2 x25 r47 (y4 F x2 k) F x23 0
   else
    some (S1.mk x23.list)
theorem zgY (H:H24 D σ F) (x2:LI) :∀ (k:Nat) (x23:(NL Int)) (x24:Int) (x25:Int) (s:Nat→V),zu [(4,.ref (.bx 4) 0 [] (.agg [nI])),(5,.ref (.bx 5) 0 [] (.agg [oI 13 [0] x23])),(6,ji x24),(16,eL x2),(17,ji (x2.length:Int)),(18,ji x25)] s→y4 F x2 k x23 x24 x25=some r→Run D σ (R24 r) (.run Qo [.lp Qo,.bk 0,.sq zam]) s:=by
 intro k
 induction k with
 | zero=>intro x23 x24 x25 s _ h;exact nm h
 | succ k ih=>
   intro x23 x24 x25 s hs h
   rw [y4] at h
   obtain ⟨h4,h5,h6,h16,h17,h18⟩:=hs
   refine .seq (rg (g2 18 17 (jb (decide (x25 < (x2.length:Int)))) h18 h17 fun h19=>gq (.nsq (.seq (zp h19 h (fun h=>?_) (fun h=>?_))))))
   · refine .skip (.nsq (.seq (.block (.seq (rg ?_)))))
     obtain ⟨v44,Ev44,h⟩:=zc h
     refine gv (.ref .sh 0 [] (ji v44)) (yV (t:=.sh) (lo:=0) (xs:=x2) h16 h18 Ev44 rfl rfl) fun h20=>g1 20 (ji v44) h20 fun h21=>gm h21 fun h8=>gq (.nsq (.seq (rg (gm h6 fun h22=>gm h8 fun h23=>?_))))
     obtain ⟨q45,Eq45,h⟩:=zc h
     refine gv (ji q45) (YF rfl h23 Eq45) fun h24=>g2 22 24 (ji (zY .i64 x24 q45)) h22 h24 fun h25=>gm h25 fun h6=>gq (.nsq (.seq (rg (g1 5 (.ref (.bx 5) 0 [0] (oI 13 [0] x23)) h5 fun h26=>gv (oI 13 [0] x23) (ut h26 Wx) fun h27=>gm h8 fun h28=>?_))))
     obtain ⟨v46,Ev46,h⟩:=zc h
     refine gv (.ref (.at 13 [0]) v44.toNat [] (ji v46)) (vZ (o:=x23) h27 h28 Ev46 rfl) fun h29=>g1 29 (ji v46) h29 fun h30=>gm h6 fun h31=>g2 30 31 (ji (yu .i64 v46 (zY .i64 x24 q45))) h30 h31 fun h32=>gm h32 fun h9=>gq (.nsq (.seq (rg (gm h9 fun h33=>?_))))
     obtain ⟨r47,Er47,h⟩:=zc h
     refine gcF [Enc.enc (yu .i64 v46 (zY .i64 x24 q45):Int)] (zh h33 rfl rfl zI) (H.c34 _ _ Er47) H.g34 (gl r47 rfl fun h35=>g0 (ji 0) fun h36=>gq (.nsq (.block (.loop ?_))))
     exact zie H x24 q45 v46 x2 x25 r47 (y4 F x2 k) ih F x23 0 _ ⟨h4,h5,h6,h9,h16,h17,h18,rfl,h35,h36⟩ h
   refine .exit (.esq (.elp (.ebk (.nsq (.seq (rg (gv (.agg [oI 13 [0] x23]) (ut (c:=.agg [oI 13 [0] x23]) h5 (by simp [V.shape,V.shapes,yo,Xe,Sh.beq,Sh.beqs])) fun h53=>z5 (.agg [oI 13 [0] x23]) (zx h4 rfl) (zx h53 rfl) ⟨by decide,by decide,rfl,(by simp [V.shape,V.shapes,yo,Sh.beq,Sh.beqs]),(by simp [V.shape,V.shapes,yo,Sh.beq,Sh.beqs]),(by simp [V.toks,V.tokss,zX])⟩ (gz [(4,.ref (.bx 4) 0 [] (.agg [oI 13 [0] x23]))] (zd h4 rfl) ?_))))))))
   rintro s h4
   refine .nsq (.ret ?_)
   obtain rfl:=oi h
   exact rrA (xO h4 (by simp only [V.shape,V.shapes,yo];kernel_rfl)) (wP (JS (yp (vk (o:=x23)) wG)) (XG (yz (xI rfl) wI)))
def wj (F:Nat) (x1:(S1 LI)) (x2:LI):Option (S1 LI):=
 (ud F x1).bind fun r3=>
 (xr F x1).bind fun r4=>
 y4 F x2 F r3.a r4 0
theorem t24 (H:H24 D σ F) (x1:(S1 LI)) (x2:LI) (s:Nat→V) (hs:zu [(0,.agg [eL x1.a]),(1,eL x2)] s) (h:wj F x1 x2=some r):Run D σ (R24 r) (.run A24 []) s:=by
 unfold wj at h
 obtain ⟨h0,h1⟩:=hs
 refine .seq (zA (zZ ?_))
 refine ez [(0,_),(1,_),(2,_),(4,_)] ⟨za h0 rfl (zH (zf me zn)),za h1 rfl me,ze rfl,ze rfl⟩ ?_
 rintro s ⟨h0,h1,h2,h4⟩
 refine xU (.agg [eL x1.a]) (zx h0 rfl) h2 rfl (yR h4 (gq (.nsq (.seq (zA (zZ ?_))))))
 refine ez [(1,_),(2,_),(4,_),(5,_),(13,_)] ⟨za h1 rfl me,za rfl rfl (zi rfl (zH (zf me zn))),za rfl rfl (zi rfl (zH (zf rfl zn))),ze rfl,ze rfl⟩ ?_
 rintro s ⟨h1,h2,h4,h5,h13⟩
 refine g1 2 (.agg [eL x1.a]) h2 fun h12=>?_
 obtain ⟨r3,Er3,h⟩:=zc h
 refine ZR (m:=1) (al:=false) (r:=.agg [zm .sh (r3.a:NL Int)]) (v:=.agg [oI 13 [0] r3.a]) (kk:=1000000052) [Enc.enc (x1:(S1 LI))] (zh h12 rfl (Enc.erase_enc (x1:(S1 LI))) zI) (H.c52o _ _ Er3) H.g52o rfl (Jb (yr vi yK)) (Kg (Zy vW Jj)) rfl h13 (yR h5 (z5 (.agg [oI 13 [0] r3.a]) (zx rfl rfl) (zx rfl rfl) ⟨by decide,by decide,rfl,(by simp [V.shape,V.shapes,yo,Sh.beq,Sh.beqs]),(by simp [V.shape,V.shapes,yo,Sh.beq,Sh.beqs]),(by simp [V.toks,V.tokss,zX])⟩ ?_))
 refine gz [(1,eL x2),(2,.ref (.bx 2) 0 [] (.agg [eL x1.a])),(4,.ref (.bx 4) 0 [] (.agg [nI])),(5,.ref (.bx 5) 0 [] (.agg [oI 13 [0] r3.a]))] ⟨zd h1 uE,zd h2 (zy rfl rfl (yx (zq uE rfl))),zd h4 (zy rfl rfl (yx (zq rfl rfl))),zd rfl rfl⟩ ?_
 rintro s ⟨h1,h2,h4,h5⟩
 refine .nsq (.seq (rg (g1 2 (.agg [eL x1.a]) h2 fun h14=>?_)))
 obtain ⟨r4,Er4,h⟩:=zc h
 refine gcF [Enc.enc (x1:(S1 LI))] (zh h14 rfl (Enc.erase_enc (x1:(S1 LI))) zI) (H.c32 _ _ Er4) H.g32 (gm (rf (ji r4)) fun h6=>gq (.nsq (.seq (.seq (rg (gm h1 fun h16=>gl x2 h16 fun h17=>g0 (ji 0) fun h18=>gq (.nsq (.block (.loop ?_)))))))))
 exact zgY H x2 F r3.a r4 0 _ ⟨h4,h5,h6,h16,h17,h18⟩ h
end
def e24 (F:Nat):Ent:=ent 24 (fun (x:((S1 LI)×LI×Unit))=>wj F x.1 x.2.1) (fun (r:(S1 LI))=>(Enc.enc (r:(S1 LI)))) 0 false []
abbrev C24 (D:List V→Option V) (F:Nat):Prop:=∀ (x0:(S1 LI)) (x1:LI) r,wj F x0 x1=some r→D [Enc.enc x0,Enc.enc x1]=some (Enc.enc (r:(S1 LI)))
theorem p24 {F:Nat}:C24 (e24 F).den F:=fun x0 x1 _ h=>zS (x0,x1,()) h
theorem o24 (hF:zF Try.prog D σ) (H:H24 D σ F):(e24 F).Ok Try.prog:=okZ (f:=24) Try.func24 fun ⟨x0,x1,_⟩ y hy=>cR hF Try.func24 c24 (t24 H x0 x1 _ ⟨rfl,rfl⟩ hy)
def zsG:AC:=(.seq (rr [jv 3 (.fld (.t 1) 0 0),jv 4 (.load .p (.t 3)),jk 5 4,jm 2 5]) .ret)
def A54:AC:=(.seq (.reg [.clr [1]] [jx 1 (.box (.t 0)),jv 2 (.mov (jn 0))] []) zsG)
def zuh:List An:=[⟨0,[.clr [1]],[],[],[]⟩]
theorem c54:cq Try.prog Try.f54 zuh=some A54:=by kernel_rfl
structure H54 (D:Den) (σ:Sig) (F:Nat):Prop where
 mk ::
abbrev R54 (r:Int):(Nat→V)→Prop:=RR Try.prog [.tmp 2] 0 false (Enc.enc (r:Int))
section
variable {r:Int}
def Z6 (F:Nat) (x1:(S1 LI)):Option Int:=
 some (x1.a.length:Int)
theorem t54 (H:H54 D σ F) (x1:(S1 LI)) (s:Nat→V) (hs:zu [(0,.agg [eL x1.a])] s) (h:Z6 F x1=some r):Run D σ (R54 r) (.run A54 []) s:=by
 unfold Z6 at h
 have h0:=hs
 refine .seq (zA (zZ ?_))
 refine ez [(0,_),(1,_)] ⟨za h0 rfl (zH (zf me zn)),ze rfl⟩ ?_
 rintro s ⟨h0,h1⟩
 refine xU (.agg [eL x1.a]) (zx h0 rfl) h1 rfl (g0 (ji 0) fun h2=>gq (.nsq (.seq (rg (g1 1 (.ref (.bx 1) 0 [0] (eL x1.a)) (rf (.ref (.bx 1) 0 [] (.agg [eL x1.a]))) fun h3=>g1 3 (eL x1.a) h3 fun h4=>gl x1.a h4 fun h5=>gm h5 fun h2=>gq (.nsq (.ret ?_)))))))
 obtain rfl:=oi h
 exact rrA (zr h2) rfl
end
def e54 (F:Nat):Ent:=ent 54 (fun (x:((S1 LI)×Unit))=>Z6 F x.1) (fun (r:Int)=>(Enc.enc (r:Int))) 0 false []
abbrev C54 (D:List V→Option V) (F:Nat):Prop:=∀ (x0:(S1 LI)) r,Z6 F x0=some r→D [Enc.enc x0]=some (Enc.enc (r:Int))
theorem p54 {F:Nat}:C54 (e54 F).den F:=fun x0 _ h=>zS (x0,()) h
theorem o54 (hF:zF Try.prog D σ) (H:H54 D σ F):(e54 F).Ok Try.prog:=okZ (f:=54) Try.func54 fun ⟨x0,_⟩ y hy=>cR hF Try.func54 c54 (t54 H x0 _ rfl hy)
def zqs:AC:=(.seq (rr [jv 7 (.fld (.t 3) 0 0),jv 8 (.load .p (.t 7)),jm 9 1,jv 10 (.idx (.t 8) (.t 9) 1),jl 11 10,jm 12 2,jv 13 (.bin .shr (.t 11) (.t 12)),jv 14 (.bin .and (.t 13) (jn 1)),jv 15 (.bin .eql (.t 14) (jn 1)),jm 6 15]) .ret)
def A55:AC:=(.seq (.reg [.clr [3]] [jx 3 (.box (.t 0)),jv 6 (.mov kf)] []) zqs)
def zts:List An:=[⟨0,[.clr [3]],[],[],[]⟩]
theorem c55:cq Try.prog Try.f55 zts=some A55:=by kernel_rfl
structure H55 (D:Den) (σ:Sig) (F:Nat):Prop where
 mk ::
abbrev R55 (r:Bool):(Nat→V)→Prop:=RR Try.prog [.tmp 6] 0 false (Enc.enc (r:Bool))
section
variable {r:Bool}
def Yo (F:Nat) (x1:(S1 LI)) (x2:Int) (x3:Int):Option Bool:=
 (idx x1.a x2).bind fun v4=>
 (Uq .i64 v4 x3).bind fun q5=>
 some ((yu .i64 q5 1) == 1)
theorem t55 (H:H55 D σ F) (x1:(S1 LI)) (x2:Int) (x3:Int) (s:Nat→V) (hs:zu [(0,.agg [eL x1.a]),(1,ji x2),(2,ji x3)] s) (h:Yo F x1 x2 x3=some r):Run D σ (R55 r) (.run A55 []) s:=by
 unfold Yo at h
 obtain ⟨h0,h1,h2⟩:=hs
 refine .seq (zA (zZ ?_))
 refine ez [(0,_),(1,_),(2,_),(3,_)] ⟨za h0 rfl (zH (zf me zn)),za h1 rfl mi,za h2 rfl mi,ze rfl⟩ ?_
 rintro s ⟨h0,h1,h2,h3⟩
 refine xU (.agg [eL x1.a]) (zx h0 rfl) h3 rfl (g0 (jb false) fun h6=>gq (.nsq (.seq (rg (g1 3 (.ref (.bx 3) 0 [0] (eL x1.a)) (rf (.ref (.bx 3) 0 [] (.agg [eL x1.a]))) fun h7=>g1 7 (eL x1.a) h7 fun h8=>gm h1 fun h9=>?_)))))
 obtain ⟨v4,Ev4,h⟩:=zc h
 refine gv (.ref .sh 0 [] (ji v4)) (yV (t:=.sh) (lo:=0) (xs:=x1.a) h8 h9 Ev4 rfl rfl) fun h10=>g1 10 (ji v4) h10 fun h11=>gm h2 fun h12=>?_
 obtain ⟨q5,Eq5,h⟩:=zc h
 refine gv (ji q5) (Xc h11 h12 Eq5) fun h13=>g1 13 (ji (yu .i64 q5 1)) h13 fun h14=>g1 14 (jb ((yu .i64 q5 1) == 1)) h14 fun h15=>gm h15 fun h6=>gq (.nsq (.ret ?_))
 obtain rfl:=oi h
 exact rrA (zr h6) rfl
end
def e55 (F:Nat):Ent:=ent 55 (fun (x:((S1 LI)×Int×Int×Unit))=>Yo F x.1 x.2.1 x.2.2.1) (fun (r:Bool)=>(Enc.enc (r:Bool))) 0 false []
abbrev C55 (D:List V→Option V) (F:Nat):Prop:=∀ (x0:(S1 LI)) (x1:Int) (x2:Int) r,Yo F x0 x1 x2=some r→D [Enc.enc x0,Enc.enc x1,Enc.enc x2]=some (Enc.enc (r:Bool))
theorem p55 {F:Nat}:C55 (e55 F).den F:=fun x0 x1 x2 _ h=>zS (x0,x1,x2,()) h
theorem o55 (hF:zF Try.prog D σ) (H:H55 D σ F):(e55 F).Ok Try.prog:=okZ (f:=55) Try.func55 fun ⟨x0,x1,x2,_⟩ y hy=>cR hF Try.func55 c55 (t55 H x0 x1 x2 _ ⟨rfl,rfl,rfl⟩ hy)
def zku:AC:=(.cond (.t 18) .skip (.exit 2))
def zkO:AC:=(.cond (.t 24) (.reg [.clr [30,31]] [jv 25 (.fld (.t 5) 1 1),jv 26 (.load .p (.t 25)),jm 27 6,jm 28 7,jv 29 (.bld (.agg [i0,i0]) [(0,0,.t 27),(1,1,.t 28)]),jx 30 (.lit (.agg [i0,i0]) 1 [(0,0,.t 29)]),jx 31 (.app (.ag [.s,.s]) (.t 26) (.t 30)),jv 32 (.fld (.t 5) 1 1),jz (.store .p (.t 32) (.t 31))] [.drp 2101,.home 31 2101]) .skip)
def zcc:AC:=(rr [jm 19 7,jv 20 (.bin .add (.t 19) (jn 1)),jm 7 20])
def zjn:AC:=(.seq (.block 3 (.seq (rr [jm 21 1,jm 22 6,jm 23 7,jx 24 (.call (.t 21) [.t 22,.t 23])]) zkO)) zcc)
def JH:AC:=(.seq (.seq (rr [jm 16 7,jm 17 0,jv 18 (.bin .lss (.t 16) (.t 17))]) zku) zjn)
def zjG:AC:=(.block 2 (.loop JH))
def zjQ:AC:=(.seq (rr [jm 14 6,jv 15 (.bin .add (.t 14) (jn 1)),jm 7 15]) zjG)
def Kl:AC:=(rr [jv 33 (.bin .add (.t 11) (jn 1)),jm 11 33])
def zjO:AC:=(.seq (.block 1 (.seq (rr [jm 13 11,jm 6 13]) zjQ)) Kl)
def zkw:AC:=(.seq (.cond (.t 12) .skip (.exit 0)) zjO)
def Xq:AC:=(.seq (rr [jv 12 (.bin .lss (.t 11) (.t 10))]) zkw)
def Wt:AC:=(.seq (rr [jv 34 (.load (.ag [.s,.p]) (.t 5)),jz (.store (.ag [.s,.p]) (.t 4) (.t 34))]) .ret)
def zi5:AC:=(.block 0 (.loop Xq))
def zhG:AC:=(.seq (.seq (rr [jm 10 0,jv 11 (.mov (jn 0))]) zi5) Wt)
def zgR:AC:=(.seq (.reg [.clr [5]] [jm 8 0,jv 9 (.bld (.agg [i0,.sl .nl (.ag [.s,.s]) 0 []]) [(0,0,.t 8)]),jx 5 (.alloc (.agg [i0,.sl .nl (.ag [.s,.s]) 0 []])),jz (.store (.ag [.s,.p]) (.t 5) (.t 9))] []) zhG)
def zlk:AC:=(.seq (.reg [.clr [4]] [jx 4 (.alloc (.agg [i0,.sl .nl (.ag [.s,.s]) 0 []]))] []) zgR)
def zl0:List An:=[⟨0,[.clr [4]],[],[],[]⟩,⟨1,[.clr [5]],[],[],[]⟩,⟨9,[.clr [30,31]],[],[],[.drp 2101,.home 31 2101]⟩]
theorem c53s1:cq Try.prog Try.f53 zl0=some zlk:=by kernel_rfl
structure zcI (D:Den) (σ:Sig) (F:Nat):Prop where
 c55:C55 (D 55) F
 g55:σ 55=some (0,false)
abbrev MQ (r:GR):(Nat→V)→Prop:=RR Try.prog [.cell 4 26] 0 false (Enc.enc (r:GR))
section
variable {r:GR}
def wb (F:Nat) (x1:Int) (x2:(Cl 55 ((S1 LI)×Unit) Unit)) (x18:Int) (x38:Int) (c1:(NL (Int×Int))→Int→Option GR) (c4:(NL (Int×Int))→Int→Option GR) (x45:(NL (Int×Int))):Option GR:=
 c4 x45 (w64 (x38 + 1))
theorem MN (H:zcI D σ F) (x1:Int) (x2:(Cl 55 ((S1 LI)×Unit) Unit)) (x18:Int) (x38:Int) (c1:(NL (Int×Int))→Int→Option GR) (Hc1:∀ (x17:(NL (Int×Int))) (x18:Int) (s:Nat→V),zu [(0,ji x1),(1,.fn 55 [.agg [eL x2.fs.1.a]] []),(4,bZ 4),(5,.ref (.bx 5) 0 [] (.agg [ji x1,zm (.at 2101 []) (x17:NL (Int×Int))])),(10,ji x1),(11,ji x18)] s→c1 x17 x18=some r→Run D σ (MQ r) (.run Xq [.lp Xq,.bk 0,.sq Wt]) s) (c4:(NL (Int×Int))→Int→Option GR) (Hc4:∀ (x37:(NL (Int×Int))) (x38:Int) (s:Nat→V),zu [(0,ji x1),(1,.fn 55 [.agg [eL x2.fs.1.a]] []),(4,bZ 4),(5,.ref (.bx 5) 0 [] (.agg [ji x1,zm (.at 2101 []) (x37:NL (Int×Int))])),(6,ji x18),(7,ji x38),(10,ji x1),(11,ji x18)] s→c4 x37 x38=some r→Run D σ (MQ r) (.run JH [.lp JH,.bk 2,.bk 1,.sq Kl,.lp Xq,.bk 0,.sq Wt]) s) (x45:(NL (Int×Int))) (s:Nat→V) (hs:zu [(0,ji x1),(1,.fn 55 [.agg [eL x2.fs.1.a]] []),(4,bZ 4),(5,.ref (.bx 5) 0 [] (.agg [ji x1,zm (.at 2101 []) (x45:NL (Int×Int))])),(6,ji x18),(7,ji x38),(10,ji x1),(11,ji x18)] s) (h:wb F x1 x2 x18 x38 c1 c4 x45=some r):Run D σ (MQ r) (.nrm [.bk 3,.sq zcc,.lp JH,.bk 2,.bk 1,.sq Kl,.lp Xq,.bk 0,.sq Wt]) s:=by
 unfold wb at h
 obtain ⟨h0,h1,h4,h5,h6,h7,h10,h11⟩:=hs
 refine .nbk (.nsq (rg (gm h7 fun h19=>g1 19 (ji (w64 (x38 + 1))) h19 fun h20=>gm h20 fun h7=>gq (.nlp ?_))))
 exact Hc4 x45 (w64 (x38 + 1)) _ ⟨h0,h1,h4,h5,h6,h7,h10,h11⟩ h
def yF (F:Nat) (x1:Int) (x2:(Cl 55 ((S1 LI)×Unit) Unit)) (x18:Int) (c1:(NL (Int×Int))→Int→Option GR):Nat→(NL (Int×Int))→Int→Option GR
 | 0,_,_=>none
 | k + 1,x37,x38=>
   bif decide (x38 < x1) then
    (Yo F x2.fs.1 x18 x38).bind fun r43=>
    bif r43 then
     (vL x37.list [(x18,x38)]).bind fun ap46=>
     wb F x1 x2 x18 x38 c1 (yF F x1 x2 x18 c1 k) (.of ap46)
    else
     wb F x1 x2 x18 x38 c1 (yF F x1 x2 x18 c1 k) x37
   else
    c1 x37 (w64 (x18 + 1))
theorem zc0 (H:zcI D σ F) (x1:Int) (x2:(Cl 55 ((S1 LI)×Unit) Unit)) (x18:Int) (c1:(NL (Int×Int))→Int→Option GR) (Hc1:∀ (x17:(NL (Int×Int))) (x18:Int) (s:Nat→V),zu [(0,ji x1),(1,.fn 55 [.agg [eL x2.fs.1.a]] []),(4,bZ 4),(5,.ref (.bx 5) 0 [] (.agg [ji x1,zm (.at 2101 []) (x17:NL (Int×Int))])),(10,ji x1),(11,ji x18)] s→c1 x17 x18=some r→Run D σ (MQ r) (.run Xq [.lp Xq,.bk 0,.sq Wt]) s):∀ (k:Nat) (x37:(NL (Int×Int))) (x38:Int) (s:Nat→V),zu [(0,ji x1),(1,.fn 55 [.agg [eL x2.fs.1.a]] []),(4,bZ 4),(5,.ref (.bx 5) 0 [] (.agg [ji x1,zm (.at 2101 []) (x37:NL (Int×Int))])),(6,ji x18),(7,ji x38),(10,ji x1),(11,ji x18)] s→yF F x1 x2 x18 c1 k x37 x38=some r→Run D σ (MQ r) (.run JH [.lp JH,.bk 2,.bk 1,.sq Kl,.lp Xq,.bk 0,.sq Wt]) s:=by
 intro k
 induction k with
 | zero=>intro x37 x38 s _ h;exact nm h
 | succ k ih=>
   intro x37 x38 s hs h
   rw [yF] at h
   obtain ⟨h0,h1,h4,h5,h6,h7,h10,h11⟩:=hs
   refine .seq (.seq (rg (gm h7 fun h16=>gm h0 fun h17=>g2 16 17 (jb (decide (x38 < x1))) h16 h17 fun h18=>gq (.nsq (zp h18 h (fun h=>?_) (fun h=>?_))))))
   · refine .skip (.nsq (.seq (.block (.seq (rg (gm h1 fun h21=>gm h6 fun h22=>gm h7 fun h23=>?_))))))
     obtain ⟨r43,Er43,h⟩:=zc h
     refine LY (m:=0) (al:=false) (r:=Enc.enc (r43:Bool)) (fs:=[.agg [eL x2.fs.1.a]]) (env:=[]) (us:=[Enc.enc (x2.fs.1:(S1 LI))]) (ws:=[]) h21 (xD (Enc.erase_enc (x2.fs.1:(S1 LI))) xx) xx rfl [Enc.enc (x18:Int),Enc.enc (x38:Int)] (zh h22 rfl rfl (zh h23 rfl rfl zI)) (H.c55 _ _ _ _ Er43) H.g55 rfl rfl rfl rfl (gq (.nsq (zp rfl h (fun h=>?_) (fun h=>?_))))
     · refine zA (zZ ?_)
       refine ez [(0,_),(1,_),(4,_),(5,_),(6,_),(7,_),(10,_),(11,_),(30,_),(31,_)] ⟨za h0 rfl mi,za h1 rfl (Ji (zf (zH (zf me zn)) zn) zn),za h4 rfl (zi rfl (mIx rfl)),za h5 rfl (zi rfl (zH (zf mi (zf (zo (r:=2101) (p:=[]) rfl rfl) zn)))),za h6 rfl mi,za h7 rfl mi,za h10 rfl mi,za h11 rfl mi,ze rfl,ze rfl⟩ ?_
       rintro s ⟨h0,h1,h4,h5,h6,h7,h10,h11,h30,h31⟩
       refine g1 5 (.ref (.bx 5) 0 [1] (zm (.at 2101 []) (x37:NL (Int×Int)))) h5 fun h25=>gv (zm (.at 2101 []) (x37:NL (Int×Int))) (ut h25 Wx) fun h26=>gm h6 fun h27=>gm h7 fun h28=>g2 27 28 (.agg [ji x18,ji x38]) h27 h28 fun h29=>wA [(29,.agg [ji x18,ji x38])] [Enc.enc ((x18,x38):(Int×Int))] h29 rfl rfl h30 ?_
       obtain ⟨ap46,Eap46,h⟩:=zc h
       refine XQ (q:=2101) (p:=[]) (o:=(x37:NL (Int×Int))) (ys:=([(x18,x38)]:TP)) (t2:=.at 30 []) (lo2:=0) h26 rfl rfl h31 (ZT (o:=(x37:NL (Int×Int))) Eap46 (by split <;> simp)) (fun s72 ha72=>g1 5 (.ref (.bx 5) 0 [1] (kdO (x37:NL (Int×Int)))) (show s72 5=(.ref (.bx 5) 0 [] (.agg [ji x1,kdO (x37:NL (Int×Int))])) from uQ ha72 h5 (zi rfl (zH (zf mi (zf Xk zn)))) (by intro h;first | (cases h;done) | (subst h;rfl))) fun h32=>z5 (zm (.at 31 []) (.of (ap46:TP))) (zx h32 rfl) (zx rfl rfl) ⟨by decide,by decide,rfl,rfl,KJ,YT rfl rfl⟩ (xo ?_))
       refine W1 (x:=2101) (fun s73 hx_73 hd_73=>y0 (r:=31) (x:=2101) (v:=_) (by exact hx_73) rfl (fun s74 hz74=>?_))
       refine ez [(0,ji x1),(1,.fn 55 [.agg [eL x2.fs.1.a]] []),(4,bZ 4),(5,.ref (.bx 5) 0 [] (.agg [ji x1,zm (.at 2101 []) (.of (ap46:TP))])),(6,ji x18),(7,ji x38),(10,ji x1),(11,ji x18)] ⟨hz74 0 _ _ (show s73 0=(ji x1) from (hd_73 0 (by decide)).trans (zd (show s72 0=(ji x1) from zR ha72 h0 mi) rfl)) mi,hz74 1 _ _ (show s73 1=(.fn 55 [.agg [eL x2.fs.1.a]] []) from (hd_73 1 (by decide)).trans (zd (show s72 1=(.fn 55 [.agg [eL x2.fs.1.a]] []) from zR ha72 h1 (Ji (zf (zH (zf me zn)) zn) zn)) (zaa (zq (yx (zq uE rfl)) rfl) rfl))) (Ji (zf (zH (zf me zn)) zn) zn),hz74 4 _ _ (show s73 4=(bZ 4) from (hd_73 4 (by decide)).trans (zd (show s72 4=(bZ 4) from zR ha72 h4 (zi rfl (mIx rfl))) (zy rfl rfl (yx (zq rfl (zq rfl rfl)))))) (zi rfl (mIx rfl)),hz74 5 _ (.ref (.bx 5) 0 [] (.agg [ji x1,zm (.at 2101 []) (.of (ap46:TP))])) (show s73 5=(.ref (.bx 5) 0 [] (.agg [ji x1,zm (.at 31 []) (.of (ap46:TP))])) from (hd_73 5 (by decide)).trans (zd (show s72 5=(.ref (.bx 5) 0 [] (.agg [ji x1,kdO (x37:NL (Int×Int))])) from uQ ha72 h5 (zi rfl (zH (zf mi (zf Xk zn)))) (by intro h;first | (cases h;done) | (subst h;rfl))) (X0 (zq rfl (zq KG rfl))))) (zi rfl (zH (zf mi (zf (zo (r:=31) (p:=[]) rfl rfl) zn)))),hz74 6 _ _ (show s73 6=(ji x18) from (hd_73 6 (by decide)).trans (zd (show s72 6=(ji x18) from zR ha72 h6 mi) rfl)) mi,hz74 7 _ _ (show s73 7=(ji x38) from (hd_73 7 (by decide)).trans (zd (show s72 7=(ji x38) from zR ha72 h7 mi) rfl)) mi,hz74 10 _ _ (show s73 10=(ji x1) from (hd_73 10 (by decide)).trans (zd (show s72 10=(ji x1) from zR ha72 h10 mi) rfl)) mi,hz74 11 _ _ (show s73 11=(ji x18) from (hd_73 11 (by decide)).trans (zd (show s72 11=(ji x18) from zR ha72 h11 mi) rfl)) mi⟩ ?_
       rintro s ⟨h0,h1,h4,h5,h6,h7,h10,h11⟩
       exact MN H x1 x2 x18 x38 c1 Hc1 (yF F x1 x2 x18 c1 k) ih (.of ap46) _ ⟨h0,h1,h4,h5,h6,h7,h10,h11⟩ h
     refine .skip ?_
     exact MN H x1 x2 x18 x38 c1 Hc1 (yF F x1 x2 x18 c1 k) ih x37 _ ⟨h0,h1,h4,h5,h6,h7,h10,h11⟩ h
   refine .exit (.esq (.elp (.ebk (.nbk (.nsq (rg (g1 11 (ji (w64 (x18 + 1))) h11 fun h33=>gm h33 fun h11=>gq (.nlp ?_))))))))
   exact Hc1 x37 (w64 (x18 + 1)) _ ⟨h0,h1,h4,h5,h10,h11⟩ h
def y9 (F:Nat) (x1:Int) (x2:(Cl 55 ((S1 LI)×Unit) Unit)) :Nat→(NL (Int×Int))→Int→Option GR
 | 0,_,_=>none
 | k + 1,x17,x18=>
   bif decide (x18 < x1) then
    yF F x1 x2 x18 (y9 F x1 x2 k) F x17 (w64 (x18 + 1))
   else
    some (x1,x17.list)
theorem zdP (H:zcI D σ F) (x1:Int) (x2:(Cl 55 ((S1 LI)×Unit) Unit)) :∀ (k:Nat) (x17:(NL (Int×Int))) (x18:Int) (s:Nat→V),zu [(0,ji x1),(1,.fn 55 [.agg [eL x2.fs.1.a]] []),(4,bZ 4),(5,.ref (.bx 5) 0 [] (.agg [ji x1,zm (.at 2101 []) (x17:NL (Int×Int))])),(10,ji x1),(11,ji x18)] s→y9 F x1 x2 k x17 x18=some r→Run D σ (MQ r) (.run Xq [.lp Xq,.bk 0,.sq Wt]) s:=by
 intro k
 induction k with
 | zero=>intro x17 x18 s _ h;exact nm h
 | succ k ih=>
   intro x17 x18 s hs h
   rw [y9] at h
   obtain ⟨h0,h1,h4,h5,h10,h11⟩:=hs
   refine .seq (rg (g2 11 10 (jb (decide (x18 < x1))) h11 h10 fun h12=>gq (.nsq (.seq (zp h12 h (fun h=>?_) (fun h=>?_))))))
   · refine .skip (.nsq (.seq (.block (.seq (rg (gm h11 fun h13=>gm h13 fun h6=>gq (.nsq (.seq (rg (gm h6 fun h14=>g1 14 (ji (w64 (x18 + 1))) h14 fun h15=>gm h15 fun h7=>gq (.nsq (.block (.loop ?_)))))))))))))
     exact zc0 H x1 x2 x18 (y9 F x1 x2 k) ih F x17 (w64 (x18 + 1)) _ ⟨h0,h1,h4,h5,h6,h7,h10,h11⟩ h
   refine .exit (.esq (.elp (.ebk (.nsq (.seq (rg (gv (.agg [ji x1,zm (.at 2101 []) (x17:NL (Int×Int))]) (ut (c:=.agg [ji x1,zm (.at 2101 []) (x17:NL (Int×Int))]) h5 (by simp [V.shape,V.shapes,yo,Xe,Sh.beq,Sh.beqs])) fun h34=>z5 (.agg [ji x1,zm (.at 2101 []) (x17:NL (Int×Int))]) (zx h4 rfl) (zx h34 rfl) ⟨by decide,by decide,rfl,(by simp [V.shape,V.shapes,yo,Sh.beq,Sh.beqs]),(by simp [V.shape,V.shapes,yo,Sh.beq,Sh.beqs]),(by simp [V.toks,V.tokss,zX])⟩ (gz [(4,.ref (.bx 4) 0 [] (.agg [ji x1,zm (.at 2101 []) (x17:NL (Int×Int))]))] (zd h4 rfl) ?_))))))))
   rintro s h4
   refine .nsq (.ret ?_)
   obtain rfl:=oi h
   exact rrA (xO h4 (by simp only [V.shape,V.shapes,yo];kernel_rfl)) (wP (JS (yp (wx (x:=(x1:Int))) (yp (vk (o:=x17)) wG))) (XG (yz rfl (yz (xI rfl) wI))))
def wa (F:Nat) (x1:Int) (x2:(Cl 55 ((S1 LI)×Unit) Unit)):Option GR:=
 y9 F x1 x2 F .nil 0
theorem zp2 (H:zcI D σ F) (x1:Int) (x2:(Cl 55 ((S1 LI)×Unit) Unit)) (s:Nat→V) (hs:zu [(0,ji x1),(1,.fn 55 [.agg [eL x2.fs.1.a]] [])] s) (h:wa F x1 x2=some r):Run D σ (MQ r) (.run zlk []) s:=by
 unfold wa at h
 obtain ⟨h0,h1⟩:=hs
 refine .seq (zA (zZ ?_))
 refine ez [(0,_),(1,_),(4,_)] ⟨za h0 rfl mi,za h1 rfl (Ji (zf (zH (zf me zn)) zn) zn),ze rfl⟩ ?_
 rintro s ⟨h0,h1,h4⟩
 refine yR h4 (gq (.nsq (.seq (zA (zZ ?_)))))
 refine ez [(0,_),(1,_),(4,_),(5,_)] ⟨za h0 rfl mi,za h1 rfl (Ji (zf (zH (zf me zn)) zn) zn),za rfl rfl (zi rfl (mIx rfl)),ze rfl⟩ ?_
 rintro s ⟨h0,h1,h4,h5⟩
 refine gm h0 fun h8=>g1 8 (.agg [ji x1,nP]) h8 fun h9=>yR h5 (z5 (.agg [ji x1,nP]) (zx rfl rfl) (zx h9 rfl) (xE (by first | rfl | simp [V.toks,V.tokss,Enc.toks_enc,zX])) (gz [(0,ji x1),(1,.fn 55 [.agg [eL x2.fs.1.a]] []),(4,bZ 4),(5,.ref (.bx 5) 0 [] (.agg [ji x1,nP]))] ⟨zd h0 rfl,zd h1 (zaa (zq (yx (zq uE rfl)) rfl) rfl),zd h4 (zy rfl rfl (yx (zq rfl (zq rfl rfl)))),zd rfl rfl⟩ ?_))
 rintro s ⟨h0,h1,h4,h5⟩
 refine .nsq (.seq (.seq (rg (gm h0 fun h10=>g0 (ji 0) fun h11=>gq (.nsq (.block (.loop ?_)))))))
 exact zdP H x1 x2 F .nil 0 _ ⟨h0,h1,h4,h5,h10,h11⟩ h
end
def zje (F:Nat):Ent:=ent 53 (fun (x:(Int×(Cl 55 ((S1 LI)×Unit) Unit)×Unit))=>wa F x.1 x.2.1) (fun (r:GR)=>(Enc.enc (r:GR))) 0 false [(1,55)]
abbrev zlv (D:List V→Option V) (F:Nat):Prop:=∀ (x0:Int) (x1:(Cl 55 ((S1 LI)×Unit) Unit)) r,wa F x0 x1=some r→D [Enc.enc x0,Arg.arg x1]=some (Enc.enc (r:GR))
theorem zsE {F:Nat}:zlv (zje F).den F:=fun x0 x1 _ h=>zS (x0,x1,()) h
theorem zrn (hF:zF Try.prog D σ) (H:zcI D σ F):(zje F).Ok Try.prog:=okZ (f:=53) Try.func53 fun ⟨x0,x1,_⟩ y hy=>cR hF Try.func53 c53s1 (zp2 H x0 x1 _ ⟨rfl,rfl⟩ hy)
def zqI:AC:=(.seq (rr [jv 3 (.load (.ag [.p]) (.t 1)),jx 4 (.call (jf 54) [.t 3]),jv 5 (.load (.ag [.p]) (.t 1)),jv 6 (.fn 55 [.t 5] []),jx 7 (.call (jf 53) [.t 4,.t 6]),jz (.store (.ag [.s,.p]) (.t 2) (.t 7))]) .ret)
def A25:AC:=(.seq (.reg [.clr [1,2]] [jx 1 (.box (.t 0)),jx 2 (.alloc (.agg [i0,.sl .nl (.ag [.s,.s]) 0 []]))] []) zqI)
def zuJ:List An:=[⟨0,[.clr [1,2]],[],[],[]⟩]
theorem c25:cq Try.prog Try.f25 zuJ=some A25:=by kernel_rfl
structure H25 (D:Den) (σ:Sig) (F:Nat):Prop where
 c54:C54 (D 54) F
 g54:σ 54=some (0,false)
 c53s1:zlv (D 53) F
 g53s1:σ 53=some (0,false)
abbrev R25 (r:GR):(Nat→V)→Prop:=RR Try.prog [.cell 2 26] 0 true (Enc.enc (r:GR))
section
variable {r:GR}
def Yk (F:Nat) (x1:(S1 LI)):Option GR:=
 (Z6 F x1).bind fun r2=>
 (wa F r2 (Cl.mk (x1,()) ():(Cl 55 ((S1 LI)×Unit) Unit))).bind fun r3=>
 some r3
theorem t25 (H:H25 D σ F) (x1:(S1 LI)) (s:Nat→V) (hs:zu [(0,.agg [eL x1.a])] s) (h:Yk F x1=some r):Run D σ (R25 r) (.run A25 []) s:=by
 unfold Yk at h
 have h0:=hs
 refine .seq (zA (zZ ?_))
 refine ez [(0,_),(1,_),(2,_)] ⟨za h0 rfl (zH (zf me zn)),ze rfl,ze rfl⟩ ?_
 rintro s ⟨h0,h1,h2⟩
 refine xU (.agg [eL x1.a]) (zx h0 rfl) h1 rfl (yR h2 (gq (.nsq (.seq (rg (g1 1 (.agg [eL x1.a]) (rf (.ref (.bx 1) 0 [] (.agg [eL x1.a]))) fun h3=>?_))))))
 obtain ⟨r2,Er2,h⟩:=zc h
 refine gcF [Enc.enc (x1:(S1 LI))] (zh h3 rfl (Enc.erase_enc (x1:(S1 LI))) zI) (H.c54 _ _ Er2) H.g54 (g1 1 (.agg [eL x1.a]) (rf (.ref (.bx 1) 0 [] (.agg [eL x1.a]))) fun h5=>g1 5 (.fn 55 [.agg [eL x1.a]] []) h5 fun h6=>?_)
 obtain ⟨r3,Er3,h⟩:=zc h
 refine gcF [Enc.enc (r2:Int),Arg.arg ((Cl.mk (x1,()) ():(Cl 55 ((S1 LI)×Unit) Unit)):(Cl 55 ((S1 LI)×Unit) Unit))] (zh (v:=ji r2) rfl rfl rfl (zh h6 rfl (Jg (xD (Enc.erase_enc (x1:(S1 LI))) xx) xx) zI)) (H.c53s1 _ _ _ Er3) H.g53s1 (z5 (gV r3) (zx rfl rfl) (zx rfl rfl) (xE (by first | rfl | simp [V.toks,V.tokss,Enc.toks_enc,zX])) (gz [(2,bG 2 r3)] (zd rfl rfl) ?_))
 rintro s h2
 refine .nsq (.ret ?_)
 obtain rfl:=oi h
 exact rrA (xO h2 (by kernel_rfl)) (YU (wx (x:=(r3:GR))))
end
def e25 (F:Nat):Ent:=ent 25 (fun (x:((S1 LI)×Unit))=>Yk F x.1) (fun (r:GR)=>(Enc.enc (r:GR))) 0 true []
abbrev C25 (D:List V→Option V) (F:Nat):Prop:=∀ (x0:(S1 LI)) r,Yk F x0=some r→D [Enc.enc x0]=some (Enc.enc (r:GR))
theorem p25 {F:Nat}:C25 (e25 F).den F:=fun x0 _ h=>zS (x0,()) h
theorem o25 (hF:zF Try.prog D σ) (H:H25 D σ F):(e25 F).Ok Try.prog:=okZ (f:=25) Try.func25 fun ⟨x0,_⟩ y hy=>cR hF Try.func25 c25 (t25 H x0 _ rfl hy)
def zn9:AC:=(.cond (.t 14) (.seq (rr [jv 15 (.bld (.agg [i0,.sl .nl (.ag [.s,.s]) 0 []]) []),jz (.store (.ag [.s,.p]) (.t 4) (.t 15)),jv 5 (.mov kf)]) .ret) .skip)
def zoI:AC:=(.seq (rr [jv 16 (.load (.ag [.s,.p]) (.t 2)),jx 17 (.call (jf 23) [.t 16]),jm 18 1,jx 19 (.call (jf 24) [.t 17,.t 18]),jx 20 (.call (jf 25) [.t 19]),jz (.store (.ag [.s,.p]) (.t 4) (.t 20)),jv 5 (.mov kt)]) .ret)
def zuO:AC:=(.seq (.seq (rr [jv 6 (.load (.ag [.s,.p]) (.t 2)),jx 7 (.call (jf 21) [.t 6]),jv 8 (.un .not (.t 7)),jm 9 8,jg 10 9 false (.load (.ag [.s,.p]) (.t 2)),jg 11 9 false (.mov (.t 1)),.mk (some 12) (some (9,false)) false (.call (jf 22) [.t 10,.t 11]),jg 13 9 false (.un .not (.t 12)),jv 14 (.pick (.t 9) kt (.t 13))]) zn9) zoI)
def A6:AC:=(.seq (.reg [.clr [2,4]] [jx 2 (.box (.t 0)),jx 4 (.alloc (.agg [i0,.sl .nl (.ag [.s,.s]) 0 []])),jv 5 (.mov kf)] []) zuO)
def an6:List An:=[⟨0,[.clr [2,4]],[],[],[]⟩]
theorem c6:cq Try.prog Try.f6 an6=some A6:=by kernel_rfl
structure H6 (D:Den) (σ:Sig) (F:Nat):Prop where
 c21:C21 (D 21) F
 g21:σ 21=some (0,false)
 c22:C22 (D 22) F
 g22:σ 22=some (0,false)
 c23:C23 (D 23) F
 g23:σ 23=some (0,false)
 c24:C24 (D 24) F
 g24:σ 24=some (0,false)
 c25:C25 (D 25) F
 g25:σ 25=some (0,true)
abbrev R6 (r:(GR×Bool)):(Nat→V)→Prop:=RR Try.prog [.cell 4 26,.tmp 5] 0 true (.tup [Enc.enc (r.1:GR),Enc.enc (r.2:Bool)])
section
variable {r:(GR×Bool)}
def Zk (F:Nat) (x2:LI) (x1:GR)  (x5:Bool):Option (GR×Bool):=
 bif x5 then
  some ((0,[]),false)
 else
  (ZO F x1).bind fun r6=>
  (wj F r6 x2).bind fun r7=>
  (Yk F r7).bind fun r8=>
  some (r8,true)
theorem zfg (H:H6 D σ F) (x2:LI) (x1:GR)  (x5:Bool) (s:Nat→V) (hs:zu [(1,eL x2),(2,bG 2 x1),(4,bZ 4),(5,jb false),(14,jb x5)] s) (h:Zk F x2 x1  x5=some r):Run D σ (R6 r) (.nrm [.sq zn9,.sq zoI]) s:=by
 unfold Zk at h
 obtain ⟨h1,h2,h4,h5,h14⟩:=hs
 refine .nsq (zp h14 h (fun h=>?_) (fun h=>?_))
 · refine .seq (rg (g0 g0V fun h15=>z5 g0V (zx h4 rfl) (zx h15 rfl) (xE (by first | rfl | simp [V.toks,V.tokss,Enc.toks_enc,zX])) (g0 (jb false) fun h5=>gz [(1,eL x2),(2,bG 2 x1),(4,bZ 4),(5,_)] ⟨zd h1 uE,zd h2 (zy rfl rfl uIE),zd h4 rfl,h5⟩ ?_)))
   rintro s ⟨h1,h2,h4,h5⟩
   refine .nsq (.ret ?_)
   obtain rfl:=oi h
   exact rrB (xO h4 (by kernel_rfl)) (zr h5) (YU (ZF (yp (JS (yp (wx (x:=(0:Int))) (yp (vk (o:=(.nil:NL (Int×Int))) (t:=.nl)) wG))) (yp (wx (x:=(false:Bool))) wG))))
 refine .skip (.nsq (.seq (rg (g1 2 (gV x1) h2 fun h16=>?_))))
 obtain ⟨r6,Er6,h⟩:=zc h
 refine gcF [Enc.enc (x1:GR)] (zh h16 rfl (Enc.erase_enc (x1:GR)) zI) (H.c23 _ _ Er6) H.g23 (gm h1 fun h18=>?_)
 obtain ⟨r7,Er7,h⟩:=zc h
 refine gcF [Enc.enc (r6:(S1 LI)),eL x2] (zh (v:=.agg [eL r6.a]) rfl rfl (Enc.erase_enc (r6:(S1 LI))) (zh h18 rfl (Enc.erase_enc (x2:LI)) zI)) (H.c24 _ _ _ Er7) H.g24 ?_
 obtain ⟨r8,Er8,h⟩:=zc h
 refine UA (m:=0) (al:=true) (r:=Enc.enc (r8:GR)) [Enc.enc (r7:(S1 LI))] (zh (v:=.agg [eL r7.a]) rfl rfl (Enc.erase_enc (r7:(S1 LI))) zI) (H.c25 _ _ Er8) H.g25 (Jl (Z4 (v:=.agg [eL r7.a]) rfl rfl rfl UW)) rfl rfl rfl (z5 (gV r8) (zx h4 rfl) (zx rfl rfl) (xE (by first | rfl | simp [V.toks,V.tokss,Enc.toks_enc,zX])) (g0 (jb true) fun h5=>gz [(4,bG 4 r8),(5,_)] ⟨zd h4 rfl,h5⟩ ?_))
 rintro s ⟨h4,h5⟩
 refine .nsq (.ret ?_)
 obtain rfl:=oi h
 exact rrB (xO h4 (by kernel_rfl)) (zr h5) (YU (ZF (yp (wx (x:=(r8:GR))) (yp (wx (x:=(true:Bool))) wG))))
def wr (F:Nat) (x1:GR) (x2:LI):Option (GR×Bool):=
 (vy F x1).bind fun r9=>
 bif (!r9) then
  Zk F x2 x1 true
 else
  (Zw F x1 x2).bind fun r10=>
  Zk F x2 x1 (!r10)
theorem t6 (H:H6 D σ F) (x1:GR) (x2:LI) (s:Nat→V) (hs:zu [(0,gV x1),(1,eL x2)] s) (h:wr F x1 x2=some r):Run D σ (R6 r) (.run A6 []) s:=by
 unfold wr at h
 obtain ⟨h0,h1⟩:=hs
 refine .seq (zA (zZ ?_))
 refine ez [(0,_),(1,_),(2,_),(4,_)] ⟨za h0 rfl mIE,za h1 rfl me,ze rfl,ze rfl⟩ ?_
 rintro s ⟨h0,h1,h2,h4⟩
 refine xU (gV x1) (zx h0 rfl) h2 rfl (yR h4 (g0 (jb false) fun h5=>gq (.nsq (.seq (.seq (rg (g1 2 (gV x1) (rf (bG 2 x1)) fun h6=>?_)))))))
 obtain ⟨r9,Er9,h⟩:=zc h
 refine gcF [Enc.enc (x1:GR)] (zh h6 rfl (Enc.erase_enc (x1:GR)) zI) (H.c21 _ _ Er9) H.g21 (g1 7 (jb (!r9)) (rf (jb r9)) fun h8=>gm h8 fun h9=>yj h (fun hg4 h=>?_) (fun hg4 h=>?_))
 · iterate 4 refine yY (ct h9 hg4) ?_
   refine g2 9 13 (jb true) (ct h9 hg4) (rf (.tup [])) fun h14=>gq ?_
   exact zfg H x2 x1 true _ ⟨h1,rfl,rfl,h5,h14⟩ h
 refine zt (ct h9 hg4) (g1 2 (gV x1) (rf (bG 2 x1)) fun h10=>zt (ct h9 hg4) (gm h1 fun h11=>?_))
 obtain ⟨r10,Er10,h⟩:=zc h
 refine zt (ct h9 hg4) (gcF [Enc.enc (x1:GR),eL x2] (zh h10 rfl (Enc.erase_enc (x1:GR)) (zh h11 rfl (Enc.erase_enc (x2:LI)) zI)) (H.c22 _ _ _ Er10) H.g22 (zt (ct h9 hg4) (g1 12 (jb (!r10)) (rf (jb r10)) fun h13=>g2 9 13 (jb (!r10)) (ct h9 hg4) h13 fun h14=>gq ?_)))
 exact zfg H x2 x1 (!r10) _ ⟨h1,rfl,rfl,h5,h14⟩ h
end
def e6 (F:Nat):Ent:=ent 6 (fun (x:(GR×LI×Unit))=>wr F x.1 x.2.1) (fun (r:(GR×Bool))=>(.tup [Enc.enc (r.1:GR),Enc.enc (r.2:Bool)])) 0 true []
abbrev C6 (D:List V→Option V) (F:Nat):Prop:=∀ (x0:GR) (x1:LI) r,wr F x0 x1=some r→D [Enc.enc x0,Enc.enc x1]=some (.tup [Enc.enc (r.1:GR),Enc.enc (r.2:Bool)])
theorem p6 {F:Nat}:C6 (e6 F).den F:=fun x0 x1 _ h=>zS (x0,x1,()) h
theorem o6 (hF:zF Try.prog D σ) (H:H6 D σ F):(e6 F).Ok Try.prog:=okZ (f:=6) Try.func6 fun ⟨x0,x1,_⟩ y hy=>cR hF Try.func6 c6 (t6 H x0 x1 _ ⟨rfl,rfl⟩ hy)
def zpO:AC:=(.seq (rr [jm 7 0,jm 8 1,jv 9 (.bin .geq (.t 7) (.t 8)),jm 10 9,jg 11 10 true (.mov (.t 0)),jg 12 10 true (.mov (.t 2)),jg 13 10 true (.bin .leq (.t 11) (.t 12)),jv 14 (.pick (.t 10) (.t 13) kf),jm 6 14]) .ret)
def A65:AC:=(.seq (rr [jv 6 (.mov kf)]) zpO)
def ztn:List An:=[]
theorem c65:cq Try.prog Try.f65 ztn=some A65:=by kernel_rfl
structure H65 (D:Den) (σ:Sig) (F:Nat):Prop where
 mk ::
abbrev R65 (r:Bool):(Nat→V)→Prop:=RR Try.prog [.tmp 6] 0 false (Enc.enc (r:Bool))
section
variable {r:Bool}
def Uu (F:Nat) (x1:Int) (x2:Int) (x3:Int):Option Bool:=
 bif decide (x1≥x2) then
  some (decide (x1≤x3))
 else
  some false
theorem t65 (H:H65 D σ F) (x1:Int) (x2:Int) (x3:Int) (s:Nat→V) (hs:zu [(0,ji x1),(1,ji x2),(2,ji x3)] s) (h:Uu F x1 x2 x3=some r):Run D σ (R65 r) (.run A65 []) s:=by
 unfold Uu at h
 obtain ⟨h0,h1,h2⟩:=hs
 refine .seq (rg (g0 (jb false) fun h6=>gq (.nsq (.seq (rg (gm h0 fun h7=>gm h1 fun h8=>g2 7 8 (jb (decide (x1≥x2))) h7 h8 fun h9=>gm h9 fun h10=>yj h (fun hg4 h=>?_) (fun hg4 h=>?_)))))))
 · refine zt (ct h10 hg4) (gm h0 fun h11=>zt (ct h10 hg4) (gm h2 fun h12=>zt (ct h10 hg4) (g2 11 12 (jb (decide (x1≤x3))) h11 h12 fun h13=>g2 10 13 (jb (decide (x1≤x3))) (ct h10 hg4) h13 fun h14=>gm h14 fun h6=>gq (.nsq (.ret ?_)))))
   obtain rfl:=oi h
   exact rrA (zr h6) rfl
 iterate 3 refine yY (ct h10 hg4) ?_
 refine g2 10 13 (jb false) (ct h10 hg4) (rf (.tup [])) fun h14=>gm h14 fun h6=>gq (.nsq (.ret ?_))
 obtain rfl:=oi h
 exact rrA (zr h6) rfl
end
def e65 (F:Nat):Ent:=ent 65 (fun (x:(Int×Int×Int×Unit))=>Uu F x.1 x.2.1 x.2.2.1) (fun (r:Bool)=>(Enc.enc (r:Bool))) 0 false []
abbrev C65 (D:List V→Option V) (F:Nat):Prop:=∀ (x0:Int) (x1:Int) (x2:Int) r,Uu F x0 x1 x2=some r→D [Enc.enc x0,Enc.enc x1,Enc.enc x2]=some (Enc.enc (r:Bool))
theorem p65 {F:Nat}:C65 (e65 F).den F:=fun x0 x1 x2 _ h=>zS (x0,x1,x2,()) h
theorem o65 (hF:zF Try.prog D σ) (H:H65 D σ F):(e65 F).Ok Try.prog:=okZ (f:=65) Try.func65 fun ⟨x0,x1,x2,_⟩ y hy=>cR hF Try.func65 c65 (t65 H x0 x1 x2 _ ⟨rfl,rfl,rfl⟩ hy)
def zrx:AC:=(.cond (.t 9) .skip (.exit 0))
def zlo:AC:=(.cond (.t 54) (.seq (rr [jv 2 (.mov kf)]) .ret) .skip)
def zsx:AC:=(.seq (rr [jv 17 (.idxA (.t 4) (jn 0) 2 1),jl 18 17,jv 19 (.fld (.t 1) 0 0),jl 20 19,jv 21 (.bin .sub (.t 20) (jn 1)),jx 22 (.call (jf 65) [.t 18,jn 0,.t 21]),jv 23 (.un .not (.t 22)),jm 24 23,jg 25 24 false (.idxA (.t 4) (jn 1) 2 1),jg 26 24 false (.load .s (.t 25)),jg 27 24 false (.fld (.t 1) 0 0),jg 28 24 false (.load .s (.t 27)),jg 29 24 false (.bin .sub (.t 28) (jn 1)),.mk (some 30) (some (24,false)) false (.call (jf 65) [.t 26,jn 0,.t 29]),jg 31 24 false (.un .not (.t 30)),jv 32 (.pick (.t 24) kt (.t 31)),jm 33 32,jg 34 33 false (.idxA (.t 4) (jn 0) 2 1),jg 35 33 false (.load .s (.t 34)),jg 36 33 false (.idxA (.t 4) (jn 1) 2 1),jg 37 33 false (.load .s (.t 36)),jg 38 33 false (.bin .geq (.t 35) (.t 37)),jv 39 (.pick (.t 33) kt (.t 38)),jm 40 39,jg 41 40 false (.mov (.t 3)),jg 42 40 false (.bin .gtr (.t 41) (jn 0)),jg 43 40 false (.mov (.t 42)),jg 44 43 true (.fld (.t 1) 1 1),jg 45 43 true (.load .p (.t 44)),jg 46 43 true (.mov (.t 3)),jg 47 43 true (.bin .sub (.t 46) (jn 1)),jg 48 43 true (.idx (.t 45) (.t 47) 2),jg 49 43 true (.load (.ag [.s,.s]) (.t 48)),jg 50 43 true (.load (.ag [.s,.s]) (.t 4)),.mk (some 51) (some (43,true)) false (.call (jf 66) [.t 49,.t 50]),jg 52 43 true (.un .not (.t 51)),jg 53 40 false (.pick (.t 43) (.t 52) kf),jv 54 (.pick (.t 40) kt (.t 53))]) zlo)
def zkS:AC:=(rr [jm 10 3,jv 11 (.bin .add (.t 10) (jn 1)),jm 3 11])
def zsC:AC:=(.seq (.block 1 (.seq (.reg [.clr [4]] [jv 12 (.fld (.t 1) 1 1),jv 13 (.load .p (.t 12)),jm 14 3,jv 15 (.idx (.t 13) (.t 14) 2),jv 16 (.load (.ag [.s,.s]) (.t 15)),jx 4 (.alloc (.agg [i0,i0])),jz (.store (.ag [.s,.s]) (.t 4) (.t 16))] []) zsx)) zkS)
def N0:AC:=(.seq (.seq (rr [jm 5 3,jv 6 (.fld (.t 1) 1 1),jv 7 (.load .p (.t 6)),jk 8 7,jv 9 (.bin .lss (.t 5) (.t 8))]) zrx) zsC)
def zfx:AC:=(.seq (rr [jv 55 (.fld (.t 1) 0 0),jl 56 55,jx 57 (.call (jf 65) [.t 56,jn 0,jn 8]),jm 2 57]) .ret)
def zqq:AC:=(.block 0 (.loop N0))
def zoH:AC:=(.seq (.seq (rr [jv 3 (.mov (jn 0))]) zqq) zfx)
def A37:AC:=(.seq (.reg [.clr [1]] [jx 1 (.box (.t 0)),jv 2 (.mov kf)] []) zoH)
def ztI:List An:=[⟨0,[.clr [1]],[],[],[]⟩,⟨4,[.clr [4]],[],[],[]⟩]
theorem c37:cq Try.prog Try.f37 ztI=some A37:=by kernel_rfl
structure H37 (D:Den) (σ:Sig) (F:Nat):Prop where
 c65:C65 (D 65) F
 g65:σ 65=some (0,false)
 c66:C66 (D 66) F
 g66:σ 66=some (0,false)
abbrev R37 (r:Bool):(Nat→V)→Prop:=RR Try.prog [.tmp 2] 0 false (Enc.enc (r:Bool))
section
variable {r:Bool}
def uB (F:Nat) (x1:GR) (x12:Int) (c1:Int→Option Bool) (x28:Bool):Option Bool:=
 bif x28 then
  some false
 else
  c1 (w64 (x12 + 1))
theorem U8 (H:H37 D σ F) (x1:GR) (x12:Int) (c1:Int→Option Bool) (Hc1:∀ (x12:Int) (s:Nat→V),zu [(1,bG 1 x1),(2,jb false),(3,ji x12)] s→c1 x12=some r→Run D σ (R37 r) (.run N0 [.lp N0,.bk 0,.sq zfx]) s) (x28:Bool) (s:Nat→V) (hs:zu [(1,bG 1 x1),(2,jb false),(3,ji x12),(54,jb x28)] s) (h:uB F x1 x12 c1 x28=some r):Run D σ (R37 r) (.nrm [.sq zlo,.bk 1,.sq zkS,.lp N0,.bk 0,.sq zfx]) s:=by
 unfold uB at h
 obtain ⟨h1,h2,h3,h54⟩:=hs
 refine .nsq (zp h54 h (fun h=>?_) (fun h=>?_))
 · refine .seq (rg (g0 (jb false) fun h2=>gq (.nsq (.ret ?_))))
   obtain rfl:=oi h
   exact rrA (zr h2) rfl
 refine .skip (.nbk (.nsq (rg (gm h3 fun h10=>g1 10 (ji (w64 (x12 + 1))) h10 fun h11=>gm h11 fun h3=>gq (.nlp ?_)))))
 exact Hc1 (w64 (x12 + 1)) _ ⟨h1,h2,h3⟩ h
def xC (F:Nat) (x1:GR) :Nat→Int→Option Bool
 | 0,_=>none
 | k + 1,x12=>
   bif decide (x12 < (x1.2.length:Int)) then
    (idx x1.2 x12).bind fun v23=>
    (Uu F v23.1 0 (w64 (x1.1 - 1))).bind fun r29=>
    bif (!r29) then
     uB F x1 x12 (xC F x1 k) true
    else
     (Uu F v23.2 0 (w64 (x1.1 - 1))).bind fun r30=>
     bif (!r30) then
      uB F x1 x12 (xC F x1 k) true
     else
      bif decide (v23.1≥v23.2) then
       uB F x1 x12 (xC F x1 k) true
      else
       bif decide (x12 > 0) then
        (idx x1.2 (w64 (x12 - 1))).bind fun v31=>
        (Zp F v31 v23).bind fun r32=>
        uB F x1 x12 (xC F x1 k) (!r32)
       else
        uB F x1 x12 (xC F x1 k) false
   else
    (Uu F x1.1 0 8).bind fun r33=>
    some r33
theorem ziS (H:H37 D σ F) (x1:GR) :∀ (k:Nat) (x12:Int) (s:Nat→V),zu [(1,bG 1 x1),(2,jb false),(3,ji x12)] s→xC F x1 k x12=some r→Run D σ (R37 r) (.run N0 [.lp N0,.bk 0,.sq zfx]) s:=by
 intro k
 induction k with
 | zero=>intro x12 s _ h;exact nm h
 | succ k ih=>
   intro x12 s hs h
   rw [xC] at h
   obtain ⟨h1,h2,h3⟩:=hs
   refine .seq (.seq (rg (gm h3 fun h5=>g1 1 (.ref (.bx 1) 0 [1] (eP x1.2)) h1 fun h6=>g1 6 (eP x1.2) h6 fun h7=>gl x1.2 h7 fun h8=>g2 5 8 (jb (decide (x12 < (x1.2.length:Int)))) h5 h8 fun h9=>gq (.nsq (zp h9 h (fun h=>?_) (fun h=>?_))))))
   · refine .skip (.nsq (.seq (.block (.seq (zA (zZ ?_))))))
     refine ez [(1,_),(2,_),(3,_),(4,_)] ⟨za h1 rfl (zi rfl mIE),za h2 rfl mb,za h3 rfl mi,ze rfl⟩ ?_
     rintro s ⟨h1,h2,h3,h4⟩
     refine g1 1 (.ref (.bx 1) 0 [1] (eP x1.2)) h1 fun h12=>g1 12 (eP x1.2) h12 fun h13=>gm h3 fun h14=>?_
     obtain ⟨v23,Ev23,h⟩:=zc h
     refine gv (.ref .sh 0 [] (.agg [ji v23.1,ji v23.2])) (yV (t:=.sh) (lo:=0) (xs:=x1.2) h13 h14 Ev23 rfl rfl) fun h15=>g1 15 (.agg [ji v23.1,ji v23.2]) h15 fun h16=>yR h4 (z5 (.agg [ji v23.1,ji v23.2]) (zx rfl rfl) (zx h16 rfl) (xE (by first | rfl | simp [V.toks,V.tokss,Enc.toks_enc,zX])) (gz [(1,bG 1 x1),(2,jb false),(3,ji x12),(4,.ref (.bx 4) 0 [] (.agg [ji v23.1,ji v23.2]))] ⟨zd h1 (zy rfl rfl uIE),zd h2 rfl,zd h3 rfl,zd rfl rfl⟩ ?_))
     rintro s ⟨h1,h2,h3,h4⟩
     refine .nsq (.seq (rg (g1 4 (.ref (.bx 4) 0 [0] (ji v23.1)) h4 fun h17=>g1 17 (ji v23.1) h17 fun h18=>g1 1 (.ref (.bx 1) 0 [0] (ji x1.1)) h1 fun h19=>g1 19 (ji x1.1) h19 fun h20=>g1 20 (ji (w64 (x1.1 - 1))) h20 fun h21=>?_)))
     obtain ⟨r29,Er29,h⟩:=zc h
     refine gcF [Enc.enc (v23.1:Int),Enc.enc (0:Int),Enc.enc (w64 (x1.1 - 1):Int)] (zh h18 rfl rfl (zh (v:=ji 0) rfl rfl rfl (zh h21 rfl rfl zI))) (H.c65 _ _ _ _ Er29) H.g65 (g1 22 (jb (!r29)) (rf (jb r29)) fun h23=>gm h23 fun h24=>yj h (fun hg8 h=>?_) (fun hg8 h=>?_))
     · iterate 7 refine yY (ct h24 hg8) ?_
       refine g2 24 31 (jb true) (ct h24 hg8) (rf (.tup [])) fun h32=>gm h32 fun h33=>yY h33 ?_
       iterate 4 refine yY h33 ?_
       refine g2 33 38 (jb true) h33 (rf (.tup [])) fun h39=>gm h39 fun h40=>yY h40 ?_
       iterate 2 refine yY h40 ?_
       iterate 9 refine UD rfl ?_
       refine yY h40 (g2 40 53 (jb true) h40 (rf (.tup [])) fun h54=>gz [(1,_),(2,_),(3,_),(54,_)] ⟨h1,h2,h3,h54⟩ ?_)
       rintro s ⟨h1,h2,h3,h54⟩
       exact U8 H x1 x12 (xC F x1 k) ih true _ ⟨h1,h2,h3,h54⟩ h
     refine zt (ct h24 hg8) (g1 4 (.ref (.bx 4) 0 [1] (ji v23.2)) h4 fun h25=>zt (ct h24 hg8) (g1 25 (ji v23.2) h25 fun h26=>zt (ct h24 hg8) (g1 1 (.ref (.bx 1) 0 [0] (ji x1.1)) h1 fun h27=>zt (ct h24 hg8) (g1 27 (ji x1.1) h27 fun h28=>zt (ct h24 hg8) (g1 28 (ji (w64 (x1.1 - 1))) h28 fun h29=>?_)))))
     obtain ⟨r30,Er30,h⟩:=zc h
     refine zt (ct h24 hg8) (gcF [Enc.enc (v23.2:Int),Enc.enc (0:Int),Enc.enc (w64 (x1.1 - 1):Int)] (zh h26 rfl rfl (zh (v:=ji 0) rfl rfl rfl (zh h29 rfl rfl zI))) (H.c65 _ _ _ _ Er30) H.g65 (zt (ct h24 hg8) (g1 30 (jb (!r30)) (rf (jb r30)) fun h31=>g2 24 31 (jb (!r30)) (ct h24 hg8) h31 fun h32=>gm h32 fun h33=>yj h (fun hg17 h=>?_) (fun hg17 h=>?_))))
     · iterate 5 refine yY (ct h33 hg17) ?_
       refine g2 33 38 (jb true) (ct h33 hg17) (rf (.tup [])) fun h39=>gm h39 fun h40=>yY h40 ?_
       iterate 2 refine yY h40 ?_
       iterate 9 refine UD rfl ?_
       refine yY h40 (g2 40 53 (jb true) h40 (rf (.tup [])) fun h54=>gz [(1,_),(2,_),(3,_),(54,_)] ⟨h1,h2,h3,h54⟩ ?_)
       rintro s ⟨h1,h2,h3,h54⟩
       exact U8 H x1 x12 (xC F x1 k) ih true _ ⟨h1,h2,h3,h54⟩ h
     refine zt (ct h33 hg17) (g1 4 (.ref (.bx 4) 0 [0] (ji v23.1)) h4 fun h34=>zt (ct h33 hg17) (g1 34 (ji v23.1) h34 fun h35=>zt (ct h33 hg17) (g1 4 (.ref (.bx 4) 0 [1] (ji v23.2)) h4 fun h36=>zt (ct h33 hg17) (g1 36 (ji v23.2) h36 fun h37=>zt (ct h33 hg17) (g2 35 37 (jb (decide (v23.1≥v23.2))) h35 h37 fun h38=>g2 33 38 (jb (decide (v23.1≥v23.2))) (ct h33 hg17) h38 fun h39=>gm h39 fun h40=>yj h (fun hg24 h=>?_) (fun hg24 h=>?_))))))
     · iterate 3 refine yY (ct h40 hg24) ?_
       iterate 9 refine UD rfl ?_
       refine yY (ct h40 hg24) (g2 40 53 (jb true) (ct h40 hg24) (rf (.tup [])) fun h54=>gz [(1,_),(2,_),(3,_),(54,_)] ⟨h1,h2,h3,h54⟩ ?_)
       rintro s ⟨h1,h2,h3,h54⟩
       exact U8 H x1 x12 (xC F x1 k) ih true _ ⟨h1,h2,h3,h54⟩ h
     refine zt (ct h40 hg24) (gm h3 fun h41=>zt (ct h40 hg24) (g1 41 (jb (decide (x12 > 0))) h41 fun h42=>zt (ct h40 hg24) (gm h42 fun h43=>yj h (fun hg27 h=>?_) (fun hg27 h=>?_))))
     · refine zt (ct h43 hg27) (g1 1 (.ref (.bx 1) 0 [1] (eP x1.2)) h1 fun h44=>zt (ct h43 hg27) (g1 44 (eP x1.2) h44 fun h45=>zt (ct h43 hg27) (gm h3 fun h46=>zt (ct h43 hg27) (g1 46 (ji (w64 (x12 - 1))) h46 fun h47=>?_))))
       obtain ⟨v31,Ev31,h⟩:=zc h
       refine zt (ct h43 hg27) (gv (.ref .sh 0 [] (.agg [ji v31.1,ji v31.2])) (yV (t:=.sh) (lo:=0) (xs:=x1.2) h45 h47 Ev31 rfl rfl) fun h48=>zt (ct h43 hg27) (g1 48 (.agg [ji v31.1,ji v31.2]) h48 fun h49=>zt (ct h43 hg27) (g1 4 (.agg [ji v23.1,ji v23.2]) h4 fun h50=>?_)))
       obtain ⟨r32,Er32,h⟩:=zc h
       refine zt (ct h43 hg27) (gcF [Enc.enc (v31:(Int×Int)),Enc.enc (v23:(Int×Int))] (zh h49 rfl (Enc.erase_enc (v31:(Int×Int))) (zh h50 rfl (Enc.erase_enc (v23:(Int×Int))) zI)) (H.c66 _ _ _ Er32) H.g66 (zt (ct h43 hg27) (g1 51 (jb (!r32)) (rf (jb r32)) fun h52=>zt (ct h40 hg24) (g2 43 52 (jb (!r32)) (ct h43 hg27) h52 fun h53=>g2 40 53 (jb (!r32)) (ct h40 hg24) h53 fun h54=>gz [(1,_),(2,_),(3,_),(54,_)] ⟨h1,h2,h3,h54⟩ ?_))))
       rintro s ⟨h1,h2,h3,h54⟩
       exact U8 H x1 x12 (xC F x1 k) ih (!r32) _ ⟨h1,h2,h3,h54⟩ h
     iterate 9 refine yY (ct h43 hg27) ?_
     refine zt (ct h40 hg24) (g2 43 52 (jb false) (ct h43 hg27) (rf (.tup [])) fun h53=>g2 40 53 (jb false) (ct h40 hg24) h53 fun h54=>gz [(1,_),(2,_),(3,_),(54,_)] ⟨h1,h2,h3,h54⟩ ?_)
     rintro s ⟨h1,h2,h3,h54⟩
     exact U8 H x1 x12 (xC F x1 k) ih false _ ⟨h1,h2,h3,h54⟩ h
   refine .exit (.esq (.elp (.ebk (.nsq (.seq (rg (g1 1 (.ref (.bx 1) 0 [0] (ji x1.1)) h1 fun h55=>g1 55 (ji x1.1) h55 fun h56=>?_)))))))
   obtain ⟨r33,Er33,h⟩:=zc h
   refine gcF [Enc.enc (x1.1:Int),Enc.enc (0:Int),Enc.enc (8:Int)] (zh h56 rfl rfl (zh (v:=ji 0) rfl rfl rfl (zh (v:=ji 8) rfl rfl rfl zI))) (H.c65 _ _ _ _ Er33) H.g65 (gm (rf (jb r33)) fun h2=>gq (.nsq (.ret ?_)))
   obtain rfl:=oi h
   exact rrA (zr h2) rfl
def YC (F:Nat) (x1:GR):Option Bool:=
 xC F x1 F 0
theorem t37 (H:H37 D σ F) (x1:GR) (s:Nat→V) (hs:zu [(0,gV x1)] s) (h:YC F x1=some r):Run D σ (R37 r) (.run A37 []) s:=by
 unfold YC at h
 have h0:=hs
 refine .seq (zA (zZ ?_))
 refine ez [(0,_),(1,_)] ⟨za h0 rfl mIE,ze rfl⟩ ?_
 rintro s ⟨h0,h1⟩
 refine xU (gV x1) (zx h0 rfl) h1 rfl (g0 (jb false) fun h2=>gq (.nsq (.seq (.seq (rg (g0 (ji 0) fun h3=>gq (.nsq (.block (.loop ?_)))))))))
 exact ziS H x1 F 0 _ ⟨rfl,h2,h3⟩ h
end
def e37 (F:Nat):Ent:=ent 37 (fun (x:(GR×Unit))=>YC F x.1) (fun (r:Bool)=>(Enc.enc (r:Bool))) 0 false []
abbrev C37 (D:List V→Option V) (F:Nat):Prop:=∀ (x0:GR) r,YC F x0=some r→D [Enc.enc x0]=some (Enc.enc (r:Bool))
theorem p37 {F:Nat}:C37 (e37 F).den F:=fun x0 _ h=>zS (x0,()) h
theorem o37 (hF:zF Try.prog D σ) (H:H37 D σ F):(e37 F).Ok Try.prog:=okZ (f:=37) Try.func37 fun ⟨x0,_⟩ y hy=>cR hF Try.func37 c37 (t37 H x0 _ rfl hy)
def zsg:AC:=(.cond (.t 9) .skip (.exit 0))
def zrZ:AC:=(.cond (.t 17) (.seq (rr [jv 4 (.mov kt)]) .ret) .skip)
def zqa:AC:=(rr [jm 10 5,jv 11 (.bin .add (.t 10) (jn 1)),jm 5 11])
def zpp:AC:=(.seq (.block 1 (.seq (rr [jm 12 0,jm 13 5,jv 14 (.idx (.t 12) (.t 13) 1),jl 15 14,jm 16 1,jv 17 (.bin .eql (.t 15) (.t 16))]) zrZ)) zqa)
def zhP:AC:=(.seq (.seq (rr [jm 6 5,jm 7 0,jk 8 7,jv 9 (.bin .lss (.t 6) (.t 8))]) zsg) zpp)
def zld:AC:=(.seq (rr [jv 4 (.mov kf)]) .ret)
def zrk:AC:=(.block 0 (.loop zhP))
def zqj:AC:=(.seq (.seq (rr [jv 5 (.mov (jn 0))]) zrk) zld)
def A38:AC:=(.seq (rr [jv 4 (.mov kf)]) zqj)
def zup:List An:=[]
theorem c38:cq Try.prog Try.f38 zup=some A38:=by kernel_rfl
structure H38 (D:Den) (σ:Sig) (F:Nat):Prop where
 mk ::
abbrev R38 (r:Bool):(Nat→V)→Prop:=RR Try.prog [.tmp 4] 0 false (Enc.enc (r:Bool))
section
variable {r:Bool}
def Z7 (F:Nat) (x1:LI) (x2:Int) :Nat→Int→Option Bool
 | 0,_=>none
 | k + 1,x4=>
   bif decide (x4 < (x1.length:Int)) then
    (idx x1 x4).bind fun v6=>
    bif (v6 == x2) then
     some true
    else
     (Z7 F x1 x2 k) (w64 (x4 + 1))
   else
    some false
theorem zhF (H:H38 D σ F) (x1:LI) (x2:Int) :∀ (k:Nat) (x4:Int) (s:Nat→V),zu [(0,eL x1),(1,ji x2),(4,jb false),(5,ji x4)] s→Z7 F x1 x2 k x4=some r→Run D σ (R38 r) (.run zhP [.lp zhP,.bk 0,.sq zld]) s:=by
 intro k
 induction k with
 | zero=>intro x4 s _ h;exact nm h
 | succ k ih=>
   intro x4 s hs h
   rw [Z7] at h
   obtain ⟨h0,h1,h4,h5⟩:=hs
   refine .seq (.seq (rg (gm h5 fun h6=>gm h0 fun h7=>gl x1 h7 fun h8=>g2 6 8 (jb (decide (x4 < (x1.length:Int)))) h6 h8 fun h9=>gq (.nsq (zp h9 h (fun h=>?_) (fun h=>?_))))))
   · refine .skip (.nsq (.seq (.block (.seq (rg (gm h0 fun h12=>gm h5 fun h13=>?_))))))
     obtain ⟨v6,Ev6,h⟩:=zc h
     refine gv (.ref .sh 0 [] (ji v6)) (yV (t:=.sh) (lo:=0) (xs:=x1) h12 h13 Ev6 rfl rfl) fun h14=>g1 14 (ji v6) h14 fun h15=>gm h1 fun h16=>g2 15 16 (jb (v6 == x2)) h15 h16 fun h17=>gq (.nsq (zp h17 h (fun h=>?_) (fun h=>?_)))
     · refine .seq (rg (g0 (jb true) fun h4=>gq (.nsq (.ret ?_))))
       obtain rfl:=oi h
       exact rrA (zr h4) rfl
     refine .skip (.nbk (.nsq (rg (gm h5 fun h10=>g1 10 (ji (w64 (x4 + 1))) h10 fun h11=>gm h11 fun h5=>gq (.nlp ?_)))))
     exact ih (w64 (x4 + 1)) _ ⟨h0,h1,h4,h5⟩ h
   refine .exit (.esq (.elp (.ebk (.nsq (.seq (rg (g0 (jb false) fun h4=>gq (.nsq (.ret ?_)))))))))
   obtain rfl:=oi h
   exact rrA (zr h4) rfl
def ul (F:Nat) (x1:LI) (x2:Int):Option Bool:=
 Z7 F x1 x2 F 0
theorem t38 (H:H38 D σ F) (x1:LI) (x2:Int) (s:Nat→V) (hs:zu [(0,eL x1),(1,ji x2)] s) (h:ul F x1 x2=some r):Run D σ (R38 r) (.run A38 []) s:=by
 unfold ul at h
 obtain ⟨h0,h1⟩:=hs
 refine .seq (rg (g0 (jb false) fun h4=>gq (.nsq (.seq (.seq (rg (g0 (ji 0) fun h5=>gq (.nsq (.block (.loop ?_))))))))))
 exact zhF H x1 x2 F 0 _ ⟨h0,h1,h4,h5⟩ h
end
def e38 (F:Nat):Ent:=ent 38 (fun (x:(LI×Int×Unit))=>ul F x.1 x.2.1) (fun (r:Bool)=>(Enc.enc (r:Bool))) 0 false []
abbrev C38 (D:List V→Option V) (F:Nat):Prop:=∀ (x0:LI) (x1:Int) r,ul F x0 x1=some r→D [Enc.enc x0,Enc.enc x1]=some (Enc.enc (r:Bool))
theorem p38 {F:Nat}:C38 (e38 F).den F:=fun x0 x1 _ h=>zS (x0,x1,()) h
theorem o38 (hF:zF Try.prog D σ) (H:H38 D σ F):(e38 F).Ok Try.prog:=okZ (f:=38) Try.func38 fun ⟨x0,x1,_⟩ y hy=>cR hF Try.func38 c38 (t38 H x0 x1 _ ⟨rfl,rfl⟩ hy)
def zrB:AC:=(.cond (.t 9) .skip (.exit 0))
def zsU:AC:=(.cond (.t 15) (.seq (rr [jv 4 (.mov kf)]) .ret) .skip)
def zrO:AC:=(rr [jm 10 5,jv 11 (.bin .add (.t 10) (jn 1)),jm 5 11])
def zoD:AC:=(.seq (.block 1 (.seq (rr [jm 12 1,jm 13 5,jx 14 (.call (jf 38) [.t 12,.t 13]),jv 15 (.un .not (.t 14))]) zsU)) zrO)
def zh8:AC:=(.seq (.seq (rr [jm 6 5,jv 7 (.fld (.t 2) 0 0),jl 8 7,jv 9 (.bin .lss (.t 6) (.t 8))]) zrB) zoD)
def zlH:AC:=(.seq (rr [jm 16 1,jk 17 16,jv 18 (.fld (.t 2) 0 0),jl 19 18,jv 20 (.bin .eql (.t 17) (.t 19)),jm 4 20]) .ret)
def zsN:AC:=(.block 0 (.loop zh8))
def zpy:AC:=(.seq (.seq (rr [jv 5 (.mov (jn 0))]) zsN) zlH)
def A56:AC:=(.seq (.reg [.clr [2]] [jx 2 (.box (.t 0)),jv 4 (.mov kf)] []) zpy)
def zut:List An:=[⟨0,[.clr [2]],[],[],[]⟩]
theorem c56:cq Try.prog Try.f56 zut=some A56:=by kernel_rfl
structure H56 (D:Den) (σ:Sig) (F:Nat):Prop where
 c38:C38 (D 38) F
 g38:σ 38=some (0,false)
abbrev R56 (r:Bool):(Nat→V)→Prop:=RR Try.prog [.tmp 4] 0 false (Enc.enc (r:Bool))
section
variable {r:Bool}
def Zu (F:Nat) (x2:LI) (x1:GR) :Nat→Int→Option Bool
 | 0,_=>none
 | k + 1,x4=>
   bif decide (x4 < x1.1) then
    (ul F x2 x4).bind fun r6=>
    bif (!r6) then
     some false
    else
     (Zu F x2 x1 k) (w64 (x4 + 1))
   else
    some ((x2.length:Int) == x1.1)
theorem zhN (H:H56 D σ F) (x2:LI) (x1:GR) :∀ (k:Nat) (x4:Int) (s:Nat→V),zu [(1,eL x2),(2,bG 2 x1),(4,jb false),(5,ji x4)] s→Zu F x2 x1 k x4=some r→Run D σ (R56 r) (.run zh8 [.lp zh8,.bk 0,.sq zlH]) s:=by
 intro k
 induction k with
 | zero=>intro x4 s _ h;exact nm h
 | succ k ih=>
   intro x4 s hs h
   rw [Zu] at h
   obtain ⟨h1,h2,h4,h5⟩:=hs
   refine .seq (.seq (rg (gm h5 fun h6=>g1 2 (.ref (.bx 2) 0 [0] (ji x1.1)) h2 fun h7=>g1 7 (ji x1.1) h7 fun h8=>g2 6 8 (jb (decide (x4 < x1.1))) h6 h8 fun h9=>gq (.nsq (zp h9 h (fun h=>?_) (fun h=>?_))))))
   · refine .skip (.nsq (.seq (.block (.seq (rg (gm h1 fun h12=>gm h5 fun h13=>?_))))))
     obtain ⟨r6,Er6,h⟩:=zc h
     refine gcF [eL x2,Enc.enc (x4:Int)] (zh h12 rfl (Enc.erase_enc (x2:LI)) (zh h13 rfl rfl zI)) (H.c38 _ _ _ Er6) H.g38 (g1 14 (jb (!r6)) (rf (jb r6)) fun h15=>gq (.nsq (zp h15 h (fun h=>?_) (fun h=>?_))))
     · refine .seq (rg (g0 (jb false) fun h4=>gq (.nsq (.ret ?_))))
       obtain rfl:=oi h
       exact rrA (zr h4) rfl
     refine .skip (.nbk (.nsq (rg (gm h5 fun h10=>g1 10 (ji (w64 (x4 + 1))) h10 fun h11=>gm h11 fun h5=>gq (.nlp ?_)))))
     exact ih (w64 (x4 + 1)) _ ⟨h1,h2,h4,h5⟩ h
   refine .exit (.esq (.elp (.ebk (.nsq (.seq (rg (gm h1 fun h16=>gl x2 h16 fun h17=>g1 2 (.ref (.bx 2) 0 [0] (ji x1.1)) h2 fun h18=>g1 18 (ji x1.1) h18 fun h19=>g2 17 19 (jb ((x2.length:Int) == x1.1)) h17 h19 fun h20=>gm h20 fun h4=>gq (.nsq (.ret ?_)))))))))
   obtain rfl:=oi h
   exact rrA (zr h4) rfl
def Xz (F:Nat) (x1:GR) (x2:LI):Option Bool:=
 Zu F x2 x1 F 0
theorem t56 (H:H56 D σ F) (x1:GR) (x2:LI) (s:Nat→V) (hs:zu [(0,gV x1),(1,eL x2)] s) (h:Xz F x1 x2=some r):Run D σ (R56 r) (.run A56 []) s:=by
 unfold Xz at h
 obtain ⟨h0,h1⟩:=hs
 refine .seq (zA (zZ ?_))
 refine ez [(0,_),(1,_),(2,_)] ⟨za h0 rfl mIE,za h1 rfl me,ze rfl⟩ ?_
 rintro s ⟨h0,h1,h2⟩
 refine xU (gV x1) (zx h0 rfl) h2 rfl (g0 (jb false) fun h4=>gq (.nsq (.seq (.seq (rg (g0 (ji 0) fun h5=>gq (.nsq (.block (.loop ?_)))))))))
 exact zhN H x2 x1 F 0 _ ⟨h1,rfl,h4,h5⟩ h
end
def e56 (F:Nat):Ent:=ent 56 (fun (x:(GR×LI×Unit))=>Xz F x.1 x.2.1) (fun (r:Bool)=>(Enc.enc (r:Bool))) 0 false []
abbrev C56 (D:List V→Option V) (F:Nat):Prop:=∀ (x0:GR) (x1:LI) r,Xz F x0 x1=some r→D [Enc.enc x0,Enc.enc x1]=some (Enc.enc (r:Bool))
theorem p56 {F:Nat}:C56 (e56 F).den F:=fun x0 x1 _ h=>zS (x0,x1,()) h
theorem o56 (hF:zF Try.prog D σ) (H:H56 D σ F):(e56 F).Ok Try.prog:=okZ (f:=56) Try.func56 fun ⟨x0,x1,_⟩ y hy=>cR hF Try.func56 c56 (t56 H x0 x1 _ ⟨rfl,rfl⟩ hy)
def zrq:AC:=(.seq (rr [jv 5 (.load (.ag [.s,.p]) (.t 2)),jx 6 (.call (jf 37) [.t 5]),jm 7 6,jg 8 7 true (.load (.ag [.s,.p]) (.t 2)),jg 9 7 true (.mov (.t 1)),.mk (some 10) (some (7,true)) false (.call (jf 56) [.t 8,.t 9]),jv 11 (.pick (.t 7) (.t 10) kf),jm 4 11]) .ret)
def A26:AC:=(.seq (.reg [.clr [2]] [jx 2 (.box (.t 0)),jv 4 (.mov kf)] []) zrq)
def zuB:List An:=[⟨0,[.clr [2]],[],[],[]⟩]
theorem c26:cq Try.prog Try.f26 zuB=some A26:=by kernel_rfl
structure H26 (D:Den) (σ:Sig) (F:Nat):Prop where
 c37:C37 (D 37) F
 g37:σ 37=some (0,false)
 c56:C56 (D 56) F
 g56:σ 56=some (0,false)
abbrev R26 (r:Bool):(Nat→V)→Prop:=RR Try.prog [.tmp 4] 0 false (Enc.enc (r:Bool))
section
variable {r:Bool}
def vR (F:Nat) (x1:GR) (x2:LI):Option Bool:=
 (YC F x1).bind fun r3=>
 bif r3 then
  (Xz F x1 x2).bind fun r4=>
  some r4
 else
  some false
theorem t26 (H:H26 D σ F) (x1:GR) (x2:LI) (s:Nat→V) (hs:zu [(0,gV x1),(1,eL x2)] s) (h:vR F x1 x2=some r):Run D σ (R26 r) (.run A26 []) s:=by
 unfold vR at h
 obtain ⟨h0,h1⟩:=hs
 refine .seq (zA (zZ ?_))
 refine ez [(0,_),(1,_),(2,_)] ⟨za h0 rfl mIE,za h1 rfl me,ze rfl⟩ ?_
 rintro s ⟨h0,h1,h2⟩
 refine xU (gV x1) (zx h0 rfl) h2 rfl (g0 (jb false) fun h4=>gq (.nsq (.seq (rg (g1 2 (gV x1) (rf (bG 2 x1)) fun h5=>?_)))))
 obtain ⟨r3,Er3,h⟩:=zc h
 refine gcF [Enc.enc (x1:GR)] (zh h5 rfl (Enc.erase_enc (x1:GR)) zI) (H.c37 _ _ Er3) H.g37 (gm (rf (jb r3)) fun h7=>yj h (fun hg3 h=>?_) (fun hg3 h=>?_))
 · refine zt (ct h7 hg3) (g1 2 (gV x1) (rf (bG 2 x1)) fun h8=>zt (ct h7 hg3) (gm h1 fun h9=>?_))
   obtain ⟨r4,Er4,h⟩:=zc h
   refine zt (ct h7 hg3) (gcF [Enc.enc (x1:GR),eL x2] (zh h8 rfl (Enc.erase_enc (x1:GR)) (zh h9 rfl (Enc.erase_enc (x2:LI)) zI)) (H.c56 _ _ _ Er4) H.g56 (g2 7 10 (jb r4) (ct h7 hg3) (rf (jb r4)) fun h11=>gm h11 fun h4=>gq (.nsq (.ret ?_))))
   obtain rfl:=oi h
   exact rrA (zr h4) rfl
 iterate 3 refine yY (ct h7 hg3) ?_
 refine g2 7 10 (jb false) (ct h7 hg3) (rf (.tup [])) fun h11=>gm h11 fun h4=>gq (.nsq (.ret ?_))
 obtain rfl:=oi h
 exact rrA (zr h4) rfl
end
def e26 (F:Nat):Ent:=ent 26 (fun (x:(GR×LI×Unit))=>vR F x.1 x.2.1) (fun (r:Bool)=>(Enc.enc (r:Bool))) 0 false []
abbrev C26 (D:List V→Option V) (F:Nat):Prop:=∀ (x0:GR) (x1:LI) r,vR F x0 x1=some r→D [Enc.enc x0,Enc.enc x1]=some (Enc.enc (r:Bool))
theorem p26 {F:Nat}:C26 (e26 F).den F:=fun x0 x1 _ h=>zS (x0,x1,()) h
theorem o26 (hF:zF Try.prog D σ) (H:H26 D σ F):(e26 F).Ok Try.prog:=okZ (f:=26) Try.func26 fun ⟨x0,x1,_⟩ y hy=>cR hF Try.func26 c26 (t26 H x0 x1 _ ⟨rfl,rfl⟩ hy)
end Go.Zq
