/- Functions of the program, typed (part 2). No further condition. -/
import Derived.Test.YtelahampjnaimaeG1
set_option linter.unusedVariables false
set_option linter.unusedSimpArgs false
namespace Go.Zq
open Go.Proofs Go.Shelf Enc
variable {D:Den} {σ:Sig} {F:Nat}
def zu7:AC:=(.seq (rr [jm 3 0,jx 4 (.callT (jf 39) [.t 3,jn 6] [0] []),jz (.store (.ag [.s,.p]) (.t 2) (.t 4))]) .ret)
def A18:AC:=(.seq (.reg [.clr [2]] [jx 2 (.alloc (.agg [i0,.sl .nl (.ag [.s,.s]) 0 []]))] []) zu7)
def zwL:List An:=[⟨0,[.clr [2]],[],[],[]⟩,⟨1,[],[],[2000000],[]⟩]
theorem c18:cq Tp Try.f18 zwL=some A18:=by kernel_rfl
structure H18 (D:Den) (σ:Sig) (F:Nat):Prop where
 c39:C39 (D 39) F
 g39:σ 39=some (Zc,false)
abbrev R18 (r:(GR×CU)):(Nat→V)→Prop:=RT Tp [.cell 2 26] (enc (r.1:GR)) [cuV zP r.2]
section
variable {r:(GR×CU)}
def vt (F:Nat) (x1:CC):Option (GR×CU):=
 (w8 F (Cu.mk x1.v) 6).bind fun r2=>
 some (r2.1,r2.2)
theorem t18 (H:H18 D σ F) (x1:CC) (s:Nat→V) (hs:zB [(0,bC x1.v)] s) (h:vt F x1=some r):Run D σ (R18 r) (.run A18 []) s:=by
 unfold vt at h
 have h0:=hs
 refine .seq (zC (yc ?_))
 refine ez [(0,_),(2,_)] ⟨za h0 rfl (zi rfl ue),zg rfl⟩ ?_
 rintro s ⟨h0,h2⟩
 refine y6 h2 (gq (.nsq (.seq (rg (gm h0 fun h3=>?_)))))
 obtain ⟨r2,Er2,h⟩:=zd h
 refine vJ (r:=zP) (b:=0) (x:=x1.v) (x':=r2.2) (vs:=[enc (6:Int)]) (res:=enc (r2.1:GR)) h0 (by exact (zL (v:=cuV zP x1.v) h3 rfl (zL (v:=enc (6:Int)) rfl rfl yQ))) (yh te yz) fm1 (H.c39 _ _ _ Er2) H.g39 te rfl (fun s2 hb2 ha2=>zQ (gV r2.1) (zx (show s2 2=(bZ 2) from ha2 2 (bZ 2) _ rfl rfl (zi rfl (mIx rfl))) rfl) (zx rfl rfl) (xr (by first | rfl | simp [V.toks,V.tokss,toks_enc,zN])) ?_)
 refine gz [(0,bC r2.2),(2,bG 2 r2.1)] ⟨zb (show s2 0=(bC r2.2) from hb2 0 h0) (zj rfl rfl Uw),zb (show s2 2=(bZ 2) from ha2 2 (bZ 2) _ rfl rfl (zi rfl (mIx rfl))) rfl⟩ ?_
 rintro s ⟨h0,h2⟩
 refine .nsq (.ret ?_)
 obtain rfl:=oi h
 exact rt1 (t:=0) (yL h2 (by kernel_rfl)) h0
end
def e18 (F:Nat):Ent:=ent 18 (fun (x:(CC×Unit))=>vt F x.1) (fun (r:(GR×CU))=>(.tup [enc (r.1:GR),.tup [cuV zP r.2]])) Zc false []
abbrev C18 (D:List V→Option V) (F:Nat):Prop:=∀ (x0:CC) r,vt F x0=some r→D [Arg.arg x0]=some (.tup [enc (r.1:GR),.tup [cuV zP r.2]])
theorem p18 {F:Nat}:C18 (e18 F).den F:=fun x0 _ h=>zZ (x0,()) h
theorem o18 (hF:zH Tp D σ) (H:H18 D σ F):(e18 F).Ok Tp:=okZ (f:=18) Try.func18 fun ⟨x0,_⟩ y hy=>cT hF Try.func18 c18 (t18 H x0 _ rfl hy)
def zpL:AC:=(.cond (.t 13) .skip (.exit 0))
def zpV:AC:=(.reg [.clr [21,25,27,28,32]] [jy 21 (.lit i0 0 []),jm 22 5,jm 23 7,jv 24 (.slice (.t 22) none (some (.t 23)) 1),jy 25 (.appS .s (.t 21) (.t 24)),jm 26 6,jx 27 (.lit i0 1 [(0,0,.t 26)]),jy 28 (.appS .s (.t 25) (.t 27)),jm 29 5,jm 30 7,jv 31 (.slice (.t 29) (some (.t 30)) none 1),jx 32 (.appS .s (.t 28) (.t 31)),jm 5 32] [.home 32 5])
def zrP:AC:=(rr [jm 14 6,jv 15 (.bin .add (.t 14) (jn 1)),jm 6 15])
def zrC:AC:=(.seq (.block 1 (.seq (rr [jm 16 0,jm 17 5,jk 18 17,jv 19 (.bin .add (.t 18) (jn 1)),jx 20 (.callT (jf 20) [.t 16,.t 19] [0] []),jm 7 20]) zpV)) zrP)
def zi5:AC:=(.seq (.seq (rr [jm 9 6,jv 10 (.fld (.t 3) 0 0),jl 11 10,jx 12 (.call (jf 40) [.t 11,jn 8]),jv 13 (.bin .lss (.t 9) (.t 12))]) zpL) zrC)
def zt4:AC:=(.cond (.t 34) (.reg [.clr [37,39,40]] [jm 35 5,jm 36 0,jx 37 (.litS i0 3 [(0,0,jn 0),(1,1,jn (-1)),(2,2,jn 8)]),jx 38 (.callT (jf 42) [.t 36,.t 37] [0] []),jx 39 (.lit i0 1 [(0,0,.t 38)]),jx 40 (.app .s (.t 35) (.t 39)),jm 5 40] [.home 40 5]) .skip)
def zvB:AC:=(.seq (.reg [] [jm 41 5,jm 4 41] [.home 5 4,.frz 4]) .ret)
def zmb:AC:=(.seq (.seq (rr [jm 33 0,jx 34 (.callT (jf 41) [.t 33,jn 24] [0] [])]) zt4) zvB)
def znX:AC:=(.block 0 (.loop zi5))
def zn4:AC:=(.seq (.seq (rr [jv 6 (.mov (jn 0))]) znX) zmb)
def zqF:AC:=(.seq (.reg [.clr [8]] [jx 8 (.lit i0 0 []),jm 5 8] [.home 8 5]) zn4)
def A19:AC:=(.seq (.reg [.clr [3]] [jx 3 (.box (.t 1)),jv 4 (.mov (.k (.sl .nl .s 0 [])))] []) zqF)
def zwk:List An:=[⟨0,[.clr [3]],[],[],[]⟩,⟨1,[.clr [8]],[],[],[.home 8 5]⟩,⟨5,[],[],[5000000],[]⟩,⟨6,[.clr [21,25,27,28,32]],[0,4,7],[4,7,11],[.home 32 5]⟩,⟨7,[],[],[2000000],[]⟩,⟨8,[.clr [37,39,40]],[],[4000000,6002],[.home 40 5]⟩,⟨9,[],[],[],[.home 5 4,.frz 4]⟩]
theorem c19:cq Tp Try.f19 zwk=some A19:=by kernel_rfl
structure H19 (D:Den) (σ:Sig) (F:Nat):Prop where
 c40:C40 (D 40) F
 g40:σ 40=some (0,false)
 c20:C20 (D 20) F
 g20:σ 20=some (Zc,false)
 c41:C41 (D 41) F
 g41:σ 41=some (Zc,false)
 c42:C42 (D 42) F
 g42:σ 42=some (Zc,false)
abbrev R19 (r:(LI×CU)):(Nat→V)→Prop:=RT Tp [.tmp 4] (eL r.1) [cuV zP r.2]
section
variable {r:(LI×CU)}
def wB (F:Nat) (x2:GR) :Nat→LB→Int→Int→LI→Int→Option (LI×CU)
 | 0,_,_,_,_,_=>none
 | k + 1,x10,x11,x12,x13,x14=>
   (ZM F x2.1 8).bind fun r22=>
   bif decide (x14 < r22) then
    (yj F (cu x10 x11 x12) (w64 ((x13.length:Int) + 1))).bind fun r23=>
    (sub x13 0 r23.1).bind fun sub24=>
    (vh [] sub24).bind fun ap25=>
    (vh ap25 [x14]).bind fun ap26=>
    (sub x13 r23.1 (x13.length:Int)).bind fun sub27=>
    (vh ap26 sub27).bind fun ap28=>
    (wB F x2 k) r23.2.a r23.2.b r23.2.c.v ap28 (w64 (x14 + 1))
   else
    (wF F (cu x10 x11 x12) 24).bind fun r29=>
    bif r29.1 then
     (xx F (Cu.mk r29.2) [0,(-1),8]).bind fun r30=>
     (vh x13 [r30.1]).bind fun ap31=>
     some (ap31,r30.2)
    else
     some (x13,r29.2)
theorem zig (H:H19 D σ F) (x2:GR) :∀ (k:Nat) (x10:LB) (x11:Int) (x12:Int) (x13:LI) (x14:Int) (s:Nat→V),zB [(0,.ref (.bx zP) 0 [] (.agg [eB x10,ji x11,.int .u64 x12])),(3,bG 3 x2),(4,nI),(5,oI 5 [] (.of x13)),(6,ji x14)] s→wB F x2 k x10 x11 x12 x13 x14=some r→Run D σ (R19 r) (.run zi5 [.lp zi5,.bk 0,.sq zmb]) s:=by
 intro k
 induction k with
 | zero=>intro x10 x11 x12 x13 x14 s _ h;exact nm h
 | succ k ih=>
   intro x10 x11 x12 x13 x14 s hs h
   rw [wB] at h
   obtain ⟨h0,h3,h4,h5,h6⟩:=hs
   refine .seq (.seq (rg (gm h6 fun h9=>g1 3 (.ref (.bx 3) 0 [0] (ji x2.1)) h3 fun h10=>g1 10 (ji x2.1) h10 fun h11=>?_)))
   obtain ⟨r22,Er22,h⟩:=zd h
   refine gcF [enc (x2.1:Int),enc (8:Int)] (zl h11 rfl rfl (zl (v:=ji 8) rfl rfl rfl zJ)) (H.c40 _ _ _ Er22) H.g40 (g2 9 12 (jb (decide (x14 < r22))) h9 (rf (ji r22)) fun h13=>gq (.nsq (zu h13 h (fun h=>?_) (fun h=>?_))))
   · refine .skip (.nsq (.seq (.block (.seq (rg (gm h0 fun h16=>gm h5 fun h17=>gv (ji (x13.length:Int)) (YN (o:=.of x13) h17) fun h18=>g1 18 (ji (w64 ((x13.length:Int) + 1))) h18 fun h19=>?_))))))
     obtain ⟨r23,Er23,h⟩:=zd h
     refine vJ (r:=zP) (b:=0) (x:=((S3.mk x10 x11 (Kd.mk x12:Kd .u64)):CU)) (x':=r23.2) (vs:=[enc (w64 ((x13.length:Int) + 1):Int)]) (res:=enc (r23.1:Int)) h0 (by exact (zL (v:=cuV zP ((S3.mk x10 x11 (Kd.mk x12:Kd .u64)):CU)) h16 rfl (zL (v:=enc (w64 ((x13.length:Int) + 1):Int)) h19 rfl yQ))) (yh te yz) fm1 (H.c20 _ _ _ Er23) H.g20 te rfl (fun s10 hb10 ha10=>gm (rf (ji r23.1)) fun h7=>?_)
     refine gz [(0,_),(3,bG 3 x2),(4,nI),(5,oI 5 [] (.of x13)),(6,ji x14),(7,_)] ⟨(show s10 0=(bC r23.2) from hb10 0 h0),(show s10 3=(bG 3 x2) from ha10 3 _ _ h3 rfl (zi rfl mIE)),(show s10 4=nI from ha10 4 _ _ h4 rfl rfl),(show s10 5=(oI 5 [] (.of x13)) from ha10 5 _ _ h5 rfl (zm (r:=5) (p:=[]) rfl rfl)),(show s10 6=(ji x14) from ha10 6 _ _ h6 rfl mi),h7⟩ ?_
     rintro s ⟨h0,h3,h4,h5,h6,h7⟩
     refine .nsq (zC (yc ?_))
     refine ez [(0,_),(3,_),(4,_),(5,_),(6,_),(7,_),(21,_),(25,_),(27,_),(28,_),(32,_)] ⟨za h0 rfl (zi rfl ue),za h3 rfl (zi rfl mIE),za h4 rfl rfl,za h5 rfl (zm (r:=5) (p:=[]) rfl rfl),za h6 rfl mi,za h7 rfl mi,zg rfl,zg rfl,zg rfl,zg rfl,zg rfl⟩ ?_
     rintro s ⟨h0,h3,h4,h5,h6,h7,h21,h25,h27,h28,h32⟩
     refine zaP [] [] trivial rfl rfl h21 (gm h5 fun h22=>gm h7 fun h23=>?_)
     obtain ⟨sub24,Esub24,h⟩:=zd h
     refine gv (.sl (.at 5 []) (shp Int) (Int.toNat 0) ((sub24:LI).map enc)) (Mg (xs:=x13) h22 (u9) (Ze h23) Esub24 rfl) fun h24=>?_
     obtain ⟨ap25,Eap25,h⟩:=zd h
     refine U5 (p:=[]) (xs:=[]) (ys:=(sub24:LI)) (t2:=.at 5 []) (lo2:=Int.toNat 0) rfl h24 rfl h25 rfl Eap25 (gm h6 fun h26=>xv [(26,ji x14)] [enc (x14:Int)] h26 rfl rfl h27 ?_)
     obtain ⟨ap26,Eap26,h⟩:=zd h
     refine U5 (p:=[]) (xs:=ap25) (ys:=([x14]:LI)) (t2:=.at 27 []) (lo2:=0) rfl rfl rfl h28 rfl Eap26 (gm h5 fun h29=>gm h7 fun h30=>?_)
     obtain ⟨sub27,Esub27,h⟩:=zd h
     refine gv (.sl (.at 5 []) (shp Int) (Int.toNat r23.1) ((sub27:LI).map enc)) (Mg (xs:=x13) h29 (Ze h30) (u9) Esub27 rfl) fun h31=>?_
     obtain ⟨ap28,Eap28,h⟩:=zd h
     refine U5 (p:=[]) (xs:=ap26) (ys:=(sub27:LI)) (t2:=.at 5 []) (lo2:=Int.toNat r23.1) rfl h31 rfl h32 rfl Eap28 (gm (rf (oI 32 [] (.of ap28))) fun h5=>xf (yR (r:=32) (x:=5) (v:=_) h5 rfl (fun s12 hz12=>?_)))
     refine ez [(0,bC r23.2),(3,bG 3 x2),(4,nI),(5,oI 5 [] (.of ap28)),(6,ji x14)] ⟨hz12 0 _ _ h0 (zi rfl ue),hz12 3 _ _ h3 (zi rfl mIE),hz12 4 _ _ h4 rfl,hz12 5 _ _ h5 (zm (r:=32) (p:=[]) rfl rfl),hz12 6 _ _ h6 mi⟩ ?_
     rintro s ⟨h0,h3,h4,h5,h6⟩
     refine .nbk (.nsq (rg (gm h6 fun h14=>g1 14 (ji (w64 (x14 + 1))) h14 fun h15=>gm h15 fun h6=>gq (.nlp ?_))))
     exact ih r23.2.a r23.2.b r23.2.c.v ap28 (w64 (x14 + 1)) _ ⟨h0,h3,h4,h5,h6⟩ h
   refine .exit (.esq (.elp (.ebk (.nsq (.seq (.seq (rg (gm h0 fun h33=>?_))))))))
   obtain ⟨r29,Er29,h⟩:=zd h
   refine vJ (r:=zP) (b:=0) (x:=((S3.mk x10 x11 (Kd.mk x12:Kd .u64)):CU)) (x':=r29.2) (vs:=[enc (24:Int)]) (res:=enc (r29.1:Bool)) h0 (by exact (zL (v:=cuV zP ((S3.mk x10 x11 (Kd.mk x12:Kd .u64)):CU)) h33 rfl (zL (v:=enc (24:Int)) rfl rfl yQ))) (yh te yz) fm1 (H.c41 _ _ _ Er29) H.g41 te rfl (fun s13 hb13 ha13=>gz [(0,_),(4,nI),(5,oI 5 [] (.of x13)),(34,jb r29.1)] ⟨(show s13 0=(bC r29.2) from hb13 0 h0),(show s13 4=nI from ha13 4 _ _ h4 rfl rfl),(show s13 5=(oI 5 [] (.of x13)) from ha13 5 _ _ h5 rfl (zm (r:=5) (p:=[]) rfl rfl)),rfl⟩ ?_)
   rintro s ⟨h0,h4,h5,h34⟩
   refine .nsq (zu h34 h (fun h=>?_) (fun h=>?_))
   · refine zC (yc ?_)
     refine ez [(0,_),(4,_),(5,_),(37,_),(39,_),(40,_)] ⟨za h0 rfl (zi rfl ue),za h4 rfl rfl,za h5 rfl (zm (r:=5) (p:=[]) rfl rfl),zg rfl,zg rfl,zg rfl⟩ ?_
     rintro s ⟨h0,h4,h5,h37,h39,h40⟩
     refine gm h5 fun h35=>gm h0 fun h36=>KO [] ([0,(-1),8]:LI) trivial rfl rfl rfl h37 (fun s15 hd_15 hl_15=>?_)
     obtain ⟨r30,Er30,h⟩:=zd h
     refine vJ (r:=zP) (b:=0) (x:=r29.2) (x':=r30.2) (vs:=[enc ([0,(-1),8]:LI)]) (res:=enc (r30.1:Int)) (show s15 0=(bC r29.2) from (hl_15 0 (by decide)).trans h0) (by exact (zL (v:=cuV zP r29.2) (show s15 36=(bC r29.2) from (hl_15 36 (by decide)).trans h36) rfl (zL (v:=enc ([0,(-1),8]:LI)) (show s15 37=(eL [0,(-1),8]) from hd_15) rfl yQ))) (yh te yz) fm1 (H.c42 _ _ _ Er30) H.g42 te rfl (fun s16 hb16 ha16=>xv [(38,ji r30.1)] [enc (r30.1:Int)] rfl rfl rfl (show s16 39 = .gone from ha16 39 _ _ (show s15 39 = .gone from (hl_15 39 (by decide)).trans h39) rfl rfl) ?_)
     obtain ⟨ap31,Eap31,h⟩:=zd h
     refine ZG (q:=5) (p:=[]) (o:=.of (x13:LI)) (ys:=([r30.1]:LI)) (t2:=.at 39 []) (lo2:=0) (show s16 35=(oI 5 [] (.of x13)) from ha16 35 _ _ (show s15 35=(oI 5 [] (.of x13)) from (hl_15 35 (by decide)).trans h35) rfl (zm (r:=5) (p:=[]) rfl rfl)) rfl rfl (show s16 40 = .gone from ha16 40 _ _ (show s15 40 = .gone from (hl_15 40 (by decide)).trans h40) rfl rfl) (vK (o:=.of (x13:LI)) Eap31 trivial) (fun s17 ha17=>gm (rf (oI 40 [] (.of ap31))) fun h5=>xf (yR (r:=40) (x:=5) (v:=_) h5 rfl (fun s18 hz18=>?_)))
     refine ez [(0,bC r30.2),(4,nI),(5,oI 5 [] (.of ap31))] ⟨hz18 0 _ _ (show s17 0=(bC r30.2) from zF ha17 (show s16 0=(bC r30.2) from hb16 0 (show s15 0=(bC r29.2) from (hl_15 0 (by decide)).trans h0)) (zi rfl ue)) (zi rfl ue),hz18 4 _ nI (show s17 4=nI from zF ha17 (show s16 4=nI from ha16 4 _ _ (show s15 4=nI from (hl_15 4 (by decide)).trans h4) rfl rfl) rfl) rfl,hz18 5 _ _ h5 (zm (r:=40) (p:=[]) rfl rfl)⟩ ?_
     rintro s ⟨h0,h4,h5⟩
     refine .nsq (.seq (rg (gm h5 fun h41=>gm h41 fun h4=>xf (yR (r:=5) (x:=4) (v:=_) h4 rfl (fun s19 hz19=>JQ (x:=4) (v:=oI 4 [] (.of ap31)) [.at 4 []] (by exact (hz19 4 _ _ h4 (zm (r:=5) (p:=[]) rfl rfl))) zM (fun s20 hz20=>?_))))))
     refine ez [(0,bC r30.2),(4,eL ap31)] ⟨hz20 0 (bC r30.2) (bC r30.2) (hz19 0 _ _ h0 (zi rfl ue)) (wO rfl zbq rfl),hz20 4 (oI 4 [] (.of ap31)) (eL ap31) (hz19 4 _ _ h4 (zm (r:=5) (p:=[]) rfl rfl)) Xo⟩ ?_
     rintro s ⟨h0,h4⟩
     refine .nsq (.ret ?_)
     obtain rfl:=oi h
     exact rt1 (t:=0) (zA h4) h0
   refine .skip (.nsq (.seq (rg (gm h5 fun h41=>gm h41 fun h4=>xf (yR (r:=5) (x:=4) (v:=_) h4 rfl (fun s21 hz21=>JQ (x:=4) (v:=oI 4 [] (.of x13)) [.at 4 []] (by exact (hz21 4 _ _ h4 (zm (r:=5) (p:=[]) rfl rfl))) zM (fun s22 hz22=>?_)))))))
   refine ez [(0,bC r29.2),(4,eL x13)] ⟨hz22 0 (bC r29.2) (bC r29.2) (hz21 0 _ _ h0 (zi rfl ue)) (wO rfl zbq rfl),hz22 4 (oI 4 [] (.of x13)) (eL x13) (hz21 4 _ _ h4 (zm (r:=5) (p:=[]) rfl rfl)) Xo⟩ ?_
   rintro s ⟨h0,h4⟩
   refine .nsq (.ret ?_)
   obtain rfl:=oi h
   exact rt1 (t:=0) (zA h4) h0
def vB (F:Nat) (x1:CC) (x2:GR):Option (LI×CU):=
 wB F x2 F x1.v.a x1.v.b x1.v.c.v [] 0
theorem t19 (H:H19 D σ F) (x1:CC) (x2:GR) (s:Nat→V) (hs:zB [(0,bC x1.v),(1,gV x2)] s) (h:vB F x1 x2=some r):Run D σ (R19 r) (.run A19 []) s:=by
 unfold vB at h
 obtain ⟨h0,h1⟩:=hs
 refine .seq (zC (yc ?_))
 refine ez [(0,_),(1,_),(3,_)] ⟨za h0 rfl (zi rfl ue),za h1 rfl mIE,zg rfl⟩ ?_
 rintro s ⟨h0,h1,h3⟩
 refine xU (gV x2) (zx h1 rfl) h3 rfl (g0 nI fun h4=>gq (.nsq (.seq (zC (yc ?_)))))
 refine ez [(0,_),(3,_),(4,_),(8,_)] ⟨za h0 rfl (zi rfl ue),za rfl rfl (zi rfl mIE),za h4 rfl rfl,zg rfl⟩ ?_
 rintro s ⟨h0,h3,h4,h8⟩
 refine xv [] [] trivial rfl rfl h8 (gm (rf (oI 8 [] (.of []))) fun h5=>xf (yR (r:=8) (x:=5) (v:=_) h5 rfl (fun s3 hz3=>?_)))
 refine ez [(0,bC x1.v),(3,bG 3 x2),(4,nI),(5,oI 5 [] (.of []))] ⟨hz3 0 _ _ h0 (zi rfl ue),hz3 3 _ _ h3 (zi rfl mIE),hz3 4 _ _ h4 rfl,hz3 5 _ _ h5 (zm (r:=8) (p:=[]) rfl rfl)⟩ ?_
 rintro s ⟨h0,h3,h4,h5⟩
 refine .nsq (.seq (.seq (rg (g0 (ji 0) fun h6=>gq (.nsq (.block (.loop ?_)))))))
 exact zig H x2 F x1.v.a x1.v.b x1.v.c.v [] 0 _ ⟨h0,h3,h4,h5,h6⟩ h
end
def e19 (F:Nat):Ent:=ent 19 (fun (x:(CC×GR×Unit))=>vB F x.1 x.2.1) (fun (r:(LI×CU))=>(.tup [eL r.1,.tup [cuV zP r.2]])) Zc false []
abbrev C19 (D:List V→Option V) (F:Nat):Prop:=∀ (x0:CC) (x1:GR) r,vB F x0 x1=some r→D [Arg.arg x0,enc x1]=some (.tup [eL r.1,.tup [cuV zP r.2]])
theorem p19 {F:Nat}:C19 (e19 F).den F:=fun x0 x1 _ h=>zZ (x0,x1,()) h
theorem o19 (hF:zH Tp D σ) (H:H19 D σ F):(e19 F).Ok Tp:=okZ (f:=19) Try.func19 fun ⟨x0,x1,_⟩ y hy=>cT hF Try.func19 c19 (t19 H x0 x1 _ ⟨rfl,rfl⟩ hy)
def zr5:AC:=(.seq (rr [jm 7 0,jm 8 1,jv 9 (.bin .geq (.t 7) (.t 8)),jm 10 9,jg 11 10 true (.mov (.t 0)),jg 12 10 true (.mov (.t 2)),jg 13 10 true (.bin .leq (.t 11) (.t 12)),jv 14 (.pick (.t 10) (.t 13) kf),jm 6 14]) .ret)
def A53:AC:=(.seq (rr [jv 6 (.mov kf)]) zr5)
def zwU:List An:=[]
theorem c53:cq Tp Try.f53 zwU=some A53:=by kernel_rfl
structure H53 (D:Den) (σ:Sig) (F:Nat):Prop where
 mk ::
abbrev R53 (r:Bool):(Nat→V)→Prop:=RR Tp [.tmp 6] 0 false (enc (r:Bool))
section
variable {r:Bool}
def W0 (F:Nat) (x1:Int) (x2:Int) (x3:Int):Option Bool:=
 bif decide (x1≥x2) then
  some (decide (x1≤x3))
 else
  some false
theorem t53 (H:H53 D σ F) (x1:Int) (x2:Int) (x3:Int) (s:Nat→V) (hs:zB [(0,ji x1),(1,ji x2),(2,ji x3)] s) (h:W0 F x1 x2 x3=some r):Run D σ (R53 r) (.run A53 []) s:=by
 unfold W0 at h
 obtain ⟨h0,h1,h2⟩:=hs
 refine .seq (rg (g0 (jb false) fun h6=>gq (.nsq (.seq (rg (gm h0 fun h7=>gm h1 fun h8=>g2 7 8 (jb (decide (x1≥x2))) h7 h8 fun h9=>gm h9 fun h10=>yd h (fun hg4 h=>?_) (fun hg4 h=>?_)))))))
 · refine zt (ct h10 hg4) (gm h0 fun h11=>zt (ct h10 hg4) (gm h2 fun h12=>zt (ct h10 hg4) (g2 11 12 (jb (decide (x1≤x3))) h11 h12 fun h13=>g2 10 13 (jb (decide (x1≤x3))) (ct h10 hg4) h13 fun h14=>gm h14 fun h6=>gq (.nsq (.ret ?_)))))
   obtain rfl:=oi h
   exact rrA (zA h6) rfl
 iterate 3 refine yq (ct h10 hg4) ?_
 refine g2 10 13 (jb false) (ct h10 hg4) (rf (.tup [])) fun h14=>gm h14 fun h6=>gq (.nsq (.ret ?_))
 obtain rfl:=oi h
 exact rrA (zA h6) rfl
end
def e53 (F:Nat):Ent:=ent 53 (fun (x:(Int×Int×Int×Unit))=>W0 F x.1 x.2.1 x.2.2.1) (fun (r:Bool)=>(enc (r:Bool))) 0 false []
abbrev C53 (D:List V→Option V) (F:Nat):Prop:=∀ (x0:Int) (x1:Int) (x2:Int) r,W0 F x0 x1 x2=some r→D [enc x0,enc x1,enc x2]=some (enc (r:Bool))
theorem p53 {F:Nat}:C53 (e53 F).den F:=fun x0 x1 x2 _ h=>zZ (x0,x1,x2,()) h
theorem o53 (hF:zH Tp D σ) (H:H53 D σ F):(e53 F).Ok Tp:=okZ (f:=53) Try.func53 fun ⟨x0,x1,x2,_⟩ y hy=>cR hF Try.func53 c53 (t53 H x0 x1 x2 _ ⟨rfl,rfl,rfl⟩ hy)
def zrW:AC:=(.cond (.t 9) .skip (.exit 0))
def zlT:AC:=(.cond (.t 54) (.seq (rr [jv 2 (.mov kf)]) .ret) .skip)
def ztI:AC:=(.seq (rr [jv 17 (.idxA (.t 4) (jn 0) 2 1),jl 18 17,jv 19 (.fld (.t 1) 0 0),jl 20 19,jv 21 (.bin .sub (.t 20) (jn 1)),jx 22 (.call (jf 53) [.t 18,jn 0,.t 21]),jv 23 (.un .not (.t 22)),jm 24 23,jg 25 24 false (.idxA (.t 4) (jn 1) 2 1),jg 26 24 false (.load .s (.t 25)),jg 27 24 false (.fld (.t 1) 0 0),jg 28 24 false (.load .s (.t 27)),jg 29 24 false (.bin .sub (.t 28) (jn 1)),.mk (some 30) (some (24,false)) false (.call (jf 53) [.t 26,jn 0,.t 29]),jg 31 24 false (.un .not (.t 30)),jv 32 (.pick (.t 24) kt (.t 31)),jm 33 32,jg 34 33 false (.idxA (.t 4) (jn 0) 2 1),jg 35 33 false (.load .s (.t 34)),jg 36 33 false (.idxA (.t 4) (jn 1) 2 1),jg 37 33 false (.load .s (.t 36)),jg 38 33 false (.bin .geq (.t 35) (.t 37)),jv 39 (.pick (.t 33) kt (.t 38)),jm 40 39,jg 41 40 false (.mov (.t 3)),jg 42 40 false (.bin .gtr (.t 41) (jn 0)),jg 43 40 false (.mov (.t 42)),jg 44 43 true (.fld (.t 1) 1 1),jg 45 43 true (.load .p (.t 44)),jg 46 43 true (.mov (.t 3)),jg 47 43 true (.bin .sub (.t 46) (jn 1)),jg 48 43 true (.idx (.t 45) (.t 47) 2),jg 49 43 true (.load (.ag [.s,.s]) (.t 48)),jg 50 43 true (.load (.ag [.s,.s]) (.t 4)),.mk (some 51) (some (43,true)) false (.call (jf 54) [.t 49,.t 50]),jg 52 43 true (.un .not (.t 51)),jg 53 40 false (.pick (.t 43) (.t 52) kf),jv 54 (.pick (.t 40) kt (.t 53))]) zlT)
def zlR:AC:=(rr [jm 10 3,jv 11 (.bin .add (.t 10) (jn 1)),jm 3 11])
def zuz:AC:=(.seq (.block 1 (.seq (.reg [.clr [4]] [jv 12 (.fld (.t 1) 1 1),jv 13 (.load .p (.t 12)),jm 14 3,jv 15 (.idx (.t 13) (.t 14) 2),jv 16 (.load (.ag [.s,.s]) (.t 15)),jx 4 (.alloc (.agg [i0,i0])),jz (.store (.ag [.s,.s]) (.t 4) (.t 16))] []) ztI)) zlR)
def QI:AC:=(.seq (.seq (rr [jm 5 3,jv 6 (.fld (.t 1) 1 1),jv 7 (.load .p (.t 6)),jk 8 7,jv 9 (.bin .lss (.t 5) (.t 8))]) zrW) zuz)
def zeM:AC:=(.seq (rr [jv 55 (.fld (.t 1) 0 0),jl 56 55,jx 57 (.call (jf 53) [.t 56,jn 0,jn 8]),jm 2 57]) .ret)
def ztg:AC:=(.block 0 (.loop QI))
def zva:AC:=(.seq (.seq (rr [jv 3 (.mov (jn 0))]) ztg) zeM)
def A24:AC:=(.seq (.reg [.clr [1]] [jx 1 (.box (.t 0)),jv 2 (.mov kf)] []) zva)
def zwR:List An:=[⟨0,[.clr [1]],[],[],[]⟩,⟨4,[.clr [4]],[],[],[]⟩]
theorem c24:cq Tp Try.f24 zwR=some A24:=by kernel_rfl
structure H24 (D:Den) (σ:Sig) (F:Nat):Prop where
 c53:C53 (D 53) F
 g53:σ 53=some (0,false)
 c54:C54 (D 54) F
 g54:σ 54=some (0,false)
abbrev R24 (r:Bool):(Nat→V)→Prop:=RR Tp [.tmp 2] 0 false (enc (r:Bool))
section
variable {r:Bool}
def Zp (F:Nat) (x1:GR) (x12:Int) (c1:Int→Option Bool) (x28:Bool):Option Bool:=
 bif x28 then
  some false
 else
  c1 (w64 (x12 + 1))
theorem JU (H:H24 D σ F) (x1:GR) (x12:Int) (c1:Int→Option Bool) (Hc1:∀ (x12:Int) (s:Nat→V),zB [(1,bG 1 x1),(2,jb false),(3,ji x12)] s→c1 x12=some r→Run D σ (R24 r) (.run QI [.lp QI,.bk 0,.sq zeM]) s) (x28:Bool) (s:Nat→V) (hs:zB [(1,bG 1 x1),(2,jb false),(3,ji x12),(54,jb x28)] s) (h:Zp F x1 x12 c1 x28=some r):Run D σ (R24 r) (.nrm [.sq zlT,.bk 1,.sq zlR,.lp QI,.bk 0,.sq zeM]) s:=by
 unfold Zp at h
 obtain ⟨h1,h2,h3,h54⟩:=hs
 refine .nsq (zu h54 h (fun h=>?_) (fun h=>?_))
 · refine .seq (rg (g0 (jb false) fun h2=>gq (.nsq (.ret ?_))))
   obtain rfl:=oi h
   exact rrA (zA h2) rfl
 refine .skip (.nbk (.nsq (rg (gm h3 fun h10=>g1 10 (ji (w64 (x12 + 1))) h10 fun h11=>gm h11 fun h3=>gq (.nlp ?_)))))
 exact Hc1 (w64 (x12 + 1)) _ ⟨h1,h2,h3⟩ h
def wa (F:Nat) (x1:GR) :Nat→Int→Option Bool
 | 0,_=>none
 | k + 1,x12=>
   bif decide (x12 < (x1.2.length:Int)) then
    (idx x1.2 x12).bind fun v23=>
    (W0 F v23.1 0 (w64 (x1.1 - 1))).bind fun r29=>
    bif (!r29) then
     Zp F x1 x12 (wa F x1 k) true
    else
     (W0 F v23.2 0 (w64 (x1.1 - 1))).bind fun r30=>
     bif (!r30) then
      Zp F x1 x12 (wa F x1 k) true
     else
      bif decide (v23.1≥v23.2) then
       Zp F x1 x12 (wa F x1 k) true
      else
       bif decide (x12 > 0) then
        (idx x1.2 (w64 (x12 - 1))).bind fun v31=>
        (Zu F v31 v23).bind fun r32=>
        Zp F x1 x12 (wa F x1 k) (!r32)
       else
        Zp F x1 x12 (wa F x1 k) false
   else
    (W0 F x1.1 0 8).bind fun r33=>
    some r33
theorem zi0 (H:H24 D σ F) (x1:GR) :∀ (k:Nat) (x12:Int) (s:Nat→V),zB [(1,bG 1 x1),(2,jb false),(3,ji x12)] s→wa F x1 k x12=some r→Run D σ (R24 r) (.run QI [.lp QI,.bk 0,.sq zeM]) s:=by
 intro k
 induction k with
 | zero=>intro x12 s _ h;exact nm h
 | succ k ih=>
   intro x12 s hs h
   rw [wa] at h
   obtain ⟨h1,h2,h3⟩:=hs
   refine .seq (.seq (rg (gm h3 fun h5=>g1 1 (.ref (.bx 1) 0 [1] (eP x1.2)) h1 fun h6=>g1 6 (eP x1.2) h6 fun h7=>gl x1.2 h7 fun h8=>g2 5 8 (jb (decide (x12 < (x1.2.length:Int)))) h5 h8 fun h9=>gq (.nsq (zu h9 h (fun h=>?_) (fun h=>?_))))))
   · refine .skip (.nsq (.seq (.block (.seq (zC (yc ?_))))))
     refine ez [(1,_),(2,_),(3,_),(4,_)] ⟨za h1 rfl (zi rfl mIE),za h2 rfl mb,za h3 rfl mi,zg rfl⟩ ?_
     rintro s ⟨h1,h2,h3,h4⟩
     refine g1 1 (.ref (.bx 1) 0 [1] (eP x1.2)) h1 fun h12=>g1 12 (eP x1.2) h12 fun h13=>gm h3 fun h14=>?_
     obtain ⟨v23,Ev23,h⟩:=zd h
     refine gv (.ref .sh 0 [] (.agg [ji v23.1,ji v23.2])) (yG (t:=.sh) (lo:=0) (xs:=x1.2) h13 h14 Ev23 rfl rfl) fun h15=>g1 15 (.agg [ji v23.1,ji v23.2]) h15 fun h16=>y6 h4 (zQ (.agg [ji v23.1,ji v23.2]) (zx rfl rfl) (zx h16 rfl) (xr (by first | rfl | simp [V.toks,V.tokss,toks_enc,zN])) (gz [(1,bG 1 x1),(2,jb false),(3,ji x12),(4,.ref (.bx 4) 0 [] (.agg [ji v23.1,ji v23.2]))] ⟨zb h1 (zj rfl rfl uIE),zb h2 rfl,zb h3 rfl,zb rfl rfl⟩ ?_))
     rintro s ⟨h1,h2,h3,h4⟩
     refine .nsq (.seq (rg (g1 4 (.ref (.bx 4) 0 [0] (ji v23.1)) h4 fun h17=>g1 17 (ji v23.1) h17 fun h18=>g1 1 (.ref (.bx 1) 0 [0] (ji x1.1)) h1 fun h19=>g1 19 (ji x1.1) h19 fun h20=>g1 20 (ji (w64 (x1.1 - 1))) h20 fun h21=>?_)))
     obtain ⟨r29,Er29,h⟩:=zd h
     refine gcF [enc (v23.1:Int),enc (0:Int),enc (w64 (x1.1 - 1):Int)] (zl h18 rfl rfl (zl (v:=ji 0) rfl rfl rfl (zl h21 rfl rfl zJ))) (H.c53 _ _ _ _ Er29) H.g53 (g1 22 (jb (!r29)) (rf (jb r29)) fun h23=>gm h23 fun h24=>yd h (fun hg8 h=>?_) (fun hg8 h=>?_))
     · iterate 7 refine yq (ct h24 hg8) ?_
       refine g2 24 31 (jb true) (ct h24 hg8) (rf (.tup [])) fun h32=>gm h32 fun h33=>yq h33 ?_
       iterate 4 refine yq h33 ?_
       refine g2 33 38 (jb true) h33 (rf (.tup [])) fun h39=>gm h39 fun h40=>yq h40 ?_
       iterate 2 refine yq h40 ?_
       iterate 9 refine Yu rfl ?_
       refine yq h40 (g2 40 53 (jb true) h40 (rf (.tup [])) fun h54=>gz [(1,_),(2,_),(3,_),(54,_)] ⟨h1,h2,h3,h54⟩ ?_)
       rintro s ⟨h1,h2,h3,h54⟩
       exact JU H x1 x12 (wa F x1 k) ih true _ ⟨h1,h2,h3,h54⟩ h
     refine zt (ct h24 hg8) (g1 4 (.ref (.bx 4) 0 [1] (ji v23.2)) h4 fun h25=>zt (ct h24 hg8) (g1 25 (ji v23.2) h25 fun h26=>zt (ct h24 hg8) (g1 1 (.ref (.bx 1) 0 [0] (ji x1.1)) h1 fun h27=>zt (ct h24 hg8) (g1 27 (ji x1.1) h27 fun h28=>zt (ct h24 hg8) (g1 28 (ji (w64 (x1.1 - 1))) h28 fun h29=>?_)))))
     obtain ⟨r30,Er30,h⟩:=zd h
     refine zt (ct h24 hg8) (gcF [enc (v23.2:Int),enc (0:Int),enc (w64 (x1.1 - 1):Int)] (zl h26 rfl rfl (zl (v:=ji 0) rfl rfl rfl (zl h29 rfl rfl zJ))) (H.c53 _ _ _ _ Er30) H.g53 (zt (ct h24 hg8) (g1 30 (jb (!r30)) (rf (jb r30)) fun h31=>g2 24 31 (jb (!r30)) (ct h24 hg8) h31 fun h32=>gm h32 fun h33=>yd h (fun hg17 h=>?_) (fun hg17 h=>?_))))
     · iterate 5 refine yq (ct h33 hg17) ?_
       refine g2 33 38 (jb true) (ct h33 hg17) (rf (.tup [])) fun h39=>gm h39 fun h40=>yq h40 ?_
       iterate 2 refine yq h40 ?_
       iterate 9 refine Yu rfl ?_
       refine yq h40 (g2 40 53 (jb true) h40 (rf (.tup [])) fun h54=>gz [(1,_),(2,_),(3,_),(54,_)] ⟨h1,h2,h3,h54⟩ ?_)
       rintro s ⟨h1,h2,h3,h54⟩
       exact JU H x1 x12 (wa F x1 k) ih true _ ⟨h1,h2,h3,h54⟩ h
     refine zt (ct h33 hg17) (g1 4 (.ref (.bx 4) 0 [0] (ji v23.1)) h4 fun h34=>zt (ct h33 hg17) (g1 34 (ji v23.1) h34 fun h35=>zt (ct h33 hg17) (g1 4 (.ref (.bx 4) 0 [1] (ji v23.2)) h4 fun h36=>zt (ct h33 hg17) (g1 36 (ji v23.2) h36 fun h37=>zt (ct h33 hg17) (g2 35 37 (jb (decide (v23.1≥v23.2))) h35 h37 fun h38=>g2 33 38 (jb (decide (v23.1≥v23.2))) (ct h33 hg17) h38 fun h39=>gm h39 fun h40=>yd h (fun hg24 h=>?_) (fun hg24 h=>?_))))))
     · iterate 3 refine yq (ct h40 hg24) ?_
       iterate 9 refine Yu rfl ?_
       refine yq (ct h40 hg24) (g2 40 53 (jb true) (ct h40 hg24) (rf (.tup [])) fun h54=>gz [(1,_),(2,_),(3,_),(54,_)] ⟨h1,h2,h3,h54⟩ ?_)
       rintro s ⟨h1,h2,h3,h54⟩
       exact JU H x1 x12 (wa F x1 k) ih true _ ⟨h1,h2,h3,h54⟩ h
     refine zt (ct h40 hg24) (gm h3 fun h41=>zt (ct h40 hg24) (g1 41 (jb (decide (x12 > 0))) h41 fun h42=>zt (ct h40 hg24) (gm h42 fun h43=>yd h (fun hg27 h=>?_) (fun hg27 h=>?_))))
     · refine zt (ct h43 hg27) (g1 1 (.ref (.bx 1) 0 [1] (eP x1.2)) h1 fun h44=>zt (ct h43 hg27) (g1 44 (eP x1.2) h44 fun h45=>zt (ct h43 hg27) (gm h3 fun h46=>zt (ct h43 hg27) (g1 46 (ji (w64 (x12 - 1))) h46 fun h47=>?_))))
       obtain ⟨v31,Ev31,h⟩:=zd h
       refine zt (ct h43 hg27) (gv (.ref .sh 0 [] (.agg [ji v31.1,ji v31.2])) (yG (t:=.sh) (lo:=0) (xs:=x1.2) h45 h47 Ev31 rfl rfl) fun h48=>zt (ct h43 hg27) (g1 48 (.agg [ji v31.1,ji v31.2]) h48 fun h49=>zt (ct h43 hg27) (g1 4 (.agg [ji v23.1,ji v23.2]) h4 fun h50=>?_)))
       obtain ⟨r32,Er32,h⟩:=zd h
       refine zt (ct h43 hg27) (gcF [enc (v31:(Int×Int)),enc (v23:(Int×Int))] (zl h49 rfl (erase_enc (v31:(Int×Int))) (zl h50 rfl (erase_enc (v23:(Int×Int))) zJ)) (H.c54 _ _ _ Er32) H.g54 (zt (ct h43 hg27) (g1 51 (jb (!r32)) (rf (jb r32)) fun h52=>zt (ct h40 hg24) (g2 43 52 (jb (!r32)) (ct h43 hg27) h52 fun h53=>g2 40 53 (jb (!r32)) (ct h40 hg24) h53 fun h54=>gz [(1,_),(2,_),(3,_),(54,_)] ⟨h1,h2,h3,h54⟩ ?_))))
       rintro s ⟨h1,h2,h3,h54⟩
       exact JU H x1 x12 (wa F x1 k) ih (!r32) _ ⟨h1,h2,h3,h54⟩ h
     iterate 9 refine yq (ct h43 hg27) ?_
     refine zt (ct h40 hg24) (g2 43 52 (jb false) (ct h43 hg27) (rf (.tup [])) fun h53=>g2 40 53 (jb false) (ct h40 hg24) h53 fun h54=>gz [(1,_),(2,_),(3,_),(54,_)] ⟨h1,h2,h3,h54⟩ ?_)
     rintro s ⟨h1,h2,h3,h54⟩
     exact JU H x1 x12 (wa F x1 k) ih false _ ⟨h1,h2,h3,h54⟩ h
   refine .exit (.esq (.elp (.ebk (.nsq (.seq (rg (g1 1 (.ref (.bx 1) 0 [0] (ji x1.1)) h1 fun h55=>g1 55 (ji x1.1) h55 fun h56=>?_)))))))
   obtain ⟨r33,Er33,h⟩:=zd h
   refine gcF [enc (x1.1:Int),enc (0:Int),enc (8:Int)] (zl h56 rfl rfl (zl (v:=ji 0) rfl rfl rfl (zl (v:=ji 8) rfl rfl rfl zJ))) (H.c53 _ _ _ _ Er33) H.g53 (gm (rf (jb r33)) fun h2=>gq (.nsq (.ret ?_)))
   obtain rfl:=oi h
   exact rrA (zA h2) rfl
def Xw (F:Nat) (x1:GR):Option Bool:=
 wa F x1 F 0
theorem t24 (H:H24 D σ F) (x1:GR) (s:Nat→V) (hs:zB [(0,gV x1)] s) (h:Xw F x1=some r):Run D σ (R24 r) (.run A24 []) s:=by
 unfold Xw at h
 have h0:=hs
 refine .seq (zC (yc ?_))
 refine ez [(0,_),(1,_)] ⟨za h0 rfl mIE,zg rfl⟩ ?_
 rintro s ⟨h0,h1⟩
 refine xU (gV x1) (zx h0 rfl) h1 rfl (g0 (jb false) fun h2=>gq (.nsq (.seq (.seq (rg (g0 (ji 0) fun h3=>gq (.nsq (.block (.loop ?_)))))))))
 exact zi0 H x1 F 0 _ ⟨rfl,h2,h3⟩ h
end
def e24 (F:Nat):Ent:=ent 24 (fun (x:(GR×Unit))=>Xw F x.1) (fun (r:Bool)=>(enc (r:Bool))) 0 false []
abbrev C24 (D:List V→Option V) (F:Nat):Prop:=∀ (x0:GR) r,Xw F x0=some r→D [enc x0]=some (enc (r:Bool))
theorem p24 {F:Nat}:C24 (e24 F).den F:=fun x0 _ h=>zZ (x0,()) h
theorem o24 (hF:zH Tp D σ) (H:H24 D σ F):(e24 F).Ok Tp:=okZ (f:=24) Try.func24 fun ⟨x0,_⟩ y hy=>cR hF Try.func24 c24 (t24 H x0 _ rfl hy)
def zvy:AC:=(.cond (.t 9) .skip (.exit 0))
def zqf:AC:=(.cond (.t 17) (.seq (rr [jv 4 (.mov kt)]) .ret) .skip)
def zrr:AC:=(rr [jm 10 5,jv 11 (.bin .add (.t 10) (jn 1)),jm 5 11])
def zvq:AC:=(.seq (.block 1 (.seq (rr [jm 12 0,jm 13 5,jv 14 (.idx (.t 12) (.t 13) 1),jl 15 14,jm 16 1,jv 17 (.bin .eql (.t 15) (.t 16))]) zqf)) zrr)
def zjn:AC:=(.seq (.seq (rr [jm 6 5,jm 7 0,jk 8 7,jv 9 (.bin .lss (.t 6) (.t 8))]) zvy) zvq)
def zma:AC:=(.seq (rr [jv 4 (.mov kf)]) .ret)
def ztD:AC:=(.block 0 (.loop zjn))
def zp4:AC:=(.seq (.seq (rr [jv 5 (.mov (jn 0))]) ztD) zma)
def A65:AC:=(.seq (rr [jv 4 (.mov kf)]) zp4)
def zxa:List An:=[]
theorem c65:cq Tp Try.f65 zxa=some A65:=by kernel_rfl
structure H65 (D:Den) (σ:Sig) (F:Nat):Prop where
 mk ::
abbrev R65 (r:Bool):(Nat→V)→Prop:=RR Tp [.tmp 4] 0 false (enc (r:Bool))
section
variable {r:Bool}
def Y0 (F:Nat) (x1:LI) (x2:Int) :Nat→Int→Option Bool
 | 0,_=>none
 | k + 1,x4=>
   bif decide (x4 < (x1.length:Int)) then
    (idx x1 x4).bind fun v6=>
    bif (v6 == x2) then
     some true
    else
     (Y0 F x1 x2 k) (w64 (x4 + 1))
   else
    some false
theorem zi7 (H:H65 D σ F) (x1:LI) (x2:Int) :∀ (k:Nat) (x4:Int) (s:Nat→V),zB [(0,eL x1),(1,ji x2),(4,jb false),(5,ji x4)] s→Y0 F x1 x2 k x4=some r→Run D σ (R65 r) (.run zjn [.lp zjn,.bk 0,.sq zma]) s:=by
 intro k
 induction k with
 | zero=>intro x4 s _ h;exact nm h
 | succ k ih=>
   intro x4 s hs h
   rw [Y0] at h
   obtain ⟨h0,h1,h4,h5⟩:=hs
   refine .seq (.seq (rg (gm h5 fun h6=>gm h0 fun h7=>gl x1 h7 fun h8=>g2 6 8 (jb (decide (x4 < (x1.length:Int)))) h6 h8 fun h9=>gq (.nsq (zu h9 h (fun h=>?_) (fun h=>?_))))))
   · refine .skip (.nsq (.seq (.block (.seq (rg (gm h0 fun h12=>gm h5 fun h13=>?_))))))
     obtain ⟨v6,Ev6,h⟩:=zd h
     refine gv (.ref .sh 0 [] (ji v6)) (yG (t:=.sh) (lo:=0) (xs:=x1) h12 h13 Ev6 rfl rfl) fun h14=>g1 14 (ji v6) h14 fun h15=>gm h1 fun h16=>g2 15 16 (jb (v6 == x2)) h15 h16 fun h17=>gq (.nsq (zu h17 h (fun h=>?_) (fun h=>?_)))
     · refine .seq (rg (g0 (jb true) fun h4=>gq (.nsq (.ret ?_))))
       obtain rfl:=oi h
       exact rrA (zA h4) rfl
     refine .skip (.nbk (.nsq (rg (gm h5 fun h10=>g1 10 (ji (w64 (x4 + 1))) h10 fun h11=>gm h11 fun h5=>gq (.nlp ?_)))))
     exact ih (w64 (x4 + 1)) _ ⟨h0,h1,h4,h5⟩ h
   refine .exit (.esq (.elp (.ebk (.nsq (.seq (rg (g0 (jb false) fun h4=>gq (.nsq (.ret ?_)))))))))
   obtain rfl:=oi h
   exact rrA (zA h4) rfl
def vF (F:Nat) (x1:LI) (x2:Int):Option Bool:=
 Y0 F x1 x2 F 0
theorem t65 (H:H65 D σ F) (x1:LI) (x2:Int) (s:Nat→V) (hs:zB [(0,eL x1),(1,ji x2)] s) (h:vF F x1 x2=some r):Run D σ (R65 r) (.run A65 []) s:=by
 unfold vF at h
 obtain ⟨h0,h1⟩:=hs
 refine .seq (rg (g0 (jb false) fun h4=>gq (.nsq (.seq (.seq (rg (g0 (ji 0) fun h5=>gq (.nsq (.block (.loop ?_))))))))))
 exact zi7 H x1 x2 F 0 _ ⟨h0,h1,h4,h5⟩ h
end
def e65 (F:Nat):Ent:=ent 65 (fun (x:(LI×Int×Unit))=>vF F x.1 x.2.1) (fun (r:Bool)=>(enc (r:Bool))) 0 false []
abbrev C65 (D:List V→Option V) (F:Nat):Prop:=∀ (x0:LI) (x1:Int) r,vF F x0 x1=some r→D [enc x0,enc x1]=some (enc (r:Bool))
theorem p65 {F:Nat}:C65 (e65 F).den F:=fun x0 x1 _ h=>zZ (x0,x1,()) h
theorem o65 (hF:zH Tp D σ) (H:H65 D σ F):(e65 F).Ok Tp:=okZ (f:=65) Try.func65 fun ⟨x0,x1,_⟩ y hy=>cR hF Try.func65 c65 (t65 H x0 x1 _ ⟨rfl,rfl⟩ hy)
def zqA:AC:=(.cond (.t 9) .skip (.exit 0))
def zra:AC:=(.cond (.t 15) (.seq (rr [jv 4 (.mov kf)]) .ret) .skip)
def zrS:AC:=(rr [jm 10 5,jv 11 (.bin .add (.t 10) (jn 1)),jm 5 11])
def zrk:AC:=(.seq (.block 1 (.seq (rr [jm 12 1,jm 13 5,jx 14 (.call (jf 65) [.t 12,.t 13]),jv 15 (.un .not (.t 14))]) zra)) zrS)
def zj5:AC:=(.seq (.seq (rr [jm 6 5,jv 7 (.fld (.t 2) 0 0),jl 8 7,jv 9 (.bin .lss (.t 6) (.t 8))]) zqA) zrk)
def zmw:AC:=(.seq (rr [jm 16 1,jk 17 16,jv 18 (.fld (.t 2) 0 0),jl 19 18,jv 20 (.bin .eql (.t 17) (.t 19)),jm 4 20]) .ret)
def zsP:AC:=(.block 0 (.loop zj5))
def zrJ:AC:=(.seq (.seq (rr [jv 5 (.mov (jn 0))]) zsP) zmw)
def A62:AC:=(.seq (.reg [.clr [2]] [jx 2 (.box (.t 0)),jv 4 (.mov kf)] []) zrJ)
def zwe:List An:=[⟨0,[.clr [2]],[],[],[]⟩]
theorem c62:cq Tp Try.f62 zwe=some A62:=by kernel_rfl
structure H62 (D:Den) (σ:Sig) (F:Nat):Prop where
 c65:C65 (D 65) F
 g65:σ 65=some (0,false)
abbrev R62 (r:Bool):(Nat→V)→Prop:=RR Tp [.tmp 4] 0 false (enc (r:Bool))
section
variable {r:Bool}
def Z1 (F:Nat) (x2:LI) (x1:GR) :Nat→Int→Option Bool
 | 0,_=>none
 | k + 1,x4=>
   bif decide (x4 < x1.1) then
    (vF F x2 x4).bind fun r6=>
    bif (!r6) then
     some false
    else
     (Z1 F x2 x1 k) (w64 (x4 + 1))
   else
    some ((x2.length:Int) == x1.1)
theorem zif (H:H62 D σ F) (x2:LI) (x1:GR) :∀ (k:Nat) (x4:Int) (s:Nat→V),zB [(1,eL x2),(2,bG 2 x1),(4,jb false),(5,ji x4)] s→Z1 F x2 x1 k x4=some r→Run D σ (R62 r) (.run zj5 [.lp zj5,.bk 0,.sq zmw]) s:=by
 intro k
 induction k with
 | zero=>intro x4 s _ h;exact nm h
 | succ k ih=>
   intro x4 s hs h
   rw [Z1] at h
   obtain ⟨h1,h2,h4,h5⟩:=hs
   refine .seq (.seq (rg (gm h5 fun h6=>g1 2 (.ref (.bx 2) 0 [0] (ji x1.1)) h2 fun h7=>g1 7 (ji x1.1) h7 fun h8=>g2 6 8 (jb (decide (x4 < x1.1))) h6 h8 fun h9=>gq (.nsq (zu h9 h (fun h=>?_) (fun h=>?_))))))
   · refine .skip (.nsq (.seq (.block (.seq (rg (gm h1 fun h12=>gm h5 fun h13=>?_))))))
     obtain ⟨r6,Er6,h⟩:=zd h
     refine gcF [eL x2,enc (x4:Int)] (zl h12 rfl (erase_enc (x2:LI)) (zl h13 rfl rfl zJ)) (H.c65 _ _ _ Er6) H.g65 (g1 14 (jb (!r6)) (rf (jb r6)) fun h15=>gq (.nsq (zu h15 h (fun h=>?_) (fun h=>?_))))
     · refine .seq (rg (g0 (jb false) fun h4=>gq (.nsq (.ret ?_))))
       obtain rfl:=oi h
       exact rrA (zA h4) rfl
     refine .skip (.nbk (.nsq (rg (gm h5 fun h10=>g1 10 (ji (w64 (x4 + 1))) h10 fun h11=>gm h11 fun h5=>gq (.nlp ?_)))))
     exact ih (w64 (x4 + 1)) _ ⟨h1,h2,h4,h5⟩ h
   refine .exit (.esq (.elp (.ebk (.nsq (.seq (rg (gm h1 fun h16=>gl x2 h16 fun h17=>g1 2 (.ref (.bx 2) 0 [0] (ji x1.1)) h2 fun h18=>g1 18 (ji x1.1) h18 fun h19=>g2 17 19 (jb ((x2.length:Int) == x1.1)) h17 h19 fun h20=>gm h20 fun h4=>gq (.nsq (.ret ?_)))))))))
   obtain rfl:=oi h
   exact rrA (zA h4) rfl
def WX (F:Nat) (x1:GR) (x2:LI):Option Bool:=
 Z1 F x2 x1 F 0
theorem t62 (H:H62 D σ F) (x1:GR) (x2:LI) (s:Nat→V) (hs:zB [(0,gV x1),(1,eL x2)] s) (h:WX F x1 x2=some r):Run D σ (R62 r) (.run A62 []) s:=by
 unfold WX at h
 obtain ⟨h0,h1⟩:=hs
 refine .seq (zC (yc ?_))
 refine ez [(0,_),(1,_),(2,_)] ⟨za h0 rfl mIE,za h1 rfl me,zg rfl⟩ ?_
 rintro s ⟨h0,h1,h2⟩
 refine xU (gV x1) (zx h0 rfl) h2 rfl (g0 (jb false) fun h4=>gq (.nsq (.seq (.seq (rg (g0 (ji 0) fun h5=>gq (.nsq (.block (.loop ?_)))))))))
 exact zif H x2 x1 F 0 _ ⟨h1,rfl,h4,h5⟩ h
end
def e62 (F:Nat):Ent:=ent 62 (fun (x:(GR×LI×Unit))=>WX F x.1 x.2.1) (fun (r:Bool)=>(enc (r:Bool))) 0 false []
abbrev C62 (D:List V→Option V) (F:Nat):Prop:=∀ (x0:GR) (x1:LI) r,WX F x0 x1=some r→D [enc x0,enc x1]=some (enc (r:Bool))
theorem p62 {F:Nat}:C62 (e62 F).den F:=fun x0 x1 _ h=>zZ (x0,x1,()) h
theorem o62 (hF:zH Tp D σ) (H:H62 D σ F):(e62 F).Ok Tp:=okZ (f:=62) Try.func62 fun ⟨x0,x1,_⟩ y hy=>cR hF Try.func62 c62 (t62 H x0 x1 _ ⟨rfl,rfl⟩ hy)
def ztr:AC:=(.seq (rr [jv 5 (.load (.ag [.s,.p]) (.t 2)),jx 6 (.call (jf 24) [.t 5]),jm 7 6,jg 8 7 true (.load (.ag [.s,.p]) (.t 2)),jg 9 7 true (.mov (.t 1)),.mk (some 10) (some (7,true)) false (.call (jf 62) [.t 8,.t 9]),jv 11 (.pick (.t 7) (.t 10) kf),jm 4 11]) .ret)
def A34:AC:=(.seq (.reg [.clr [2]] [jx 2 (.box (.t 0)),jv 4 (.mov kf)] []) ztr)
def zwB:List An:=[⟨0,[.clr [2]],[],[],[]⟩]
theorem c34:cq Tp Try.f34 zwB=some A34:=by kernel_rfl
structure H34 (D:Den) (σ:Sig) (F:Nat):Prop where
 c24:C24 (D 24) F
 g24:σ 24=some (0,false)
 c62:C62 (D 62) F
 g62:σ 62=some (0,false)
abbrev R34 (r:Bool):(Nat→V)→Prop:=RR Tp [.tmp 4] 0 false (enc (r:Bool))
section
variable {r:Bool}
def Xa (F:Nat) (x1:GR) (x2:LI):Option Bool:=
 (Xw F x1).bind fun r3=>
 bif r3 then
  (WX F x1 x2).bind fun r4=>
  some r4
 else
  some false
theorem t34 (H:H34 D σ F) (x1:GR) (x2:LI) (s:Nat→V) (hs:zB [(0,gV x1),(1,eL x2)] s) (h:Xa F x1 x2=some r):Run D σ (R34 r) (.run A34 []) s:=by
 unfold Xa at h
 obtain ⟨h0,h1⟩:=hs
 refine .seq (zC (yc ?_))
 refine ez [(0,_),(1,_),(2,_)] ⟨za h0 rfl mIE,za h1 rfl me,zg rfl⟩ ?_
 rintro s ⟨h0,h1,h2⟩
 refine xU (gV x1) (zx h0 rfl) h2 rfl (g0 (jb false) fun h4=>gq (.nsq (.seq (rg (g1 2 (gV x1) (rf (bG 2 x1)) fun h5=>?_)))))
 obtain ⟨r3,Er3,h⟩:=zd h
 refine gcF [enc (x1:GR)] (zl h5 rfl (erase_enc (x1:GR)) zJ) (H.c24 _ _ Er3) H.g24 (gm (rf (jb r3)) fun h7=>yd h (fun hg3 h=>?_) (fun hg3 h=>?_))
 · refine zt (ct h7 hg3) (g1 2 (gV x1) (rf (bG 2 x1)) fun h8=>zt (ct h7 hg3) (gm h1 fun h9=>?_))
   obtain ⟨r4,Er4,h⟩:=zd h
   refine zt (ct h7 hg3) (gcF [enc (x1:GR),eL x2] (zl h8 rfl (erase_enc (x1:GR)) (zl h9 rfl (erase_enc (x2:LI)) zJ)) (H.c62 _ _ _ Er4) H.g62 (g2 7 10 (jb r4) (ct h7 hg3) (rf (jb r4)) fun h11=>gm h11 fun h4=>gq (.nsq (.ret ?_))))
   obtain rfl:=oi h
   exact rrA (zA h4) rfl
 iterate 3 refine yq (ct h7 hg3) ?_
 refine g2 7 10 (jb false) (ct h7 hg3) (rf (.tup [])) fun h11=>gm h11 fun h4=>gq (.nsq (.ret ?_))
 obtain rfl:=oi h
 exact rrA (zA h4) rfl
end
def e34 (F:Nat):Ent:=ent 34 (fun (x:(GR×LI×Unit))=>Xa F x.1 x.2.1) (fun (r:Bool)=>(enc (r:Bool))) 0 false []
abbrev C34 (D:List V→Option V) (F:Nat):Prop:=∀ (x0:GR) (x1:LI) r,Xa F x0 x1=some r→D [enc x0,enc x1]=some (enc (r:Bool))
theorem p34 {F:Nat}:C34 (e34 F).den F:=fun x0 x1 _ h=>zZ (x0,x1,()) h
theorem o34 (hF:zH Tp D σ) (H:H34 D σ F):(e34 F).Ok Tp:=okZ (f:=34) Try.func34 fun ⟨x0,x1,_⟩ y hy=>cR hF Try.func34 c34 (t34 H x0 x1 _ ⟨rfl,rfl⟩ hy)
def zq0:AC:=(.cond (.t 11) .skip (.exit 0))
def zsl:AC:=(.cond (.t 17) (.reg [.clr [20,21]] [jm 18 5,jm 19 6,jx 20 (.lit i0 1 [(0,0,.t 19)]),jx 21 (.app .s (.t 18) (.t 20)),jm 5 21] [.home 21 5]) .skip)
def zmu:AC:=(rr [jm 12 6,jv 13 (.bin .add (.t 12) (jn 1)),jm 6 13])
def zrM:AC:=(.seq (.block 1 (.seq (rr [jv 14 (.load (.ag [.s,.p]) (.t 2)),jm 15 1,jm 16 6,jx 17 (.call (jf 73) [.t 14,.t 15,.t 16])]) zsl)) zmu)
def Qo:AC:=(.seq (.seq (rr [jm 8 6,jv 9 (.fld (.t 2) 0 0),jl 10 9,jv 11 (.bin .lss (.t 8) (.t 10))]) zq0) zrM)
def zfZ:AC:=(.seq (.reg [] [jm 22 5,jm 4 22] [.home 5 4]) .ret)
def zqX:AC:=(.block 0 (.loop Qo))
def zs9:AC:=(.seq (.seq (rr [jv 6 (.mov (jn 0))]) zqX) zfZ)
def zvv:AC:=(.seq (.reg [.clr [7]] [jx 7 (.lit i0 0 []),jm 5 7] [.home 7 5]) zs9)
def A83:AC:=(.seq (.reg [.clr [2]] [jx 2 (.box (.t 0)),jv 4 (.mov (.k (.sl .nl .s 0 [])))] []) zvv)
def zvR:List An:=[⟨0,[.clr [2]],[],[],[]⟩,⟨1,[.clr [7]],[],[],[.home 7 5]⟩,⟨6,[.clr [20,21]],[],[],[.home 21 5]⟩,⟨7,[],[],[],[.home 5 4]⟩]
theorem c83:cq Tp Try.f83 zvR=some A83:=by kernel_rfl
structure H83 (D:Den) (σ:Sig) (F:Nat):Prop where
 c73:C73 (D 73) F
 g73:σ 73=some (0,false)
abbrev R83 (r:LI):(Nat→V)→Prop:=RR Tp [.tmp 4] 0 false (eL r)
section
variable {r:LI}
def Zl (F:Nat) (x2:Int) (x1:GR) (x8:Int) (c1:LI→Int→Option LI) (x15:LI):Option LI:=
 c1 x15 (w64 (x8 + 1))
theorem zcu (H:H83 D σ F) (x2:Int) (x1:GR) (x8:Int) (c1:LI→Int→Option LI) (Hc1:∀ (x7:LI) (x8:Int) (s:Nat→V),zB [(1,ji x2),(2,bG 2 x1),(4,nI),(5,oI 5 [] (.of x7)),(6,ji x8)] s→c1 x7 x8=some r→Run D σ (R83 r) (.run Qo [.lp Qo,.bk 0,.sq zfZ]) s) (x15:LI) (s:Nat→V) (hs:zB [(1,ji x2),(2,bG 2 x1),(4,nI),(5,oI 5 [] (.of x15)),(6,ji x8)] s) (h:Zl F x2 x1 x8 c1 x15=some r):Run D σ (R83 r) (.nrm [.bk 1,.sq zmu,.lp Qo,.bk 0,.sq zfZ]) s:=by
 unfold Zl at h
 obtain ⟨h1,h2,h4,h5,h6⟩:=hs
 refine .nbk (.nsq (rg (gm h6 fun h12=>g1 12 (ji (w64 (x8 + 1))) h12 fun h13=>gm h13 fun h6=>gq (.nlp ?_))))
 exact Hc1 x15 (w64 (x8 + 1)) _ ⟨h1,h2,h4,h5,h6⟩ h
def xZ (F:Nat) (x2:Int) (x1:GR) :Nat→LI→Int→Option LI
 | 0,_,_=>none
 | k + 1,x7,x8=>
   bif decide (x8 < x1.1) then
    (Xl F x1 x2 x8).bind fun r13=>
    bif r13 then
     (vh x7 [x8]).bind fun ap16=>
     Zl F x2 x1 x8 (xZ F x2 x1 k) ap16
    else
     Zl F x2 x1 x8 (xZ F x2 x1 k) x7
   else
    some x7
theorem ziN (H:H83 D σ F) (x2:Int) (x1:GR) :∀ (k:Nat) (x7:LI) (x8:Int) (s:Nat→V),zB [(1,ji x2),(2,bG 2 x1),(4,nI),(5,oI 5 [] (.of x7)),(6,ji x8)] s→xZ F x2 x1 k x7 x8=some r→Run D σ (R83 r) (.run Qo [.lp Qo,.bk 0,.sq zfZ]) s:=by
 intro k
 induction k with
 | zero=>intro x7 x8 s _ h;exact nm h
 | succ k ih=>
   intro x7 x8 s hs h
   rw [xZ] at h
   obtain ⟨h1,h2,h4,h5,h6⟩:=hs
   refine .seq (.seq (rg (gm h6 fun h8=>g1 2 (.ref (.bx 2) 0 [0] (ji x1.1)) h2 fun h9=>g1 9 (ji x1.1) h9 fun h10=>g2 8 10 (jb (decide (x8 < x1.1))) h8 h10 fun h11=>gq (.nsq (zu h11 h (fun h=>?_) (fun h=>?_))))))
   · refine .skip (.nsq (.seq (.block (.seq (rg (g1 2 (gV x1) h2 fun h14=>gm h1 fun h15=>gm h6 fun h16=>?_))))))
     obtain ⟨r13,Er13,h⟩:=zd h
     refine gcF [enc (x1:GR),enc (x2:Int),enc (x8:Int)] (zl h14 rfl (erase_enc (x1:GR)) (zl h15 rfl rfl (zl h16 rfl rfl zJ))) (H.c73 _ _ _ _ Er13) H.g73 (gq (.nsq (zu rfl h (fun h=>?_) (fun h=>?_))))
     · refine zC (yc ?_)
       refine ez [(1,_),(2,_),(4,_),(5,_),(6,_),(20,_),(21,_)] ⟨za h1 rfl mi,za h2 rfl (zi rfl mIE),za h4 rfl rfl,za h5 rfl (zm (r:=5) (p:=[]) rfl rfl),za h6 rfl mi,zg rfl,zg rfl⟩ ?_
       rintro s ⟨h1,h2,h4,h5,h6,h20,h21⟩
       refine gm h5 fun h18=>gm h6 fun h19=>xv [(19,ji x8)] [enc (x8:Int)] h19 rfl rfl h20 ?_
       obtain ⟨ap16,Eap16,h⟩:=zd h
       refine ZG (q:=5) (p:=[]) (o:=.of (x7:LI)) (ys:=([x8]:LI)) (t2:=.at 20 []) (lo2:=0) h18 rfl rfl h21 (vK (o:=.of (x7:LI)) Eap16 trivial) (fun s20 ha20=>gm (rf (oI 21 [] (.of ap16))) fun h5=>xf (yR (r:=21) (x:=5) (v:=_) h5 rfl (fun s21 hz21=>?_)))
       refine ez [(1,ji x2),(2,bG 2 x1),(4,nI),(5,oI 5 [] (.of ap16)),(6,ji x8)] ⟨hz21 1 _ _ (show s20 1=(ji x2) from zF ha20 h1 mi) mi,hz21 2 _ _ (show s20 2=(bG 2 x1) from zF ha20 h2 (zi rfl mIE)) (zi rfl mIE),hz21 4 _ nI (show s20 4=nI from zF ha20 h4 rfl) rfl,hz21 5 _ _ h5 (zm (r:=21) (p:=[]) rfl rfl),hz21 6 _ _ (show s20 6=(ji x8) from zF ha20 h6 mi) mi⟩ ?_
       rintro s ⟨h1,h2,h4,h5,h6⟩
       exact zcu H x2 x1 x8 (xZ F x2 x1 k) ih ap16 _ ⟨h1,h2,h4,h5,h6⟩ h
     refine .skip ?_
     exact zcu H x2 x1 x8 (xZ F x2 x1 k) ih x7 _ ⟨h1,h2,h4,h5,h6⟩ h
   refine .exit (.esq (.elp (.ebk (.nsq (.seq (rg (gm h5 fun h22=>gm h22 fun h4=>xf (yR (r:=5) (x:=4) (v:=_) h4 rfl (fun s22 hz22=>?_)))))))))
   refine ez [(4,oI 4 [] (.of x7))] (hz22 4 _ _ h4 (zm (r:=5) (p:=[]) rfl rfl)) ?_
   rintro s h4
   refine .nsq (.ret ?_)
   obtain rfl:=oi h
   exact rrA (zA h4) (Yx (xk (o:=.of x7)) (vR rfl))
def uT (F:Nat) (x1:GR) (x2:Int):Option LI:=
 xZ F x2 x1 F [] 0
theorem t83 (H:H83 D σ F) (x1:GR) (x2:Int) (s:Nat→V) (hs:zB [(0,gV x1),(1,ji x2)] s) (h:uT F x1 x2=some r):Run D σ (R83 r) (.run A83 []) s:=by
 unfold uT at h
 obtain ⟨h0,h1⟩:=hs
 refine .seq (zC (yc ?_))
 refine ez [(0,_),(1,_),(2,_)] ⟨za h0 rfl mIE,za h1 rfl mi,zg rfl⟩ ?_
 rintro s ⟨h0,h1,h2⟩
 refine xU (gV x1) (zx h0 rfl) h2 rfl (g0 nI fun h4=>gq (.nsq (.seq (zC (yc ?_)))))
 refine ez [(1,_),(2,_),(4,_),(7,_)] ⟨za h1 rfl mi,za rfl rfl (zi rfl mIE),za h4 rfl rfl,zg rfl⟩ ?_
 rintro s ⟨h1,h2,h4,h7⟩
 refine xv [] [] trivial rfl rfl h7 (gm (rf (oI 7 [] (.of []))) fun h5=>xf (yR (r:=7) (x:=5) (v:=_) h5 rfl (fun s3 hz3=>?_)))
 refine ez [(1,ji x2),(2,bG 2 x1),(4,nI),(5,oI 5 [] (.of []))] ⟨hz3 1 _ _ h1 mi,hz3 2 _ _ h2 (zi rfl mIE),hz3 4 _ _ h4 rfl,hz3 5 _ _ h5 (zm (r:=7) (p:=[]) rfl rfl)⟩ ?_
 rintro s ⟨h1,h2,h4,h5⟩
 refine .nsq (.seq (.seq (rg (g0 (ji 0) fun h6=>gq (.nsq (.block (.loop ?_)))))))
 exact ziN H x2 x1 F [] 0 _ ⟨h1,h2,h4,h5,h6⟩ h
end
def e83 (F:Nat):Ent:=ent 83 (fun (x:(GR×Int×Unit))=>uT F x.1 x.2.1) (fun (r:LI)=>(eL r)) 0 false []
abbrev C83 (D:List V→Option V) (F:Nat):Prop:=∀ (x0:GR) (x1:Int) r,uT F x0 x1=some r→D [enc x0,enc x1]=some (eL r)
theorem p83 {F:Nat}:C83 (e83 F).den F:=fun x0 x1 _ h=>zZ (x0,x1,()) h
theorem o83 (hF:zH Tp D σ) (H:H83 D σ F):(e83 F).Ok Tp:=okZ (f:=83) Try.func83 fun ⟨x0,x1,_⟩ y hy=>cR hF Try.func83 c83 (t83 H x0 x1 _ ⟨rfl,rfl⟩ hy)
def zmD:AC:=(.cond (.t 31) (.seq (rr [jm 32 0,jm 4 32]) .ret) .skip)
def zmy:AC:=(.seq (.reg [.clr [33,37,39,40,44]] [jy 33 (.lit i0 0 []),jm 34 0,jm 35 5,jv 36 (.slice (.t 34) none (some (.t 35)) 1),jy 37 (.appS .s (.t 33) (.t 36)),jm 38 1,jx 39 (.lit i0 1 [(0,0,.t 38)]),jy 40 (.appS .s (.t 37) (.t 39)),jm 41 0,jm 42 5,jv 43 (.slice (.t 41) (some (.t 42)) none 1),jx 44 (.appS .s (.t 40) (.t 43)),jm 4 44] [.home 44 4]) .ret)
def zmC:AC:=(.cond (.t 17) .skip (.exit 0))
def zl7:AC:=(.block 1 (rr [jm 18 5,jv 19 (.bin .add (.t 18) (jn 1)),jm 5 19]))
def Qw:AC:=(.seq (.seq (rr [jm 6 5,jm 7 0,jk 8 7,jv 9 (.bin .lss (.t 6) (.t 8)),jm 10 9,jg 11 10 true (.mov (.t 0)),jg 12 10 true (.mov (.t 5)),jg 13 10 true (.idx (.t 11) (.t 12) 1),jg 14 10 true (.load .s (.t 13)),jg 15 10 true (.mov (.t 1)),jg 16 10 true (.bin .lss (.t 14) (.t 15)),jv 17 (.pick (.t 10) (.t 16) kf)]) zmC) zl7)
def zex:AC:=(.seq (.seq (rr [jm 20 5,jm 21 0,jk 22 21,jv 23 (.bin .lss (.t 20) (.t 22)),jm 24 23,jg 25 24 true (.mov (.t 0)),jg 26 24 true (.mov (.t 5)),jg 27 24 true (.idx (.t 25) (.t 26) 1),jg 28 24 true (.load .s (.t 27)),jg 29 24 true (.mov (.t 1)),jg 30 24 true (.bin .eql (.t 28) (.t 29)),jv 31 (.pick (.t 24) (.t 30) kf)]) zmD) zmy)
def zqz:AC:=(.seq (.block 0 (.loop Qw)) zex)
def zt5:AC:=(.seq (rr [jv 5 (.mov (jn 0))]) zqz)
def A64:AC:=(.seq (rr [jv 4 (.mov (.k (.sl .nl .s 0 [])))]) zt5)
def zwq:List An:=[⟨6,[.clr [33,37,39,40,44]],[0,4,7],[4,7,11],[.home 44 4]⟩]
theorem c64:cq Tp Try.f64 zwq=some A64:=by kernel_rfl
structure H64 (D:Den) (σ:Sig) (F:Nat):Prop where
 mk ::
abbrev R64 (r:LI):(Nat→V)→Prop:=RR Tp [.tmp 4] 0 true (eL r)
section
variable {r:LI}
def XS (F:Nat) (x1:LI) (x2:Int) (x6:Int)  (x13:Bool):Option LI:=
 bif x13 then
  some x1
 else
  (sub x1 0 x6).bind fun sub14=>
  (vh [] sub14).bind fun ap15=>
  (vh ap15 [x2]).bind fun ap16=>
  (sub x1 x6 (x1.length:Int)).bind fun sub17=>
  (vh ap16 sub17).bind fun ap18=>
  some ap18
theorem zdm (H:H64 D σ F) (x1:LI) (x2:Int) (x6:Int)  (x13:Bool) (s:Nat→V) (hs:zB [(0,eL x1),(1,ji x2),(4,nI),(5,ji x6),(31,jb x13)] s) (h:XS F x1 x2 x6  x13=some r):Run D σ (R64 r) (.nrm [.sq zmD,.sq zmy]) s:=by
 unfold XS at h
 obtain ⟨h0,h1,h4,h5,h31⟩:=hs
 refine .nsq (zu h31 h (fun h=>?_) (fun h=>?_))
 · refine .seq (rg (gm h0 fun h32=>gm h32 fun h4=>gq (.nsq (.ret ?_))))
   obtain rfl:=oi h
   exact rrA (zA h4) (ww (w5 (x:=(x1:LI))))
 refine .skip (.nsq (.seq (zC (yc ?_))))
 refine ez [(0,_),(1,_),(4,_),(5,_),(33,_),(37,_),(39,_),(40,_),(44,_)] ⟨za h0 rfl me,za h1 rfl mi,za h4 rfl rfl,za h5 rfl mi,zg rfl,zg rfl,zg rfl,zg rfl,zg rfl⟩ ?_
 rintro s ⟨h0,h1,h4,h5,h33,h37,h39,h40,h44⟩
 refine zaP [] [] trivial rfl rfl h33 (gm h0 fun h34=>gm h5 fun h35=>?_)
 obtain ⟨sub14,Esub14,h⟩:=zd h
 refine gv (eL sub14) (X2 (xs:=x1) h34 (u9) (Ze h35) Esub14 rfl) fun h36=>?_
 obtain ⟨ap15,Eap15,h⟩:=zd h
 refine U5 (p:=[]) (xs:=[]) (ys:=(sub14:LI)) (t2:=.sh) (lo2:=0) rfl h36 rfl h37 rfl Eap15 (gm h1 fun h38=>xv [(38,ji x2)] [enc (x2:Int)] h38 rfl rfl h39 ?_)
 obtain ⟨ap16,Eap16,h⟩:=zd h
 refine U5 (p:=[]) (xs:=ap15) (ys:=([x2]:LI)) (t2:=.at 39 []) (lo2:=0) rfl rfl rfl h40 rfl Eap16 (gm h0 fun h41=>gm h5 fun h42=>?_)
 obtain ⟨sub17,Esub17,h⟩:=zd h
 refine gv (eL sub17) (X2 (xs:=x1) h41 (Ze h42) (u9) Esub17 rfl) fun h43=>?_
 obtain ⟨ap18,Eap18,h⟩:=zd h
 refine U5 (p:=[]) (xs:=ap16) (ys:=(sub17:LI)) (t2:=.sh) (lo2:=0) rfl h43 rfl h44 rfl Eap18 (gm (rf (oI 44 [] (.of ap18))) fun h4=>xf (yR (r:=44) (x:=4) (v:=_) h4 rfl (fun s2 hz2=>?_)))
 refine ez [(4,oI 4 [] (.of ap18))] (hz2 4 _ _ h4 (zm (r:=44) (p:=[]) rfl rfl)) ?_
 rintro s h4
 refine .nsq (.ret ?_)
 obtain rfl:=oi h
 exact rrA (zA h4) (ww (xk (o:=.of ap18)))
def XO (F:Nat) (x1:LI) (x2:Int) (x6:Int) (c1:Int→Option LI) (x11:Bool):Option LI:=
 bif x11 then
  c1 (w64 (x6 + 1))
 else
  bif decide (x6 < (x1.length:Int)) then
   (idx x1 x6).bind fun v19=>
   XS F x1 x2 x6 (v19 == x2)
  else
   XS F x1 x2 x6 false
theorem zdp (H:H64 D σ F) (x1:LI) (x2:Int) (x6:Int) (c1:Int→Option LI) (Hc1:∀ (x6:Int) (s:Nat→V),zB [(0,eL x1),(1,ji x2),(4,nI),(5,ji x6)] s→c1 x6=some r→Run D σ (R64 r) (.run Qw [.lp Qw,.bk 0,.sq zex]) s) (x11:Bool) (s:Nat→V) (hs:zB [(0,eL x1),(1,ji x2),(4,nI),(5,ji x6),(17,jb x11)] s) (h:XO F x1 x2 x6 c1 x11=some r):Run D σ (R64 r) (.nrm [.sq zmC,.sq zl7,.lp Qw,.bk 0,.sq zex]) s:=by
 unfold XO at h
 obtain ⟨h0,h1,h4,h5,h17⟩:=hs
 refine .nsq (zu h17 h (fun h=>?_) (fun h=>?_))
 · refine .skip (.nsq (.block (rg (gm h5 fun h18=>g1 18 (ji (w64 (x6 + 1))) h18 fun h19=>gm h19 fun h5=>gq (.nbk (.nlp ?_))))))
   exact Hc1 (w64 (x6 + 1)) _ ⟨h0,h1,h4,h5⟩ h
 refine .exit (.esq (.elp (.ebk (.nsq (.seq (.seq (rg (gm h5 fun h20=>gm h0 fun h21=>gl x1 h21 fun h22=>g2 20 22 (jb (decide (x6 < (x1.length:Int)))) h20 h22 fun h23=>gm h23 fun h24=>yd h (fun hg5 h=>?_) (fun hg5 h=>?_)))))))))
 · refine zt (ct h24 hg5) (gm h0 fun h25=>zt (ct h24 hg5) (gm h5 fun h26=>?_))
   obtain ⟨v19,Ev19,h⟩:=zd h
   refine zt (ct h24 hg5) (gv (.ref .sh 0 [] (ji v19)) (yG (t:=.sh) (lo:=0) (xs:=x1) h25 h26 Ev19 rfl rfl) fun h27=>zt (ct h24 hg5) (g1 27 (ji v19) h27 fun h28=>zt (ct h24 hg5) (gm h1 fun h29=>zt (ct h24 hg5) (g2 28 29 (jb (v19 == x2)) h28 h29 fun h30=>g2 24 30 (jb (v19 == x2)) (ct h24 hg5) h30 fun h31=>gq ?_))))
   exact zdm H x1 x2 x6 (v19 == x2) _ ⟨h0,h1,h4,h5,h31⟩ h
 iterate 6 refine yq (ct h24 hg5) ?_
 refine g2 24 30 (jb false) (ct h24 hg5) (rf (.tup [])) fun h31=>gq ?_
 exact zdm H x1 x2 x6 false _ ⟨h0,h1,h4,h5,h31⟩ h
def uW (F:Nat) (x1:LI) (x2:Int) :Nat→Int→Option LI
 | 0,_=>none
 | k + 1,x6=>
   bif decide (x6 < (x1.length:Int)) then
    (idx x1 x6).bind fun v20=>
    XO F x1 x2 x6 (uW F x1 x2 k) (decide (v20 < x2))
   else
    XO F x1 x2 x6 (uW F x1 x2 k) false
theorem zjM (H:H64 D σ F) (x1:LI) (x2:Int) :∀ (k:Nat) (x6:Int) (s:Nat→V),zB [(0,eL x1),(1,ji x2),(4,nI),(5,ji x6)] s→uW F x1 x2 k x6=some r→Run D σ (R64 r) (.run Qw [.lp Qw,.bk 0,.sq zex]) s:=by
 intro k
 induction k with
 | zero=>intro x6 s _ h;exact nm h
 | succ k ih=>
   intro x6 s hs h
   rw [uW] at h
   obtain ⟨h0,h1,h4,h5⟩:=hs
   refine .seq (.seq (rg (gm h5 fun h6=>gm h0 fun h7=>gl x1 h7 fun h8=>g2 6 8 (jb (decide (x6 < (x1.length:Int)))) h6 h8 fun h9=>gm h9 fun h10=>yd h (fun hg5 h=>?_) (fun hg5 h=>?_))))
   · refine zt (ct h10 hg5) (gm h0 fun h11=>zt (ct h10 hg5) (gm h5 fun h12=>?_))
     obtain ⟨v20,Ev20,h⟩:=zd h
     refine zt (ct h10 hg5) (gv (.ref .sh 0 [] (ji v20)) (yG (t:=.sh) (lo:=0) (xs:=x1) h11 h12 Ev20 rfl rfl) fun h13=>zt (ct h10 hg5) (g1 13 (ji v20) h13 fun h14=>zt (ct h10 hg5) (gm h1 fun h15=>zt (ct h10 hg5) (g2 14 15 (jb (decide (v20 < x2))) h14 h15 fun h16=>g2 10 16 (jb (decide (v20 < x2))) (ct h10 hg5) h16 fun h17=>gq ?_))))
     exact zdp H x1 x2 x6 (uW F x1 x2 k) ih (decide (v20 < x2)) _ ⟨h0,h1,h4,h5,h17⟩ h
   iterate 6 refine yq (ct h10 hg5) ?_
   refine g2 10 16 (jb false) (ct h10 hg5) (rf (.tup [])) fun h17=>gq ?_
   exact zdp H x1 x2 x6 (uW F x1 x2 k) ih false _ ⟨h0,h1,h4,h5,h17⟩ h
def XZ (F:Nat) (x1:LI) (x2:Int):Option LI:=
 uW F x1 x2 F 0
theorem t64 (H:H64 D σ F) (x1:LI) (x2:Int) (s:Nat→V) (hs:zB [(0,eL x1),(1,ji x2)] s) (h:XZ F x1 x2=some r):Run D σ (R64 r) (.run A64 []) s:=by
 unfold XZ at h
 obtain ⟨h0,h1⟩:=hs
 refine .seq (rg (g0 nI fun h4=>gq (.nsq (.seq (rg (g0 (ji 0) fun h5=>gq (.nsq (.seq (.block (.loop ?_))))))))))
 exact zjM H x1 x2 F 0 _ ⟨h0,h1,h4,h5⟩ h
end
def e64 (F:Nat):Ent:=ent 64 (fun (x:(LI×Int×Unit))=>XZ F x.1 x.2.1) (fun (r:LI)=>(eL r)) 0 true []
abbrev C64 (D:List V→Option V) (F:Nat):Prop:=∀ (x0:LI) (x1:Int) r,XZ F x0 x1=some r→D [enc x0,enc x1]=some (eL r)
theorem p64 {F:Nat}:C64 (e64 F).den F:=fun x0 x1 _ h=>zZ (x0,x1,()) h
theorem o64 (hF:zH Tp D σ) (H:H64 D σ F):(e64 F).Ok Tp:=okZ (f:=64) Try.func64 fun ⟨x0,x1,_⟩ y hy=>cR hF Try.func64 c64 (t64 H x0 x1 _ ⟨rfl,rfl⟩ hy)
def zq3:AC:=(.cond (.t 18) .skip (.exit 0))
def zpM:AC:=(.cond (.t 30) .skip (.exit 2))
def zsH:AC:=(.cond (.t 38) (.exit 3) .skip)
def znG:AC:=(.cond (.t 44) (.reg [.clr [50,51]] [jm 45 8,jm 46 10,jm 47 11,jv 48 (.idx (.t 46) (.t 47) 1),jl 49 48,jx 50 (.lit i0 1 [(0,0,.t 49)]),jx 51 (.app .s (.t 45) (.t 50)),jm 8 51] [.home 51 8]) (.reg [.frz 7] [jm 52 7,jm 53 10,jm 54 11,jv 55 (.idx (.t 53) (.t 54) 1),jl 56 55,jx 57 (.call (jf 64) [.t 52,.t 56]),jm 7 57] []))
def znJ:AC:=(.seq (rr [jm 39 1,jm 40 10,jm 41 11,jv 42 (.idx (.t 40) (.t 41) 1),jl 43 42,jx 44 (.call (jf 65) [.t 39,.t 43])]) znG)
def zhb:AC:=(rr [jm 31 11,jv 32 (.bin .add (.t 31) (jn 1)),jm 11 32])
def ztF:AC:=(.seq (.block 3 (.seq (.seq (rr [jm 33 8,jm 34 10,jm 35 11,jv 36 (.idx (.t 34) (.t 35) 1),jl 37 36,jx 38 (.call (jf 65) [.t 33,.t 37])]) zsH) znJ)) zhb)
def QQ:AC:=(.seq (.seq (rr [jm 27 11,jm 28 10,jk 29 28,jv 30 (.bin .lss (.t 27) (.t 29))]) zpM) ztF)
def zrv:AC:=(.block 2 (.loop QQ))
def zs4:AC:=(.seq (rr [jv 11 (.mov (jn 0))]) zrv)
def za3:AC:=(rr [jm 19 9,jv 20 (.bin .add (.t 19) (jn 1)),jm 9 20])
def zqg:AC:=(.seq (.block 1 (.seq (rr [jv 21 (.load (.ag [.s,.p]) (.t 3)),jm 22 8,jm 23 9,jv 24 (.idx (.t 22) (.t 23) 1),jl 25 24,jx 26 (.call (jf 83) [.t 21,.t 25]),jm 10 26]) zs4)) za3)
def KG:AC:=(.seq (.seq (rr [jm 15 9,jm 16 8,jk 17 16,jv 18 (.bin .lss (.t 15) (.t 17))]) zq3) zqg)
def KV:AC:=(.seq (rr [jm 58 7,jm 6 58]) .ret)
def zn3:AC:=(.block 0 (.loop KG))
def znv:AC:=(.seq (.seq (rr [jv 9 (.mov (jn 0))]) zn3) KV)
def znI:AC:=(.seq (.reg [.clr [12,14]] [jx 12 (.lit i0 0 []),jm 13 2,jx 14 (.lit i0 1 [(0,0,.t 13)]),jm 7 12,jm 8 14] [.home 12 7,.home 14 8,.frz 7]) znv)
def A63:AC:=(.seq (.reg [.clr [3]] [jx 3 (.box (.t 0)),jv 6 (.mov (.k (.sl .nl .s 0 [])))] []) znI)
def zxM:List An:=[⟨0,[.clr [3]],[],[],[]⟩,⟨1,[.clr [12,14]],[],[],[.home 12 7,.home 14 8,.frz 7]⟩,⟨11,[.clr [50,51]],[],[],[.home 51 8]⟩,⟨12,[.frz 7],[],[],[]⟩]
theorem c63:cq Tp Try.f63 zxM=some A63:=by kernel_rfl
structure H63 (D:Den) (σ:Sig) (F:Nat):Prop where
 c83:C83 (D 83) F
 g83:σ 83=some (0,false)
 c65:C65 (D 65) F
 g65:σ 65=some (0,false)
 c64:C64 (D 64) F
 g64:σ 64=some (0,true)
abbrev R63 (r:LI):(Nat→V)→Prop:=RR Tp [.tmp 6] 0 true (eL r)
section
variable {r:LI}
def Yo (F:Nat) (x2:LI) (x1:GR) (x53:Int) (r102:LI) (x119:Int) (c1:LI→LI→Int→Option LI) (c4:LI→LI→Int→Option LI) (x142:LI) (x143:LI):Option LI:=
 c4 x142 x143 (w64 (x119 + 1))
theorem zdq (H:H63 D σ F) (x2:LI) (x1:GR) (x53:Int) (r102:LI) (x119:Int) (c1:LI→LI→Int→Option LI) (Hc1:∀ (x51:LI) (x52:LI) (x53:Int) (s:Nat→V),zB [(1,eL x2),(3,bG 3 x1),(6,nI),(7,eL x51),(8,oI 8 [] (.of x52)),(9,ji x53)] s→c1 x51 x52 x53=some r→Run D σ (R63 r) (.run KG [.lp KG,.bk 0,.sq KV]) s) (c4:LI→LI→Int→Option LI) (Hc4:∀ (x117:LI) (x118:LI) (x119:Int) (s:Nat→V),zB [(1,eL x2),(3,bG 3 x1),(6,nI),(7,eL x117),(8,oI 8 [] (.of x118)),(9,ji x53),(10,eL r102),(11,ji x119)] s→c4 x117 x118 x119=some r→Run D σ (R63 r) (.run QQ [.lp QQ,.bk 2,.bk 1,.sq za3,.lp KG,.bk 0,.sq KV]) s) (x142:LI) (x143:LI) (s:Nat→V) (hs:zB [(1,eL x2),(3,bG 3 x1),(6,nI),(7,eL x142),(8,oI 8 [] (.of x143)),(9,ji x53),(10,eL r102),(11,ji x119)] s) (h:Yo F x2 x1 x53 r102 x119 c1 c4 x142 x143=some r):Run D σ (R63 r) (.nrm [.bk 3,.sq zhb,.lp QQ,.bk 2,.bk 1,.sq za3,.lp KG,.bk 0,.sq KV]) s:=by
 unfold Yo at h
 obtain ⟨h1,h3,h6,h7,h8,h9,h10,h11⟩:=hs
 refine .nbk (.nsq (rg (gm h11 fun h31=>g1 31 (ji (w64 (x119 + 1))) h31 fun h32=>gm h32 fun h11=>gz [(1,_),(3,_),(6,_),(7,_),(8,_),(9,_),(10,_),(11,_)] ⟨h1,h3,h6,h7,h8,h9,h10,h11⟩ ?_)))
 rintro s ⟨h1,h3,h6,h7,h8,h9,h10,h11⟩
 refine .nlp ?_
 exact Hc4 x142 x143 (w64 (x119 + 1)) _ ⟨h1,h3,h6,h7,h8,h9,h10,h11⟩ h
def xA (F:Nat) (x2:LI) (x1:GR) (x53:Int) (r102:LI) (c1:LI→LI→Int→Option LI):Nat→LI→LI→Int→Option LI
 | 0,_,_,_=>none
 | k + 1,x117,x118,x119=>
   bif decide (x119 < (r102.length:Int)) then
    (idx r102 x119).bind fun v134=>
    (vF F x118 v134).bind fun r135=>
    bif r135 then
     (xA F x2 x1 x53 r102 c1 k) x117 x118 (w64 (x119 + 1))
    else
     (idx r102 x119).bind fun v136=>
     (vF F x2 v136).bind fun r137=>
     bif r137 then
      (idx r102 x119).bind fun v144=>
      (vh x118 [v144]).bind fun ap145=>
      Yo F x2 x1 x53 r102 x119 c1 (xA F x2 x1 x53 r102 c1 k) x117 ap145
     else
      (idx r102 x119).bind fun v146=>
      (XZ F x117 v146).bind fun r147=>
      Yo F x2 x1 x53 r102 x119 c1 (xA F x2 x1 x53 r102 c1 k) r147 x118
   else
    c1 x117 x118 (w64 (x53 + 1))
theorem zhL (H:H63 D σ F) (x2:LI) (x1:GR) (x53:Int) (r102:LI) (c1:LI→LI→Int→Option LI) (Hc1:∀ (x51:LI) (x52:LI) (x53:Int) (s:Nat→V),zB [(1,eL x2),(3,bG 3 x1),(6,nI),(7,eL x51),(8,oI 8 [] (.of x52)),(9,ji x53)] s→c1 x51 x52 x53=some r→Run D σ (R63 r) (.run KG [.lp KG,.bk 0,.sq KV]) s):∀ (k:Nat) (x117:LI) (x118:LI) (x119:Int) (s:Nat→V),zB [(1,eL x2),(3,bG 3 x1),(6,nI),(7,eL x117),(8,oI 8 [] (.of x118)),(9,ji x53),(10,eL r102),(11,ji x119)] s→xA F x2 x1 x53 r102 c1 k x117 x118 x119=some r→Run D σ (R63 r) (.run QQ [.lp QQ,.bk 2,.bk 1,.sq za3,.lp KG,.bk 0,.sq KV]) s:=by
 intro k
 induction k with
 | zero=>intro x117 x118 x119 s _ h;exact nm h
 | succ k ih=>
   intro x117 x118 x119 s hs h
   rw [xA] at h
   obtain ⟨h1,h3,h6,h7,h8,h9,h10,h11⟩:=hs
   refine .seq (.seq (rg (gm h11 fun h27=>gm h10 fun h28=>gl r102 h28 fun h29=>g2 27 29 (jb (decide (x119 < (r102.length:Int)))) h27 h29 fun h30=>gq (.nsq (zu h30 h (fun h=>?_) (fun h=>?_))))))
   · refine .skip (.nsq (.seq (.block (.seq (.seq (rg (gm h8 fun h33=>gm h10 fun h34=>gm h11 fun h35=>?_)))))))
     obtain ⟨v134,Ev134,h⟩:=zd h
     refine gv (.ref .sh 0 [] (ji v134)) (yG (t:=.sh) (lo:=0) (xs:=r102) h34 h35 Ev134 rfl rfl) fun h36=>g1 36 (ji v134) h36 fun h37=>?_
     obtain ⟨r135,Er135,h⟩:=zd h
     refine gcF [eL x118,enc (v134:Int)] (zl h33 rfl (ug (o:=.of x118)) (zl h37 rfl rfl zJ)) (H.c65 _ _ _ Er135) H.g65 (gq (.nsq (zu rfl h (fun h=>?_) (fun h=>?_))))
     · refine .exit (.esq (.ebk (.nsq (rg (gm h11 fun h31=>g1 31 (ji (w64 (x119 + 1))) h31 fun h32=>gm h32 fun h11=>gq (.nlp ?_))))))
       exact ih x117 x118 (w64 (x119 + 1)) _ ⟨h1,h3,h6,h7,h8,h9,h10,h11⟩ h
     refine .skip (.nsq (.seq (rg (gm h1 fun h39=>gm h10 fun h40=>gm h11 fun h41=>?_))))
     obtain ⟨v136,Ev136,h⟩:=zd h
     refine gv (.ref .sh 0 [] (ji v136)) (yG (t:=.sh) (lo:=0) (xs:=r102) h40 h41 Ev136 rfl rfl) fun h42=>g1 42 (ji v136) h42 fun h43=>?_
     obtain ⟨r137,Er137,h⟩:=zd h
     refine gcF [eL x2,enc (v136:Int)] (zl h39 rfl (erase_enc (x2:LI)) (zl h43 rfl rfl zJ)) (H.c65 _ _ _ Er137) H.g65 (gq (.nsq (zu rfl h (fun h=>?_) (fun h=>?_))))
     · refine zC (yc ?_)
       refine ez [(1,_),(3,_),(6,_),(7,_),(8,_),(9,_),(10,_),(11,_),(50,_),(51,_)] ⟨za h1 rfl me,za h3 rfl (zi rfl mIE),za h6 rfl rfl,za h7 rfl me,za h8 rfl (zm (r:=8) (p:=[]) rfl rfl),za h9 rfl mi,za h10 rfl me,za h11 rfl mi,zg rfl,zg rfl⟩ ?_
       rintro s ⟨h1,h3,h6,h7,h8,h9,h10,h11,h50,h51⟩
       refine gm h8 fun h45=>gm h10 fun h46=>gm h11 fun h47=>?_
       obtain ⟨v144,Ev144,h⟩:=zd h
       refine gv (.ref .sh 0 [] (ji v144)) (yG (t:=.sh) (lo:=0) (xs:=r102) h46 h47 Ev144 rfl rfl) fun h48=>g1 48 (ji v144) h48 fun h49=>xv [(49,ji v144)] [enc (v144:Int)] h49 rfl rfl h50 ?_
       obtain ⟨ap145,Eap145,h⟩:=zd h
       refine ZG (q:=8) (p:=[]) (o:=.of (x118:LI)) (ys:=([v144]:LI)) (t2:=.at 50 []) (lo2:=0) h45 rfl rfl h51 (vK (o:=.of (x118:LI)) Eap145 trivial) (fun s75 ha75=>gm (rf (oI 51 [] (.of ap145))) fun h8=>xf (yR (r:=51) (x:=8) (v:=_) h8 rfl (fun s76 hz76=>?_)))
       refine ez [(1,eL x2),(3,bG 3 x1),(6,nI),(7,eL x117),(8,oI 8 [] (.of ap145)),(9,ji x53),(10,eL r102),(11,ji x119)] ⟨hz76 1 _ _ (show s75 1=(eL x2) from zF ha75 h1 me) me,hz76 3 _ _ (show s75 3=(bG 3 x1) from zF ha75 h3 (zi rfl mIE)) (zi rfl mIE),hz76 6 _ nI (show s75 6=nI from zF ha75 h6 rfl) rfl,hz76 7 _ _ (show s75 7=(eL x117) from zF ha75 h7 me) me,hz76 8 _ _ h8 (zm (r:=51) (p:=[]) rfl rfl),hz76 9 _ _ (show s75 9=(ji x53) from zF ha75 h9 mi) mi,hz76 10 _ _ (show s75 10=(eL r102) from zF ha75 h10 me) me,hz76 11 _ _ (show s75 11=(ji x119) from zF ha75 h11 mi) mi⟩ ?_
       rintro s ⟨h1,h3,h6,h7,h8,h9,h10,h11⟩
       exact zdq H x2 x1 x53 r102 x119 c1 Hc1 (xA F x2 x1 x53 r102 c1 k) ih x117 ap145 _ ⟨h1,h3,h6,h7,h8,h9,h10,h11⟩ h
     refine zC (JQ (x:=7) (v:=eL x117) [] (by exact h7) (toks_enc (x117:LI)) (fun s77 hz77=>?_))
     refine ez [(1,_),(3,_),(6,_),(7,_),(8,_),(9,_),(10,_),(11,_)] ⟨hz77 1 _ _ h1 (Z7 _),hz77 3 _ _ h3 (Z7 _),hz77 6 _ _ h6 (Z7 _),hz77 7 _ _ h7 (Z7 _),hz77 8 _ _ h8 (Z7 _),hz77 9 _ _ h9 (Z7 _),hz77 10 _ _ h10 (Z7 _),hz77 11 _ _ h11 (Z7 _)⟩ ?_
     rintro s ⟨h1,h3,h6,h7,h8,h9,h10,h11⟩
     refine gm h7 fun h52=>gm h10 fun h53=>gm h11 fun h54=>?_
     obtain ⟨v146,Ev146,h⟩:=zd h
     refine gv (.ref .sh 0 [] (ji v146)) (yG (t:=.sh) (lo:=0) (xs:=r102) h53 h54 Ev146 rfl rfl) fun h55=>g1 55 (ji v146) h55 fun h56=>?_
     obtain ⟨r147,Er147,h⟩:=zd h
     refine XG (m:=0) (al:=true) (r:=eL r147) [eL x117,enc (v146:Int)] (zl h52 rfl (erase_enc (x117:LI)) (zl h56 rfl rfl zJ)) (H.c64 _ _ _ Er147) H.g64 (Xt (wC (v:=eL x117) h52 rfl rfl (wC (v:=ji v146) h56 rfl rfl Xi))) rfl rfl rfl (gm (rf (eL r147)) fun h7=>gz [(1,_),(3,_),(6,_),(7,_),(8,_),(9,_),(10,_),(11,_)] ⟨h1,h3,h6,h7,h8,h9,h10,h11⟩ ?_)
     rintro s ⟨h1,h3,h6,h7,h8,h9,h10,h11⟩
     exact zdq H x2 x1 x53 r102 x119 c1 Hc1 (xA F x2 x1 x53 r102 c1 k) ih r147 x118 _ ⟨h1,h3,h6,h7,h8,h9,h10,h11⟩ h
   refine .exit (.esq (.elp (.ebk (.nbk (.nsq (rg (gm h9 fun h19=>g1 19 (ji (w64 (x53 + 1))) h19 fun h20=>gm h20 fun h9=>gq (.nlp ?_))))))))
   exact Hc1 x117 x118 (w64 (x53 + 1)) _ ⟨h1,h3,h6,h7,h8,h9⟩ h
def wu (F:Nat) (x2:LI) (x1:GR) :Nat→LI→LI→Int→Option LI
 | 0,_,_,_=>none
 | k + 1,x51,x52,x53=>
   bif decide (x53 < (x52.length:Int)) then
    (idx x52 x53).bind fun v101=>
    (uT F x1 v101).bind fun r102=>
    xA F x2 x1 x53 r102 (wu F x2 x1 k) F x51 x52 0
   else
    some x51
theorem zjw (H:H63 D σ F) (x2:LI) (x1:GR) :∀ (k:Nat) (x51:LI) (x52:LI) (x53:Int) (s:Nat→V),zB [(1,eL x2),(3,bG 3 x1),(6,nI),(7,eL x51),(8,oI 8 [] (.of x52)),(9,ji x53)] s→wu F x2 x1 k x51 x52 x53=some r→Run D σ (R63 r) (.run KG [.lp KG,.bk 0,.sq KV]) s:=by
 intro k
 induction k with
 | zero=>intro x51 x52 x53 s _ h;exact nm h
 | succ k ih=>
   intro x51 x52 x53 s hs h
   rw [wu] at h
   obtain ⟨h1,h3,h6,h7,h8,h9⟩:=hs
   refine .seq (.seq (rg (gm h9 fun h15=>gm h8 fun h16=>gv (ji (x52.length:Int)) (YN (o:=.of x52) h16) fun h17=>g2 15 17 (jb (decide (x53 < (x52.length:Int)))) h15 h17 fun h18=>gq (.nsq (zu h18 h (fun h=>?_) (fun h=>?_))))))
   · refine .skip (.nsq (.seq (.block (.seq (rg (g1 3 (gV x1) h3 fun h21=>gm h8 fun h22=>gm h9 fun h23=>?_))))))
     obtain ⟨v101,Ev101,h⟩:=zd h
     refine gv (.ref (.at 8 []) x53.toNat [] (ji v101)) (vi (o:=.of x52) h22 h23 Ev101 rfl) fun h24=>g1 24 (ji v101) h24 fun h25=>?_
     obtain ⟨r102,Er102,h⟩:=zd h
     refine gcF [enc (x1:GR),enc (v101:Int)] (zl h21 rfl (erase_enc (x1:GR)) (zl h25 rfl rfl zJ)) (H.c83 _ _ _ Er102) H.g83 (gm (rf (eL r102)) fun h10=>gq (.nsq (.seq (rg (g0 (ji 0) fun h11=>gq (.nsq (.block (.loop ?_))))))))
     exact zhL H x2 x1 x53 r102 (wu F x2 x1 k) ih F x51 x52 0 _ ⟨h1,h3,h6,h7,h8,h9,h10,h11⟩ h
   refine .exit (.esq (.elp (.ebk (.nsq (.seq (rg (gm h7 fun h58=>gm h58 fun h6=>gq (.nsq (.ret ?_)))))))))
   obtain rfl:=oi h
   exact rrA (zA h6) (ww (w5 (x:=(x51:LI))))
def uw (F:Nat) (x1:GR) (x2:LI) (x3:Int):Option LI:=
 wu F x2 x1 F [] [x3] 0
theorem t63 (H:H63 D σ F) (x1:GR) (x2:LI) (x3:Int) (s:Nat→V) (hs:zB [(0,gV x1),(1,eL x2),(2,ji x3)] s) (h:uw F x1 x2 x3=some r):Run D σ (R63 r) (.run A63 []) s:=by
 unfold uw at h
 obtain ⟨h0,h1,h2⟩:=hs
 refine .seq (zC (yc ?_))
 refine ez [(0,_),(1,_),(2,_),(3,_)] ⟨za h0 rfl mIE,za h1 rfl me,za h2 rfl mi,zg rfl⟩ ?_
 rintro s ⟨h0,h1,h2,h3⟩
 refine xU (gV x1) (zx h0 rfl) h3 rfl (g0 nI fun h6=>gq (.nsq (.seq (zC (yc ?_)))))
 refine ez [(1,_),(2,_),(3,_),(6,_),(12,_),(14,_)] ⟨za h1 rfl me,za h2 rfl mi,za rfl rfl (zi rfl mIE),za h6 rfl rfl,zg rfl,zg rfl⟩ ?_
 rintro s ⟨h1,h2,h3,h6,h12,h14⟩
 refine xv [] [] trivial rfl rfl h12 (gm h2 fun h13=>xv [(13,ji x3)] [enc (x3:Int)] h13 rfl rfl h14 (gm (rf (oI 12 [] (.of []))) fun h7=>gm (rf (oI 14 [] (.of [x3]))) fun h8=>xf (yR (r:=12) (x:=7) (v:=_) h7 rfl (fun s3 hz3=>yR (r:=14) (x:=8) (v:=_) (by exact (hz3 8 _ _ h8 (zm (r:=14) (p:=[]) rfl rfl))) rfl (fun s4 hz4=>JQ (x:=7) (v:=oI 7 [] (.of [])) [.at 7 []] (by exact (hz4 7 _ _ (hz3 7 _ _ h7 (zm (r:=12) (p:=[]) rfl rfl)) (zm (r:=7) (p:=[]) rfl rfl))) zM (fun s5 hz5=>?_))))))
 refine ez [(1,eL x2),(3,bG 3 x1),(6,nI),(7,eL []),(8,oI 8 [] (.of [x3]))] ⟨hz5 1 (eL x2) (eL x2) (hz4 1 _ _ (hz3 1 _ _ h1 me) me) zE,hz5 3 (bG 3 x1) (bG 3 x1) (hz4 3 _ _ (hz3 3 _ _ h3 (zi rfl mIE)) (zi rfl mIE)) (wO rfl zIE rfl),hz5 6 nI nI (hz4 6 _ nI (hz3 6 _ nI h6 rfl) rfl) rfl,hz5 7 (oI 7 [] (.of [])) (eL []) (hz4 7 _ _ (hz3 7 _ _ h7 (zm (r:=12) (p:=[]) rfl rfl)) (zm (r:=7) (p:=[]) rfl rfl)) Xo,hz5 8 (oI 8 [] (.of [x3])) (oI 8 [] (.of [x3])) (hz4 8 _ _ (hz3 8 _ _ h8 (zm (r:=14) (p:=[]) rfl rfl)) (zm (r:=14) (p:=[]) rfl rfl)) (zdu rfl rfl)⟩ ?_
 rintro s ⟨h1,h3,h6,h7,h8⟩
 refine .nsq (.seq (.seq (rg (g0 (ji 0) fun h9=>gq (.nsq (.block (.loop ?_)))))))
 exact zjw H x2 x1 F [] [x3] 0 _ ⟨h1,h3,h6,h7,h8,h9⟩ h
end
def e63 (F:Nat):Ent:=ent 63 (fun (x:(GR×LI×Int×Unit))=>uw F x.1 x.2.1 x.2.2.1) (fun (r:LI)=>(eL r)) 0 true []
abbrev C63 (D:List V→Option V) (F:Nat):Prop:=∀ (x0:GR) (x1:LI) (x2:Int) r,uw F x0 x1 x2=some r→D [enc x0,enc x1,enc x2]=some (eL r)
theorem p63 {F:Nat}:C63 (e63 F).den F:=fun x0 x1 x2 _ h=>zZ (x0,x1,x2,()) h
theorem o63 (hF:zH Tp D σ) (H:H63 D σ F):(e63 F).Ok Tp:=okZ (f:=63) Try.func63 fun ⟨x0,x1,x2,_⟩ y hy=>cR hF Try.func63 c63 (t63 H x0 x1 x2 _ ⟨rfl,rfl,rfl⟩ hy)
def ztA:AC:=(.cond (.t 15) .skip (.exit 0))
def zuG:AC:=(.cond (.t 43) .skip (.exit 2))
def zjE:AC:=(.cond (.t 56) (.seq (.reg [.clr [62,63]] [jv 57 (.fld (.t 5) 1 1),jv 58 (.load .p (.t 57)),jm 59 6,jm 60 8,jv 61 (.bld (.agg [i0,i0]) [(0,0,.t 59),(1,1,.t 60)]),jx 62 (.lit (.agg [i0,i0]) 1 [(0,0,.t 61)]),jx 63 (.app (.ag [.s,.s]) (.t 58) (.t 62)),jv 64 (.fld (.t 5) 1 1),jz (.store .p (.t 64) (.t 63))] [.drp 10,.home 63 10]) (.exit 2)) .skip)
def zh0:AC:=(rr [jm 44 8,jv 45 (.bin .add (.t 44) (jn 1)),jm 8 45])
def zrf:AC:=(.seq (.block 3 (.seq (rr [jm 46 7,jm 47 1,jm 48 8,jv 49 (.idx (.t 47) (.t 48) 1),jl 50 49,jx 51 (.call (jf 65) [.t 46,.t 50]),jm 52 51,jg 53 52 false (.mov (.t 7)),jg 54 52 false (.len (.t 53)),jg 55 52 false (.bin .eql (.t 54) (jn 0)),jv 56 (.pick (.t 52) kt (.t 55))]) zjE)) zh0)
def Qs:AC:=(.seq (.seq (rr [jm 40 8,jm 41 1,jk 42 41,jv 43 (.bin .lss (.t 40) (.t 42))]) zuG) zrf)
def zrA:AC:=(.block 2 (.loop Qs))
def zuD:AC:=(.seq (rr [jm 38 6,jv 39 (.bin .add (.t 38) (jn 1)),jm 8 39]) zrA)
def zrE:AC:=(.seq (.reg [.clr [35,36]] [jv 27 (.fld (.t 5) 0 0),jv 28 (.load .p (.t 27)),jm 29 7,jm 30 1,jm 31 6,jv 32 (.idx (.t 30) (.t 31) 1),jl 33 32,jx 34 (.call (jf 64) [.t 29,.t 33]),jx 35 (.lit (.sl .nl .s 0 []) 1 [(0,0,.t 34)]),jx 36 (.app .p (.t 28) (.t 35)),jv 37 (.fld (.t 5) 0 0),jz (.store .p (.t 37) (.t 36))] [.drp 9,.home 36 9]) zuD)
def zbl:AC:=(rr [jm 16 6,jv 17 (.bin .add (.t 16) (jn 1)),jm 6 17])
def zpW:AC:=(.seq (.block 1 (.seq (rr [jv 18 (.load (.ag [.s,.p]) (.t 2)),jm 19 1,jm 20 6,jv 21 (.slice (.t 19) none (some (.t 20)) 1),jm 22 1,jm 23 6,jv 24 (.idx (.t 22) (.t 23) 1),jl 25 24,jx 26 (.call (jf 63) [.t 18,.t 21,.t 25]),jm 7 26]) zrE)) zbl)
def KK:AC:=(.seq (.seq (rr [jm 12 6,jm 13 1,jk 14 13,jv 15 (.bin .lss (.t 12) (.t 14))]) ztA) zpW)
def KQ:AC:=(.seq (rr [jv 65 (.load (.ag [.p,.p]) (.t 5)),jz (.store (.ag [.p,.p]) (.t 4) (.t 65))]) .ret)
def zm6:AC:=(.block 0 (.loop KK))
def zpw:AC:=(.seq (.seq (rr [jv 6 (.mov (jn 0))]) zm6) KQ)
def zoB:AC:=(.seq (.reg [.clr [9,10,5]] [jx 9 (.lit (.sl .nl .s 0 []) 0 []),jx 10 (.lit (.agg [i0,i0]) 0 []),jv 11 (.bld (.agg [.sl .nl .p 0 [],.sl .nl (.ag [.s,.s]) 0 []]) [(0,0,.t 9),(1,1,.t 10)]),jx 5 (.alloc (.agg [.sl .nl .p 0 [],.sl .nl (.ag [.s,.s]) 0 []])),jz (.store (.ag [.p,.p]) (.t 5) (.t 11))] []) zpw)
def A35:AC:=(.seq (.reg [.clr [2,4]] [jx 2 (.box (.t 0)),jx 4 (.alloc (.agg [.sl .nl .p 0 [],.sl .nl (.ag [.s,.s]) 0 []]))] []) zoB)
def zwJ:List An:=[⟨0,[.clr [2,4]],[],[],[]⟩,⟨1,[.clr [9,10,5]],[],[],[]⟩,⟨6,[.clr [35,36]],[],[],[.drp 9,.home 36 9]⟩,⟨11,[.clr [62,63]],[],[],[.drp 10,.home 63 10]⟩]
theorem c35:cq Tp Try.f35 zwJ=some A35:=by kernel_rfl
structure H35 (D:Den) (σ:Sig) (F:Nat):Prop where
 c63:C63 (D 63) F
 g63:σ 63=some (0,true)
 c64:C64 (D 64) F
 g64:σ 64=some (0,true)
 c65:C65 (D 65) F
 g65:σ 65=some (0,false)
abbrev R35 (r:((List LI)×TP)):(Nat→V)→Prop:=RR Tp [.cell 4 29] 0 true (enc (r:((List LI)×TP)))
section
variable {r:((List LI)×TP)}
def Yb (F:Nat) (x2:LI) (x1:GR) (ap67:(List LI)) (x32:TP) (x33:Int) (r64:LI) (x75:Int) (c1:(List LI)→TP→Int→Option ((List LI)×TP)) (c4:Int→Option ((List LI)×TP)) (x85:Bool):Option ((List LI)×TP):=
 bif x85 then
  (vh x32 [(x33,x75)]).bind fun ap87=>
  c1 ap67 ap87 (w64 (x33 + 1))
 else
  c4 (w64 (x75 + 1))
theorem zdj (H:H35 D σ F) (x2:LI) (x1:GR) (ap67:(List LI)) (x32:TP) (x33:Int) (r64:LI) (x75:Int) (c1:(List LI)→TP→Int→Option ((List LI)×TP)) (Hc1:∀ (x31:(List LI)) (x32:TP) (x33:Int) (s:Nat→V),zB [(1,eL x2),(2,bG 2 x1),(4,.ref (.bx 4) 0 [] (.agg [.sl .nl (shp LI) 0 [],nP])),(5,.ref (.bx 5) 0 [] (.agg [zh (.at 9 []) (.of (x31:List LI)),zh (.at 10 []) (.of (x32:TP))])),(6,ji x33)] s→c1 x31 x32 x33=some r→Run D σ (R35 r) (.run KK [.lp KK,.bk 0,.sq KQ]) s) (c4:Int→Option ((List LI)×TP)) (Hc4:∀ (x75:Int) (s:Nat→V),zB [(1,eL x2),(2,bG 2 x1),(4,.ref (.bx 4) 0 [] (.agg [.sl .nl (shp LI) 0 [],nP])),(5,.ref (.bx 5) 0 [] (.agg [zh (.at 9 []) (.of (ap67:List LI)),zh (.at 10 []) (.of (x32:TP))])),(6,ji x33),(7,eL r64),(8,ji x75)] s→c4 x75=some r→Run D σ (R35 r) (.run Qs [.lp Qs,.bk 2,.bk 1,.sq zbl,.lp KK,.bk 0,.sq KQ]) s) (x85:Bool) (s:Nat→V) (hs:zB [(1,eL x2),(2,bG 2 x1),(4,.ref (.bx 4) 0 [] (.agg [.sl .nl (shp LI) 0 [],nP])),(5,.ref (.bx 5) 0 [] (.agg [zh (.at 9 []) (.of (ap67:List LI)),zh (.at 10 []) (.of (x32:TP))])),(6,ji x33),(7,eL r64),(8,ji x75),(56,jb x85)] s) (h:Yb F x2 x1 ap67 x32 x33 r64 x75 c1 c4 x85=some r):Run D σ (R35 r) (.nrm [.sq zjE,.bk 3,.sq zh0,.lp Qs,.bk 2,.bk 1,.sq zbl,.lp KK,.bk 0,.sq KQ]) s:=by
 unfold Yb at h
 obtain ⟨h1,h2,h4,h5,h6,h7,h8,h56⟩:=hs
 refine .nsq (zu h56 h (fun h=>?_) (fun h=>?_))
 · refine .seq (zC (yc ?_))
   refine ez [(1,_),(2,_),(4,_),(5,_),(6,_),(7,_),(8,_),(62,_),(63,_)] ⟨za h1 rfl me,za h2 rfl (zi rfl mIE),za h4 rfl (zi rfl (zr (zc rfl (zc rfl zk)))),za h5 rfl (zi rfl (zr (zc (zm (r:=9) (p:=[]) rfl rfl) (zc (zm (r:=10) (p:=[]) rfl rfl) zk)))),za h6 rfl mi,za h7 rfl me,za h8 rfl mi,zg rfl,zg rfl⟩ ?_
   rintro s ⟨h1,h2,h4,h5,h6,h7,h8,h62,h63⟩
   refine g1 5 (.ref (.bx 5) 0 [1] (zh (.at 10 []) (.of (x32:TP)))) h5 fun h57=>g1 57 (zh (.at 10 []) (.of (x32:TP))) h57 fun h58=>gm h6 fun h59=>gm h8 fun h60=>g2 59 60 (.agg [ji x33,ji x75]) h59 h60 fun h61=>xv [(61,.agg [ji x33,ji x75])] [enc ((x33,x75):(Int×Int))] h61 rfl rfl h62 ?_
   obtain ⟨ap87,Eap87,h⟩:=zd h
   refine ZG (q:=10) (p:=[]) (o:=.of (x32:TP)) (ys:=([(x33,x75)]:TP)) (t2:=.at 62 []) (lo2:=0) h58 rfl rfl h63 (vK (o:=.of (x32:TP)) Eap87 trivial) (fun s84 ha84=>g1 5 (.ref (.bx 5) 0 [1] (kdO ((.of x32):NL (Int×Int)))) (show s84 5=(.ref (.bx 5) 0 [] (.agg [zh (.at 9 []) (.of (ap67:List LI)),kdO ((.of x32):NL (Int×Int))])) from xG ha84 h5 (zi rfl (zr (zc (zm (r:=9) (p:=[]) rfl rfl) (zc wX zk)))) (by intro h;first | (cases h;done) | (subst h;rfl))) fun h64=>?_)
   refine zQ (zh (.at 63 []) (.of (ap87:TP))) (zx h64 rfl) (zx rfl rfl) ⟨by decide,by decide,rfl,rfl,YQ,ui rfl rfl⟩ (xf (uq (x:=10) (fun s85 hx_85 hd_85=>yR (r:=63) (x:=10) (v:=_) (by exact hx_85) rfl (fun s86 hz86=>?_))))
   refine ez [(1,eL x2),(2,bG 2 x1),(4,.ref (.bx 4) 0 [] (.agg [.sl .nl (shp LI) 0 [],nP])),(5,.ref (.bx 5) 0 [] (.agg [zh (.at 9 []) (.of (ap67:List LI)),zh (.at 10 []) (.of (ap87:TP))])),(6,ji x33),(7,eL r64),(8,ji x75)] ⟨hz86 1 _ _ (show s85 1=(eL x2) from (hd_85 1 (by decide)).trans (zb (show s84 1=(eL x2) from zF ha84 h1 me) uE)) me,hz86 2 _ _ (show s85 2=(bG 2 x1) from (hd_85 2 (by decide)).trans (zb (show s84 2=(bG 2 x1) from zF ha84 h2 (zi rfl mIE)) (zj rfl rfl uIE))) (zi rfl mIE),hz86 4 _ _ (show s85 4=(.ref (.bx 4) 0 [] (.agg [.sl .nl (shp LI) 0 [],nP])) from (hd_85 4 (by decide)).trans (zb (show s84 4=(.ref (.bx 4) 0 [] (.agg [.sl .nl (shp LI) 0 [],nP])) from zF ha84 h4 (zi rfl (zr (zc rfl (zc rfl zk))))) (zj rfl rfl (zK (zf rfl (zf rfl rfl)))))) (zi rfl (zr (zc rfl (zc rfl zk)))),hz86 5 _ (.ref (.bx 5) 0 [] (.agg [zh (.at 9 []) (.of (ap67:List LI)),zh (.at 10 []) (.of (ap87:TP))])) (show s85 5=(.ref (.bx 5) 0 [] (.agg [zh (.at 9 []) (.of (ap67:List LI)),zh (.at 63 []) (.of (ap87:TP))])) from (hd_85 5 (by decide)).trans (zb (show s84 5=(.ref (.bx 5) 0 [] (.agg [zh (.at 9 []) (.of (ap67:List LI)),kdO ((.of x32):NL (Int×Int))])) from xG ha84 h5 (zi rfl (zr (zc (zm (r:=9) (p:=[]) rfl rfl) (zc wX zk)))) (by intro h;first | (cases h;done) | (subst h;rfl))) (u6 (zf (yg rfl rfl) (zf YS rfl))))) (zi rfl (zr (zc (zm (r:=9) (p:=[]) rfl rfl) (zc (zm (r:=63) (p:=[]) rfl rfl) zk)))),hz86 6 _ _ (show s85 6=(ji x33) from (hd_85 6 (by decide)).trans (zb (show s84 6=(ji x33) from zF ha84 h6 mi) rfl)) mi,hz86 7 _ _ (show s85 7=(eL r64) from (hd_85 7 (by decide)).trans (zb (show s84 7=(eL r64) from zF ha84 h7 me) uE)) me,hz86 8 _ _ (show s85 8=(ji x75) from (hd_85 8 (by decide)).trans (zb (show s84 8=(ji x75) from zF ha84 h8 mi) rfl)) mi⟩ ?_
   rintro s ⟨h1,h2,h4,h5,h6,h7,h8⟩
   refine .nsq (.exit (.ebn (by decide) (.esq (.elp (.ebk (.nbk (.nsq (rg (gm h6 fun h16=>g1 16 (ji (w64 (x33 + 1))) h16 fun h17=>gm h17 fun h6=>gq (.nlp ?_))))))))))
   exact Hc1 ap67 ap87 (w64 (x33 + 1)) _ ⟨h1,h2,h4,h5,h6⟩ h
 refine .skip (.nbk (.nsq (rg (gm h8 fun h44=>g1 44 (ji (w64 (x75 + 1))) h44 fun h45=>gm h45 fun h8=>gq (.nlp ?_)))))
 exact Hc4 (w64 (x75 + 1)) _ ⟨h1,h2,h4,h5,h6,h7,h8⟩ h
def wi (F:Nat) (x2:LI) (x1:GR) (ap67:(List LI)) (x32:TP) (x33:Int) (r64:LI) (c1:(List LI)→TP→Int→Option ((List LI)×TP)):Nat→Int→Option ((List LI)×TP)
 | 0,_=>none
 | k + 1,x75=>
   bif decide (x75 < (x2.length:Int)) then
    (idx x2 x75).bind fun v88=>
    (vF F r64 v88).bind fun r89=>
    bif r89 then
     Yb F x2 x1 ap67 x32 x33 r64 x75 c1 (wi F x2 x1 ap67 x32 x33 r64 c1 k) true
    else
     Yb F x2 x1 ap67 x32 x33 r64 x75 c1 (wi F x2 x1 ap67 x32 x33 r64 c1 k) ((r64.length:Int) == 0)
   else
    c1 ap67 x32 (w64 (x33 + 1))
theorem zhz (H:H35 D σ F) (x2:LI) (x1:GR) (ap67:(List LI)) (x32:TP) (x33:Int) (r64:LI) (c1:(List LI)→TP→Int→Option ((List LI)×TP)) (Hc1:∀ (x31:(List LI)) (x32:TP) (x33:Int) (s:Nat→V),zB [(1,eL x2),(2,bG 2 x1),(4,.ref (.bx 4) 0 [] (.agg [.sl .nl (shp LI) 0 [],nP])),(5,.ref (.bx 5) 0 [] (.agg [zh (.at 9 []) (.of (x31:List LI)),zh (.at 10 []) (.of (x32:TP))])),(6,ji x33)] s→c1 x31 x32 x33=some r→Run D σ (R35 r) (.run KK [.lp KK,.bk 0,.sq KQ]) s):∀ (k:Nat) (x75:Int) (s:Nat→V),zB [(1,eL x2),(2,bG 2 x1),(4,.ref (.bx 4) 0 [] (.agg [.sl .nl (shp LI) 0 [],nP])),(5,.ref (.bx 5) 0 [] (.agg [zh (.at 9 []) (.of (ap67:List LI)),zh (.at 10 []) (.of (x32:TP))])),(6,ji x33),(7,eL r64),(8,ji x75)] s→wi F x2 x1 ap67 x32 x33 r64 c1 k x75=some r→Run D σ (R35 r) (.run Qs [.lp Qs,.bk 2,.bk 1,.sq zbl,.lp KK,.bk 0,.sq KQ]) s:=by
 intro k
 induction k with
 | zero=>intro x75 s _ h;exact nm h
 | succ k ih=>
   intro x75 s hs h
   rw [wi] at h
   obtain ⟨h1,h2,h4,h5,h6,h7,h8⟩:=hs
   refine .seq (.seq (rg (gm h8 fun h40=>gm h1 fun h41=>gl x2 h41 fun h42=>g2 40 42 (jb (decide (x75 < (x2.length:Int)))) h40 h42 fun h43=>gq (.nsq (zu h43 h (fun h=>?_) (fun h=>?_))))))
   · refine .skip (.nsq (.seq (.block (.seq (rg (gm h7 fun h46=>gm h1 fun h47=>gm h8 fun h48=>?_))))))
     obtain ⟨v88,Ev88,h⟩:=zd h
     refine gv (.ref .sh 0 [] (ji v88)) (yG (t:=.sh) (lo:=0) (xs:=x2) h47 h48 Ev88 rfl rfl) fun h49=>g1 49 (ji v88) h49 fun h50=>?_
     obtain ⟨r89,Er89,h⟩:=zd h
     refine gcF [eL r64,enc (v88:Int)] (zl h46 rfl (erase_enc (r64:LI)) (zl h50 rfl rfl zJ)) (H.c65 _ _ _ Er89) H.g65 (gm (rf (jb r89)) fun h52=>yd h (fun hg7 h=>?_) (fun hg7 h=>?_))
     · iterate 3 refine yq (ct h52 hg7) ?_
       refine g2 52 55 (jb true) (ct h52 hg7) (rf (.tup [])) fun h56=>gq ?_
       exact zdj H x2 x1 ap67 x32 x33 r64 x75 c1 Hc1 (wi F x2 x1 ap67 x32 x33 r64 c1 k) ih true _ ⟨h1,h2,h4,h5,h6,h7,h8,h56⟩ h
     refine zt (ct h52 hg7) (gm h7 fun h53=>zt (ct h52 hg7) (gl r64 h53 fun h54=>zt (ct h52 hg7) (g1 54 (jb ((r64.length:Int) == 0)) h54 fun h55=>g2 52 55 (jb ((r64.length:Int) == 0)) (ct h52 hg7) h55 fun h56=>gq ?_)))
     exact zdj H x2 x1 ap67 x32 x33 r64 x75 c1 Hc1 (wi F x2 x1 ap67 x32 x33 r64 c1 k) ih ((r64.length:Int) == 0) _ ⟨h1,h2,h4,h5,h6,h7,h8,h56⟩ h
   refine .exit (.esq (.elp (.ebk (.nbk (.nsq (rg (gm h6 fun h16=>g1 16 (ji (w64 (x33 + 1))) h16 fun h17=>gm h17 fun h6=>gq (.nlp ?_))))))))
   exact Hc1 ap67 x32 (w64 (x33 + 1)) _ ⟨h1,h2,h4,h5,h6⟩ h
def vu (F:Nat) (x2:LI) (x1:GR) :Nat→(List LI)→TP→Int→Option ((List LI)×TP)
 | 0,_,_,_=>none
 | k + 1,x31,x32,x33=>
   bif decide (x33 < (x2.length:Int)) then
    (sub x2 0 x33).bind fun sub62=>
    (idx x2 x33).bind fun v63=>
    (uw F x1 sub62 v63).bind fun r64=>
    (idx x2 x33).bind fun v65=>
    (XZ F r64 v65).bind fun r66=>
    (vh x31 [r66]).bind fun ap67=>
    wi F x2 x1 ap67 x32 x33 r64 (vu F x2 x1 k) F (w64 (x33 + 1))
   else
    some (x31,x32)
theorem zj9 (H:H35 D σ F) (x2:LI) (x1:GR) :∀ (k:Nat) (x31:(List LI)) (x32:TP) (x33:Int) (s:Nat→V),zB [(1,eL x2),(2,bG 2 x1),(4,.ref (.bx 4) 0 [] (.agg [.sl .nl (shp LI) 0 [],nP])),(5,.ref (.bx 5) 0 [] (.agg [zh (.at 9 []) (.of (x31:List LI)),zh (.at 10 []) (.of (x32:TP))])),(6,ji x33)] s→vu F x2 x1 k x31 x32 x33=some r→Run D σ (R35 r) (.run KK [.lp KK,.bk 0,.sq KQ]) s:=by
 intro k
 induction k with
 | zero=>intro x31 x32 x33 s _ h;exact nm h
 | succ k ih=>
   intro x31 x32 x33 s hs h
   rw [vu] at h
   obtain ⟨h1,h2,h4,h5,h6⟩:=hs
   refine .seq (.seq (rg (gm h6 fun h12=>gm h1 fun h13=>gl x2 h13 fun h14=>g2 12 14 (jb (decide (x33 < (x2.length:Int)))) h12 h14 fun h15=>gq (.nsq (zu h15 h (fun h=>?_) (fun h=>?_))))))
   · refine .skip (.nsq (.seq (.block (.seq (rg (g1 2 (gV x1) h2 fun h18=>gm h1 fun h19=>gm h6 fun h20=>?_))))))
     obtain ⟨sub62,Esub62,h⟩:=zd h
     refine gv (eL sub62) (X2 (xs:=x2) h19 (u9) (Ze h20) Esub62 rfl) fun h21=>gm h1 fun h22=>gm h6 fun h23=>?_
     obtain ⟨v63,Ev63,h⟩:=zd h
     refine gv (.ref .sh 0 [] (ji v63)) (yG (t:=.sh) (lo:=0) (xs:=x2) h22 h23 Ev63 rfl rfl) fun h24=>g1 24 (ji v63) h24 fun h25=>?_
     obtain ⟨r64,Er64,h⟩:=zd h
     refine XG (m:=0) (al:=true) (r:=eL r64) [enc (x1:GR),eL sub62,enc (v63:Int)] (zl h18 rfl (erase_enc (x1:GR)) (zl h21 rfl (erase_enc (sub62:LI)) (zl h25 rfl rfl zJ))) (H.c63 _ _ _ _ Er64) H.g63 (Xt (wC (v:=gV x1) h18 rfl rfl (wC (v:=eL sub62) h21 rfl rfl (wC (v:=ji v63) h25 rfl rfl Xi)))) rfl rfl rfl (gm (rf (eL r64)) fun h7=>gq (.nsq (.seq (zC (yc ?_)))))
     refine ez [(1,_),(2,_),(4,_),(5,_),(6,_),(7,_),(35,_),(36,_)] ⟨za h1 rfl me,za h2 rfl (zi rfl mIE),za h4 rfl (zi rfl (zr (zc rfl (zc rfl zk)))),za h5 rfl (zi rfl (zr (zc (zm (r:=9) (p:=[]) rfl rfl) (zc (zm (r:=10) (p:=[]) rfl rfl) zk)))),za h6 rfl mi,za h7 rfl me,zg rfl,zg rfl⟩ ?_
     rintro s ⟨h1,h2,h4,h5,h6,h7,h35,h36⟩
     refine g1 5 (.ref (.bx 5) 0 [0] (zh (.at 9 []) (.of (x31:List LI)))) h5 fun h27=>g1 27 (zh (.at 9 []) (.of (x31:List LI))) h27 fun h28=>gm h7 fun h29=>gm h1 fun h30=>gm h6 fun h31=>?_
     obtain ⟨v65,Ev65,h⟩:=zd h
     refine gv (.ref .sh 0 [] (ji v65)) (yG (t:=.sh) (lo:=0) (xs:=x2) h30 h31 Ev65 rfl rfl) fun h32=>g1 32 (ji v65) h32 fun h33=>?_
     obtain ⟨r66,Er66,h⟩:=zd h
     refine XG (m:=0) (al:=true) (r:=eL r66) [eL r64,enc (v65:Int)] (zl h29 rfl (erase_enc (r64:LI)) (zl h33 rfl rfl zJ)) (H.c64 _ _ _ Er66) H.g64 (Xt (wC (v:=eL r64) h29 rfl rfl (wC (v:=ji v65) h33 rfl rfl Xi))) rfl rfl rfl (xv [(34,eL r66)] [eL r66] rfl rfl rfl h35 ?_)
     obtain ⟨ap67,Eap67,h⟩:=zd h
     refine ZG (q:=9) (p:=[]) (o:=.of (x31:List LI)) (ys:=([r66]:List LI)) (t2:=.at 35 []) (lo2:=0) h28 rfl rfl h36 (vK (o:=.of (x31:List LI)) Eap67 trivial) (fun s60 ha60=>g1 5 (.ref (.bx 5) 0 [0] (kdO ((.of x31):NL LI))) (show s60 5=(.ref (.bx 5) 0 [] (.agg [kdO ((.of x31):NL LI),zh (.at 10 []) (.of (x32:TP))])) from xG ha60 h5 (zi rfl (zr (zc wX (zc (zm (r:=10) (p:=[]) rfl rfl) zk)))) (by intro h;first | (cases h;done) | (subst h;rfl))) fun h37=>zQ (zh (.at 36 []) (.of (ap67:List LI))) (zx h37 rfl) (zx rfl rfl) ⟨by decide,by decide,rfl,rfl,YQ,ui rfl rfl⟩ ?_)
     refine xf (uq (x:=9) (fun s61 hx_61 hd_61=>yR (r:=36) (x:=9) (v:=_) (by exact hx_61) rfl (fun s62 hz62=>?_)))
     refine ez [(1,eL x2),(2,bG 2 x1),(4,.ref (.bx 4) 0 [] (.agg [.sl .nl (shp LI) 0 [],nP])),(5,.ref (.bx 5) 0 [] (.agg [zh (.at 9 []) (.of (ap67:List LI)),zh (.at 10 []) (.of (x32:TP))])),(6,ji x33),(7,eL r64)] ⟨hz62 1 _ _ (show s61 1=(eL x2) from (hd_61 1 (by decide)).trans (zb (show s60 1=(eL x2) from zF ha60 h1 me) uE)) me,hz62 2 _ _ (show s61 2=(bG 2 x1) from (hd_61 2 (by decide)).trans (zb (show s60 2=(bG 2 x1) from zF ha60 h2 (zi rfl mIE)) (zj rfl rfl uIE))) (zi rfl mIE),hz62 4 _ _ (show s61 4=(.ref (.bx 4) 0 [] (.agg [.sl .nl (shp LI) 0 [],nP])) from (hd_61 4 (by decide)).trans (zb (show s60 4=(.ref (.bx 4) 0 [] (.agg [.sl .nl (shp LI) 0 [],nP])) from zF ha60 h4 (zi rfl (zr (zc rfl (zc rfl zk))))) (zj rfl rfl (zK (zf rfl (zf rfl rfl)))))) (zi rfl (zr (zc rfl (zc rfl zk)))),hz62 5 _ (.ref (.bx 5) 0 [] (.agg [zh (.at 9 []) (.of (ap67:List LI)),zh (.at 10 []) (.of (x32:TP))])) (show s61 5=(.ref (.bx 5) 0 [] (.agg [zh (.at 36 []) (.of (ap67:List LI)),zh (.at 10 []) (.of (x32:TP))])) from (hd_61 5 (by decide)).trans (zb (show s60 5=(.ref (.bx 5) 0 [] (.agg [kdO ((.of x31):NL LI),zh (.at 10 []) (.of (x32:TP))])) from xG ha60 h5 (zi rfl (zr (zc wX (zc (zm (r:=10) (p:=[]) rfl rfl) zk)))) (by intro h;first | (cases h;done) | (subst h;rfl))) (u6 (zf YS (zf (yg rfl rfl) rfl))))) (zi rfl (zr (zc (zm (r:=36) (p:=[]) rfl rfl) (zc (zm (r:=10) (p:=[]) rfl rfl) zk)))),hz62 6 _ _ (show s61 6=(ji x33) from (hd_61 6 (by decide)).trans (zb (show s60 6=(ji x33) from zF ha60 h6 mi) rfl)) mi,hz62 7 _ _ (show s61 7=(eL r64) from (hd_61 7 (by decide)).trans (zb (show s60 7=(eL r64) from zF ha60 h7 me) uE)) me⟩ ?_
     rintro s ⟨h1,h2,h4,h5,h6,h7⟩
     refine .nsq (.seq (rg (gm h6 fun h38=>g1 38 (ji (w64 (x33 + 1))) h38 fun h39=>gm h39 fun h8=>gq (.nsq (.block (.loop ?_))))))
     exact zhz H x2 x1 ap67 x32 x33 r64 (vu F x2 x1 k) ih F (w64 (x33 + 1)) _ ⟨h1,h2,h4,h5,h6,h7,h8⟩ h
   refine .exit (.esq (.elp (.ebk (.nsq (.seq (rg (g1 5 (.agg [zh (.at 9 []) (.of (x31:List LI)),zh (.at 10 []) (.of (x32:TP))]) h5 fun h65=>zQ (.agg [zh (.at 9 []) (.of (x31:List LI)),zh (.at 10 []) (.of (x32:TP))]) (zx h4 rfl) (zx h65 rfl) (xr (by first | rfl | simp [V.toks,V.tokss,toks_enc,zN])) (gz [(4,.ref (.bx 4) 0 [] (.agg [zh (.at 9 []) (.of (x31:List LI)),zh (.at 10 []) (.of (x32:TP))]))] (zb h4 rfl) ?_))))))))
   rintro s h4
   refine .nsq (.ret ?_)
   obtain rfl:=oi h
   exact rrA (yL h4 (by kernel_rfl)) (ww (uB (zW (xk (o:=.of x31)) (zW (xk (o:=.of x32)) xg))))
def W1 (F:Nat) (x1:GR) (x2:LI):Option ((List LI)×TP):=
 vu F x2 x1 F [] [] 0
theorem t35 (H:H35 D σ F) (x1:GR) (x2:LI) (s:Nat→V) (hs:zB [(0,gV x1),(1,eL x2)] s) (h:W1 F x1 x2=some r):Run D σ (R35 r) (.run A35 []) s:=by
 unfold W1 at h
 obtain ⟨h0,h1⟩:=hs
 refine .seq (zC (yc ?_))
 refine ez [(0,_),(1,_),(2,_),(4,_)] ⟨za h0 rfl mIE,za h1 rfl me,zg rfl,zg rfl⟩ ?_
 rintro s ⟨h0,h1,h2,h4⟩
 refine xU (gV x1) (zx h0 rfl) h2 rfl (y6 h4 (gq (.nsq (.seq (zC (yc ?_))))))
 refine ez [(1,_),(2,_),(4,_),(5,_),(9,_),(10,_)] ⟨za h1 rfl me,za rfl rfl (zi rfl mIE),za rfl rfl (zi rfl (zr (zc rfl (zc rfl zk)))),zg rfl,zg rfl,zg rfl⟩ ?_
 rintro s ⟨h1,h2,h4,h5,h9,h10⟩
 refine xv [] [] trivial rfl rfl h9 (xv [] [] trivial rfl rfl h10 (g2 9 10 (.agg [zh (.at 9 []) (.of ([]:List LI)),zh (.at 10 []) (.of ([]:TP))]) (rf (zh (.at 9 []) (.of ([]:List LI)))) (rf (zh (.at 10 []) (.of ([]:TP)))) fun h11=>y6 h5 (zQ (.agg [zh (.at 9 []) (.of ([]:List LI)),zh (.at 10 []) (.of ([]:TP))]) (zx rfl rfl) (zx h11 rfl) (xr (by first | rfl | simp [V.toks,V.tokss,toks_enc,zN])) ?_)))
 refine gz [(1,eL x2),(2,bG 2 x1),(4,.ref (.bx 4) 0 [] (.agg [.sl .nl (shp LI) 0 [],nP])),(5,.ref (.bx 5) 0 [] (.agg [zh (.at 9 []) (.of ([]:List LI)),zh (.at 10 []) (.of ([]:TP))]))] ⟨zb h1 uE,zb h2 (zj rfl rfl uIE),zb h4 (zj rfl rfl (zK (zf rfl (zf rfl rfl)))),zb rfl rfl⟩ ?_
 rintro s ⟨h1,h2,h4,h5⟩
 refine .nsq (.seq (.seq (rg (g0 (ji 0) fun h6=>gq (.nsq (.block (.loop ?_)))))))
 exact zj9 H x2 x1 F [] [] 0 _ ⟨h1,h2,h4,h5,h6⟩ h
end
def e35 (F:Nat):Ent:=ent 35 (fun (x:(GR×LI×Unit))=>W1 F x.1 x.2.1) (fun (r:((List LI)×TP))=>(enc (r:((List LI)×TP)))) 0 true []
abbrev C35 (D:List V→Option V) (F:Nat):Prop:=∀ (x0:GR) (x1:LI) r,W1 F x0 x1=some r→D [enc x0,enc x1]=some (enc (r:((List LI)×TP)))
theorem p35 {F:Nat}:C35 (e35 F).den F:=fun x0 x1 _ h=>zZ (x0,x1,()) h
theorem o35 (hF:zH Tp D σ) (H:H35 D σ F):(e35 F).Ok Tp:=okZ (f:=35) Try.func35 fun ⟨x0,x1,_⟩ y hy=>cR hF Try.func35 c35 (t35 H x0 x1 _ ⟨rfl,rfl⟩ hy)
def zmE:AC:=(.cond (.t 14) (.seq (rr [jv 15 (.bld (.agg [.sl .nl .p 0 [],.sl .nl (.ag [.s,.s]) 0 []]) []),jz (.store (.ag [.p,.p]) (.t 4) (.t 15)),jv 5 (.mov kf)]) .ret) .skip)
def zmI:AC:=(.seq (rr [jv 16 (.load (.ag [.s,.p]) (.t 2)),jm 17 1,jx 18 (.call (jf 35) [.t 16,.t 17]),jz (.store (.ag [.p,.p]) (.t 4) (.t 18)),jv 5 (.mov kt)]) .ret)
def zqW:AC:=(.seq (.seq (rr [jv 6 (.load (.ag [.s,.p]) (.t 2)),jm 7 1,jx 8 (.call (jf 34) [.t 6,.t 7]),jv 9 (.un .not (.t 8)),jm 10 9,jg 11 10 false (.fld (.t 2) 0 0),jg 12 10 false (.load .s (.t 11)),jg 13 10 false (.bin .eql (.t 12) (jn 0)),jv 14 (.pick (.t 10) kt (.t 13))]) zmE) zmI)
def A13:AC:=(.seq (.reg [.clr [2,4]] [jx 2 (.box (.t 0)),jx 4 (.alloc (.agg [.sl .nl .p 0 [],.sl .nl (.ag [.s,.s]) 0 []])),jv 5 (.mov kf)] []) zqW)
def zxv:List An:=[⟨0,[.clr [2,4]],[],[],[]⟩]
theorem c13:cq Tp Try.f13 zxv=some A13:=by kernel_rfl
structure H13 (D:Den) (σ:Sig) (F:Nat):Prop where
 c34:C34 (D 34) F
 g34:σ 34=some (0,false)
 c35:C35 (D 35) F
 g35:σ 35=some (0,true)
abbrev R13 (r:(((List LI)×TP)×Bool)):(Nat→V)→Prop:=RR Tp [.cell 4 29,.tmp 5] 0 true (.tup [enc (r.1:((List LI)×TP)),enc (r.2:Bool)])
section
variable {r:(((List LI)×TP)×Bool)}
def vz (F:Nat) (x2:LI) (x1:GR)  (x4:Bool):Option (((List LI)×TP)×Bool):=
 bif x4 then
  some (([],[]),false)
 else
  (W1 F x1 x2).bind fun r5=>
  some (r5,true)
theorem zdg (H:H13 D σ F) (x2:LI) (x1:GR)  (x4:Bool) (s:Nat→V) (hs:zB [(1,eL x2),(2,bG 2 x1),(4,.ref (.bx 4) 0 [] (.agg [.sl .nl (shp LI) 0 [],nP])),(5,jb false),(14,jb x4)] s) (h:vz F x2 x1  x4=some r):Run D σ (R13 r) (.nrm [.sq zmE,.sq zmI]) s:=by
 unfold vz at h
 obtain ⟨h1,h2,h4,h5,h14⟩:=hs
 refine .nsq (zu h14 h (fun h=>?_) (fun h=>?_))
 · refine .seq (rg (g0 (.agg [.sl .nl (shp LI) 0 [],nP]) fun h15=>zQ (.agg [.sl .nl (shp LI) 0 [],nP]) (zx h4 rfl) (zx h15 rfl) (xr (by first | rfl | simp [V.toks,V.tokss,toks_enc,zN])) (g0 (jb false) fun h5=>gz [(1,eL x2),(2,bG 2 x1),(4,.ref (.bx 4) 0 [] (.agg [.sl .nl (shp LI) 0 [],nP])),(5,_)] ⟨zb h1 uE,zb h2 (zj rfl rfl uIE),zb h4 rfl,h5⟩ ?_)))
   rintro s ⟨h1,h2,h4,h5⟩
   refine .nsq (.ret ?_)
   obtain rfl:=oi h
   exact rrB (yL h4 (by kernel_rfl)) (zA h5) (ww (uH (zW (uB (zW (xk (o:=(.nil:NL LI)) (t:=.nl)) (zW (xk (o:=(.nil:NL (Int×Int))) (t:=.nl)) xg))) (zW (w5 (x:=(false:Bool))) xg))))
 refine .skip (.nsq (.seq (rg (g1 2 (gV x1) h2 fun h16=>gm h1 fun h17=>?_))))
 obtain ⟨r5,Er5,h⟩:=zd h
 refine XG (m:=0) (al:=true) (r:=enc (r5:((List LI)×TP))) [enc (x1:GR),eL x2] (zl h16 rfl (erase_enc (x1:GR)) (zl h17 rfl (erase_enc (x2:LI)) zJ)) (H.c35 _ _ _ Er5) H.g35 (Xt (wC (v:=gV x1) h16 rfl rfl (wC (v:=eL x2) h17 rfl rfl Xi))) rfl rfl rfl (zQ (.agg [enc (r5.1:List LI),eP r5.2]) (zx h4 rfl) (zx rfl rfl) (xr (by first | rfl | simp [V.toks,V.tokss,toks_enc,zN])) (g0 (jb true) fun h5=>gz [(4,.ref (.bx 4) 0 [] (.agg [enc (r5.1:List LI),eP r5.2])),(5,_)] ⟨zb h4 rfl,h5⟩ ?_))
 rintro s ⟨h4,h5⟩
 refine .nsq (.ret ?_)
 obtain rfl:=oi h
 exact rrB (yL h4 (by kernel_rfl)) (zA h5) (ww (uH (zW (w5 (x:=(r5:((List LI)×TP)))) (zW (w5 (x:=(true:Bool))) xg))))
def wD (F:Nat) (x1:GR) (x2:LI):Option (((List LI)×TP)×Bool):=
 (Xa F x1 x2).bind fun r6=>
 bif (!r6) then
  vz F x2 x1 true
 else
  vz F x2 x1 (x1.1 == 0)
theorem t13 (H:H13 D σ F) (x1:GR) (x2:LI) (s:Nat→V) (hs:zB [(0,gV x1),(1,eL x2)] s) (h:wD F x1 x2=some r):Run D σ (R13 r) (.run A13 []) s:=by
 unfold wD at h
 obtain ⟨h0,h1⟩:=hs
 refine .seq (zC (yc ?_))
 refine ez [(0,_),(1,_),(2,_),(4,_)] ⟨za h0 rfl mIE,za h1 rfl me,zg rfl,zg rfl⟩ ?_
 rintro s ⟨h0,h1,h2,h4⟩
 refine xU (gV x1) (zx h0 rfl) h2 rfl (y6 h4 (g0 (jb false) fun h5=>gq (.nsq (.seq (.seq (rg (g1 2 (gV x1) (rf (bG 2 x1)) fun h6=>gm h1 fun h7=>?_)))))))
 obtain ⟨r6,Er6,h⟩:=zd h
 refine gcF [enc (x1:GR),eL x2] (zl h6 rfl (erase_enc (x1:GR)) (zl h7 rfl (erase_enc (x2:LI)) zJ)) (H.c34 _ _ _ Er6) H.g34 (g1 8 (jb (!r6)) (rf (jb r6)) fun h9=>gm h9 fun h10=>yd h (fun hg5 h=>?_) (fun hg5 h=>?_))
 · iterate 3 refine yq (ct h10 hg5) ?_
   refine g2 10 13 (jb true) (ct h10 hg5) (rf (.tup [])) fun h14=>gq ?_
   exact zdg H x2 x1 true _ ⟨h1,rfl,rfl,h5,h14⟩ h
 refine zt (ct h10 hg5) (g1 2 (.ref (.bx 2) 0 [0] (ji x1.1)) (rf (bG 2 x1)) fun h11=>zt (ct h10 hg5) (g1 11 (ji x1.1) h11 fun h12=>zt (ct h10 hg5) (g1 12 (jb (x1.1 == 0)) h12 fun h13=>g2 10 13 (jb (x1.1 == 0)) (ct h10 hg5) h13 fun h14=>gq ?_)))
 exact zdg H x2 x1 (x1.1 == 0) _ ⟨h1,rfl,rfl,h5,h14⟩ h
end
def e13 (F:Nat):Ent:=ent 13 (fun (x:(GR×LI×Unit))=>wD F x.1 x.2.1) (fun (r:(((List LI)×TP)×Bool))=>(.tup [enc (r.1:((List LI)×TP)),enc (r.2:Bool)])) 0 true []
abbrev C13 (D:List V→Option V) (F:Nat):Prop:=∀ (x0:GR) (x1:LI) r,wD F x0 x1=some r→D [enc x0,enc x1]=some (.tup [enc (r.1:((List LI)×TP)),enc (r.2:Bool)])
theorem p13 {F:Nat}:C13 (e13 F).den F:=fun x0 x1 _ h=>zZ (x0,x1,()) h
theorem o13 (hF:zH Tp D σ) (H:H13 D σ F):(e13 F).Ok Tp:=okZ (f:=13) Try.func13 fun ⟨x0,x1,_⟩ y hy=>cR hF Try.func13 c13 (t13 H x0 x1 _ ⟨rfl,rfl⟩ hy)
def zpq:AC:=(.cond (.t 10) .skip (.exit 0))
def zmU:AC:=(.cond (.t 17) (.reg [.clr [20,21]] [jm 18 5,jm 19 6,jx 20 (.lit i0 1 [(0,0,.t 19)]),jx 21 (.app .s (.t 18) (.t 20)),jm 5 21] [.home 21 5]) .skip)
def zjQ:AC:=(rr [jm 11 6,jv 12 (.bin .add (.t 11) (jn 1)),jm 6 12])
def zpk:AC:=(.seq (.block 1 (.seq (rr [jm 13 1,jm 14 6,jv 15 (.bin .shr (.t 13) (.t 14)),jv 16 (.bin .and (.t 15) (jn 1)),jv 17 (.bin .eql (.t 16) (jn 1))]) zmU)) zjQ)
def Mf:AC:=(.seq (.seq (rr [jm 8 6,jm 9 0,jv 10 (.bin .lss (.t 8) (.t 9))]) zpq) zpk)
def zaR:AC:=(.seq (.reg [] [jm 22 5,jm 4 22] [.home 5 4]) .ret)
def zpu:AC:=(.block 0 (.loop Mf))
def zpa:AC:=(.seq (.seq (rr [jv 6 (.mov (jn 0))]) zpu) zaR)
def zm8:AC:=(.seq (.reg [.clr [7]] [jx 7 (.lit i0 0 []),jm 5 7] [.home 7 5]) zpa)
def zuN:AC:=(.seq (rr [jv 4 (.mov (.k (.sl .nl .s 0 [])))]) zm8)
def zpB:List An:=[⟨1,[.clr [7]],[],[],[.home 7 5]⟩,⟨6,[.clr [20,21]],[],[],[.home 21 5]⟩,⟨7,[],[],[],[.home 5 4]⟩]
theorem c44o:cq Tp Try.f44 zpB=some zuN:=by kernel_rfl
structure zlI (D:Den) (σ:Sig) (F:Nat):Prop where
 mk ::
abbrev zlG (r:(NL Int)):(Nat→V)→Prop:=RR Tp [.tmp 4] 1 false (zh .sh (r:NL Int))
section
variable {r:(NL Int)}
def Yz (F:Nat) (x1:Int) (x2:Int) (x8:Int) (c1:LI→Int→Option (NL Int)) (x15:LI):Option (NL Int):=
 c1 x15 (w64 (x8 + 1))
theorem QV (H:zlI D σ F) (x1:Int) (x2:Int) (x8:Int) (c1:LI→Int→Option (NL Int)) (Hc1:∀ (x7:LI) (x8:Int) (s:Nat→V),zB [(0,ji x1),(1,ji x2),(4,nI),(5,oI 5 [] (.of x7)),(6,ji x8)] s→c1 x7 x8=some r→Run D σ (zlG r) (.run Mf [.lp Mf,.bk 0,.sq zaR]) s) (x15:LI) (s:Nat→V) (hs:zB [(0,ji x1),(1,ji x2),(4,nI),(5,oI 5 [] (.of x15)),(6,ji x8)] s) (h:Yz F x1 x2 x8 c1 x15=some r):Run D σ (zlG r) (.nrm [.bk 1,.sq zjQ,.lp Mf,.bk 0,.sq zaR]) s:=by
 unfold Yz at h
 obtain ⟨h0,h1,h4,h5,h6⟩:=hs
 refine .nbk (.nsq (rg (gm h6 fun h11=>g1 11 (ji (w64 (x8 + 1))) h11 fun h12=>gm h12 fun h6=>gq (.nlp ?_))))
 exact Hc1 x15 (w64 (x8 + 1)) _ ⟨h0,h1,h4,h5,h6⟩ h
def wY (F:Nat) (x1:Int) (x2:Int) :Nat→LI→Int→Option (NL Int)
 | 0,_,_=>none
 | k + 1,x7,x8=>
   bif decide (x8 < x1) then
    (Um .i64 x2 x8).bind fun q13=>
    bif ((yI .i64 q13 1) == 1) then
     (vh x7 [x8]).bind fun ap16=>
     Yz F x1 x2 x8 (wY F x1 x2 k) ap16
    else
     Yz F x1 x2 x8 (wY F x1 x2 k) x7
   else
    some (.of x7)
theorem zgZ (H:zlI D σ F) (x1:Int) (x2:Int) :∀ (k:Nat) (x7:LI) (x8:Int) (s:Nat→V),zB [(0,ji x1),(1,ji x2),(4,nI),(5,oI 5 [] (.of x7)),(6,ji x8)] s→wY F x1 x2 k x7 x8=some r→Run D σ (zlG r) (.run Mf [.lp Mf,.bk 0,.sq zaR]) s:=by
 intro k
 induction k with
 | zero=>intro x7 x8 s _ h;exact nm h
 | succ k ih=>
   intro x7 x8 s hs h
   rw [wY] at h
   obtain ⟨h0,h1,h4,h5,h6⟩:=hs
   refine .seq (.seq (rg (gm h6 fun h8=>gm h0 fun h9=>g2 8 9 (jb (decide (x8 < x1))) h8 h9 fun h10=>gq (.nsq (zu h10 h (fun h=>?_) (fun h=>?_))))))
   · refine .skip (.nsq (.seq (.block (.seq (rg (gm h1 fun h13=>gm h6 fun h14=>?_))))))
     obtain ⟨q13,Eq13,h⟩:=zd h
     refine gv (ji q13) (Wi h13 h14 Eq13) fun h15=>g1 15 (ji (yI .i64 q13 1)) h15 fun h16=>g1 16 (jb ((yI .i64 q13 1) == 1)) h16 fun h17=>gq (.nsq (zu h17 h (fun h=>?_) (fun h=>?_)))
     · refine zC (yc ?_)
       refine ez [(0,_),(1,_),(4,_),(5,_),(6,_),(20,_),(21,_)] ⟨za h0 rfl mi,za h1 rfl mi,za h4 rfl rfl,za h5 rfl (zm (r:=5) (p:=[]) rfl rfl),za h6 rfl mi,zg rfl,zg rfl⟩ ?_
       rintro s ⟨h0,h1,h4,h5,h6,h20,h21⟩
       refine gm h5 fun h18=>gm h6 fun h19=>xv [(19,ji x8)] [enc (x8:Int)] h19 rfl rfl h20 ?_
       obtain ⟨ap16,Eap16,h⟩:=zd h
       refine ZG (q:=5) (p:=[]) (o:=.of (x7:LI)) (ys:=([x8]:LI)) (t2:=.at 20 []) (lo2:=0) h18 rfl rfl h21 (vK (o:=.of (x7:LI)) Eap16 trivial) (fun s19 ha19=>gm (rf (oI 21 [] (.of ap16))) fun h5=>xf (yR (r:=21) (x:=5) (v:=_) h5 rfl (fun s20 hz20=>?_)))
       refine ez [(0,ji x1),(1,ji x2),(4,nI),(5,oI 5 [] (.of ap16)),(6,ji x8)] ⟨hz20 0 _ _ (show s19 0=(ji x1) from zF ha19 h0 mi) mi,hz20 1 _ _ (show s19 1=(ji x2) from zF ha19 h1 mi) mi,hz20 4 _ nI (show s19 4=nI from zF ha19 h4 rfl) rfl,hz20 5 _ _ h5 (zm (r:=21) (p:=[]) rfl rfl),hz20 6 _ _ (show s19 6=(ji x8) from zF ha19 h6 mi) mi⟩ ?_
       rintro s ⟨h0,h1,h4,h5,h6⟩
       exact QV H x1 x2 x8 (wY F x1 x2 k) ih ap16 _ ⟨h0,h1,h4,h5,h6⟩ h
     refine .skip ?_
     exact QV H x1 x2 x8 (wY F x1 x2 k) ih x7 _ ⟨h0,h1,h4,h5,h6⟩ h
   refine .exit (.esq (.elp (.ebk (.nsq (.seq (rg (gm h5 fun h22=>gm h22 fun h4=>xf (yR (r:=5) (x:=4) (v:=_) h4 rfl (fun s21 hz21=>?_)))))))))
   refine ez [(4,oI 4 [] (.of x7))] (hz21 4 _ _ h4 (zm (r:=5) (p:=[]) rfl rfl)) ?_
   rintro s h4
   refine .nsq (.ret ?_)
   obtain rfl:=oi h
   exact rrA (zA h4) (Xy (YH (o:=((.of x7):NL Int))) rfl (vR rfl))
def Z6 (F:Nat) (x1:Int) (x2:Int):Option (NL Int):=
 wY F x1 x2 F [] 0
theorem zwa (H:zlI D σ F) (x1:Int) (x2:Int) (s:Nat→V) (hs:zB [(0,ji x1),(1,ji x2)] s) (h:Z6 F x1 x2=some r):Run D σ (zlG r) (.run zuN []) s:=by
 unfold Z6 at h
 obtain ⟨h0,h1⟩:=hs
 refine .seq (rg (g0 nI fun h4=>gq (.nsq (.seq (zC (yc ?_))))))
 refine ez [(0,_),(1,_),(4,_),(7,_)] ⟨za h0 rfl mi,za h1 rfl mi,za h4 rfl rfl,zg rfl⟩ ?_
 rintro s ⟨h0,h1,h4,h7⟩
 refine xv [] [] trivial rfl rfl h7 (gm (rf (oI 7 [] (.of []))) fun h5=>xf (yR (r:=7) (x:=5) (v:=_) h5 rfl (fun s2 hz2=>?_)))
 refine ez [(0,ji x1),(1,ji x2),(4,nI),(5,oI 5 [] (.of []))] ⟨hz2 0 _ _ h0 mi,hz2 1 _ _ h1 mi,hz2 4 _ _ h4 rfl,hz2 5 _ _ h5 (zm (r:=7) (p:=[]) rfl rfl)⟩ ?_
 rintro s ⟨h0,h1,h4,h5⟩
 refine .nsq (.seq (.seq (rg (g0 (ji 0) fun h6=>gq (.nsq (.block (.loop ?_)))))))
 exact zgZ H x1 x2 F [] 0 _ ⟨h0,h1,h4,h5,h6⟩ h
end
def zpt (F:Nat):Ent:=ent 1000000044 (fun (x:(Int×Int×Unit))=>Z6 F x.1 x.2.1) (fun (r:(NL Int))=>(zh .sh (r:NL Int))) 1 false []
abbrev zs2 (D:List V→Option V) (F:Nat):Prop:=∀ (x0:Int) (x1:Int) r,Z6 F x0 x1=some r→D [enc x0,enc x1]=some (zh .sh (r:NL Int))
theorem zwr {F:Nat}:zs2 (zpt F).den F:=fun x0 x1 _ h=>zZ (x0,x1,()) h
theorem zxq (hF:zH Tp D σ) (H:zlI D σ F):(zpt F).Ok Tp:=okZ (f:=44) Try.func44 fun ⟨x0,x1,_⟩ y hy=>cR hF Try.func44 c44o (zwa H x0 x1 _ ⟨rfl,rfl⟩ hy)
def zt0:AC:=(.cond (.t 14) (.reg [.clr [17,19,20]] [jm 15 5,jm 16 0,jx 17 (.litS i0 3 [(0,0,jn (-1)),(1,1,jn 0),(2,2,jn 8)]),jx 18 (.callT (jf 42) [.t 16,.t 17] [0] []),jx 19 (.lit i0 1 [(0,0,.t 18)]),jx 20 (.app .s (.t 15) (.t 19)),jm 5 20] [.home 20 5]) .skip)
def ztz:AC:=(.seq (.reg [] [jm 21 5,jm 4 21] [.home 5 4,.frz 4]) .ret)
def zqt:AC:=(.seq (.seq (rr [jm 13 0,jx 14 (.callT (jf 41) [.t 13,jn 20] [0] [])]) zt0) ztz)
def zuI:AC:=(.seq (.reg [.clr [12]] [jv 6 (.fld (.t 3) 0 0),jl 7 6,jx 8 (.call (jf 40) [.t 7,jn 8]),jx 9 (.call (jf 26) [.t 8,jn 0]),jm 10 0,jx 11 (.callT (jf 20) [.t 10,jn 256] [0] []),jx 12 (.callO (jf 44) [.t 9,.t 11]),jm 5 12] [.home 12 5]) zqt)
def A21:AC:=(.seq (.reg [.clr [3]] [jx 3 (.box (.t 1)),jv 4 (.mov (.k (.sl .nl .s 0 [])))] []) zuI)
def zxm:List An:=[⟨0,[.clr [3]],[],[],[]⟩,⟨1,[.clr [12]],[],[6000000,1006],[.home 12 5]⟩,⟨2,[],[],[2000000],[]⟩,⟨3,[.clr [17,19,20]],[],[4000000,6002],[.home 20 5]⟩,⟨4,[],[],[],[.home 5 4,.frz 4]⟩]
theorem c21:cq Tp Try.f21 zxm=some A21:=by kernel_rfl
structure H21 (D:Den) (σ:Sig) (F:Nat):Prop where
 c40:C40 (D 40) F
 g40:σ 40=some (0,false)
 c26:C26 (D 26) F
 g26:σ 26=some (0,false)
 c20:C20 (D 20) F
 g20:σ 20=some (Zc,false)
 c44o:zs2 (D 1000000044) F
 g44o:σ 1000000044=some (1,false)
 c41:C41 (D 41) F
 g41:σ 41=some (Zc,false)
 c42:C42 (D 42) F
 g42:σ 42=some (Zc,false)
abbrev R21 (r:(LI×CU)):(Nat→V)→Prop:=RT Tp [.tmp 4] (eL r.1) [cuV zP r.2]
section
variable {r:(LI×CU)}
def vq (F:Nat) (x1:CC) (x2:GR):Option (LI×CU):=
 (ZM F x2.1 8).bind fun r3=>
 (YG F r3 0).bind fun r4=>
 (yj F (Cu.mk x1.v) 256).bind fun r5=>
 (Z6 F r4 r5.1).bind fun r6=>
 (zdX r6).bind fun li7=>
 (wF F (Cu.mk r5.2) 20).bind fun r8=>
 bif r8.1 then
  (xx F (Cu.mk r8.2) [(-1),0,8]).bind fun r9=>
  (vh li7 [r9.1]).bind fun ap10=>
  some (ap10,r9.2)
 else
  some (li7,r8.2)
theorem t21 (H:H21 D σ F) (x1:CC) (x2:GR) (s:Nat→V) (hs:zB [(0,bC x1.v),(1,gV x2)] s) (h:vq F x1 x2=some r):Run D σ (R21 r) (.run A21 []) s:=by
 unfold vq at h
 obtain ⟨h0,h1⟩:=hs
 refine .seq (zC (yc ?_))
 refine ez [(0,_),(1,_),(3,_)] ⟨za h0 rfl (zi rfl ue),za h1 rfl mIE,zg rfl⟩ ?_
 rintro s ⟨h0,h1,h3⟩
 refine xU (gV x2) (zx h1 rfl) h3 rfl (g0 nI fun h4=>gq (.nsq (.seq (zC (yc ?_)))))
 refine ez [(0,_),(3,_),(4,_),(12,_)] ⟨za h0 rfl (zi rfl ue),za rfl rfl (zi rfl mIE),za h4 rfl rfl,zg rfl⟩ ?_
 rintro s ⟨h0,h3,h4,h12⟩
 refine g1 3 (.ref (.bx 3) 0 [0] (ji x2.1)) h3 fun h6=>g1 6 (ji x2.1) h6 fun h7=>?_
 obtain ⟨r3,Er3,h⟩:=zd h
 refine gcF [enc (x2.1:Int),enc (8:Int)] (zl h7 rfl rfl (zl (v:=ji 8) rfl rfl rfl zJ)) (H.c40 _ _ _ Er3) H.g40 ?_
 obtain ⟨r4,Er4,h⟩:=zd h
 refine gcF [enc (r3:Int),enc (0:Int)] (zl (v:=ji r3) rfl rfl rfl (zl (v:=ji 0) rfl rfl rfl zJ)) (H.c26 _ _ _ Er4) H.g26 (gm h0 fun h10=>?_)
 obtain ⟨r5,Er5,h⟩:=zd h
 refine vJ (r:=zP) (b:=0) (x:=x1.v) (x':=r5.2) (vs:=[enc (256:Int)]) (res:=enc (r5.1:Int)) h0 (by exact (zL (v:=cuV zP x1.v) h10 rfl (zL (v:=enc (256:Int)) rfl rfl yQ))) (yh te yz) fm1 (H.c20 _ _ _ Er5) H.g20 te rfl (fun s3 hb3 ha3=>?_)
 obtain ⟨r6,Er6,h⟩:=zd h
 refine YO (m:=1) (al:=false) (r:=zh .sh (r6:NL Int)) (v:=oI 12 [] r6) (kk:=1000000044) [enc (r4:Int),enc (r5.1:Int)] (zl (v:=ji r4) (show s3 9=(ji r4) from ha3 9 (ji r4) _ rfl rfl mi) rfl rfl (zl (v:=ji r5.1) rfl rfl rfl zJ)) (H.c44o _ _ _ Er6) H.g44o rfl vH uK YP (show s3 12 = .gone from ha3 12 _ _ h12 rfl rfl) ?_
 obtain ⟨li7,Eli7,h⟩:=zd h
 refine gm (Q2 Eli7 rfl) fun h5=>xf (yR (r:=12) (x:=5) (v:=_) h5 rfl (fun s4 hz4=>?_))
 refine ez [(0,bC r5.2),(4,nI),(5,oI 5 [] (.of li7))] ⟨hz4 0 _ _ (show s3 0=(bC r5.2) from hb3 0 h0) (zi rfl ue),hz4 4 _ nI (show s3 4=nI from ha3 4 _ _ h4 rfl rfl) rfl,hz4 5 _ _ h5 (zm (r:=12) (p:=[]) rfl rfl)⟩ ?_
 rintro s ⟨h0,h4,h5⟩
 refine .nsq (.seq (.seq (rg (gm h0 fun h13=>?_))))
 obtain ⟨r8,Er8,h⟩:=zd h
 refine vJ (r:=zP) (b:=0) (x:=r5.2) (x':=r8.2) (vs:=[enc (20:Int)]) (res:=enc (r8.1:Bool)) h0 (by exact (zL (v:=cuV zP r5.2) h13 rfl (zL (v:=enc (20:Int)) rfl rfl yQ))) (yh te yz) fm1 (H.c41 _ _ _ Er8) H.g41 te rfl (fun s5 hb5 ha5=>gz [(0,_),(4,nI),(5,oI 5 [] (.of li7)),(14,jb r8.1)] ⟨(show s5 0=(bC r8.2) from hb5 0 h0),(show s5 4=nI from ha5 4 _ _ h4 rfl rfl),(show s5 5=(oI 5 [] (.of li7)) from ha5 5 _ _ h5 rfl (zm (r:=5) (p:=[]) rfl rfl)),rfl⟩ ?_)
 rintro s ⟨h0,h4,h5,h14⟩
 refine .nsq (zu h14 h (fun h=>?_) (fun h=>?_))
 · refine zC (yc ?_)
   refine ez [(0,_),(4,_),(5,_),(17,_),(19,_),(20,_)] ⟨za h0 rfl (zi rfl ue),za h4 rfl rfl,za h5 rfl (zm (r:=5) (p:=[]) rfl rfl),zg rfl,zg rfl,zg rfl⟩ ?_
   rintro s ⟨h0,h4,h5,h17,h19,h20⟩
   refine gm h5 fun h15=>gm h0 fun h16=>KO [] ([(-1),0,8]:LI) trivial rfl rfl rfl h17 (fun s7 hd_7 hl_7=>?_)
   obtain ⟨r9,Er9,h⟩:=zd h
   refine vJ (r:=zP) (b:=0) (x:=r8.2) (x':=r9.2) (vs:=[enc ([(-1),0,8]:LI)]) (res:=enc (r9.1:Int)) (show s7 0=(bC r8.2) from (hl_7 0 (by decide)).trans h0) (by exact (zL (v:=cuV zP r8.2) (show s7 16=(bC r8.2) from (hl_7 16 (by decide)).trans h16) rfl (zL (v:=enc ([(-1),0,8]:LI)) (show s7 17=(eL [(-1),0,8]) from hd_7) rfl yQ))) (yh te yz) fm1 (H.c42 _ _ _ Er9) H.g42 te rfl (fun s8 hb8 ha8=>xv [(18,ji r9.1)] [enc (r9.1:Int)] rfl rfl rfl (show s8 19 = .gone from ha8 19 _ _ (show s7 19 = .gone from (hl_7 19 (by decide)).trans h19) rfl rfl) ?_)
   obtain ⟨ap10,Eap10,h⟩:=zd h
   refine ZG (q:=5) (p:=[]) (o:=.of (li7:LI)) (ys:=([r9.1]:LI)) (t2:=.at 19 []) (lo2:=0) (show s8 15=(oI 5 [] (.of li7)) from ha8 15 _ _ (show s7 15=(oI 5 [] (.of li7)) from (hl_7 15 (by decide)).trans h15) rfl (zm (r:=5) (p:=[]) rfl rfl)) rfl rfl (show s8 20 = .gone from ha8 20 _ _ (show s7 20 = .gone from (hl_7 20 (by decide)).trans h20) rfl rfl) (vK (o:=.of (li7:LI)) Eap10 trivial) (fun s9 ha9=>gm (rf (oI 20 [] (.of ap10))) fun h5=>xf (yR (r:=20) (x:=5) (v:=_) h5 rfl (fun s10 hz10=>?_)))
   refine ez [(0,bC r9.2),(4,nI),(5,oI 5 [] (.of ap10))] ⟨hz10 0 _ _ (show s9 0=(bC r9.2) from zF ha9 (show s8 0=(bC r9.2) from hb8 0 (show s7 0=(bC r8.2) from (hl_7 0 (by decide)).trans h0)) (zi rfl ue)) (zi rfl ue),hz10 4 _ nI (show s9 4=nI from zF ha9 (show s8 4=nI from ha8 4 _ _ (show s7 4=nI from (hl_7 4 (by decide)).trans h4) rfl rfl) rfl) rfl,hz10 5 _ _ h5 (zm (r:=20) (p:=[]) rfl rfl)⟩ ?_
   rintro s ⟨h0,h4,h5⟩
   refine .nsq (.seq (rg (gm h5 fun h21=>gm h21 fun h4=>xf (yR (r:=5) (x:=4) (v:=_) h4 rfl (fun s11 hz11=>JQ (x:=4) (v:=oI 4 [] (.of ap10)) [.at 4 []] (by exact (hz11 4 _ _ h4 (zm (r:=5) (p:=[]) rfl rfl))) zM (fun s12 hz12=>?_))))))
   refine ez [(0,bC r9.2),(4,eL ap10)] ⟨hz12 0 (bC r9.2) (bC r9.2) (hz11 0 _ _ h0 (zi rfl ue)) (wO rfl zbq rfl),hz12 4 (oI 4 [] (.of ap10)) (eL ap10) (hz11 4 _ _ h4 (zm (r:=5) (p:=[]) rfl rfl)) Xo⟩ ?_
   rintro s ⟨h0,h4⟩
   refine .nsq (.ret ?_)
   obtain rfl:=oi h
   exact rt1 (t:=0) (zA h4) h0
 refine .skip (.nsq (.seq (rg (gm h5 fun h21=>gm h21 fun h4=>xf (yR (r:=5) (x:=4) (v:=_) h4 rfl (fun s13 hz13=>JQ (x:=4) (v:=oI 4 [] (.of li7)) [.at 4 []] (by exact (hz13 4 _ _ h4 (zm (r:=5) (p:=[]) rfl rfl))) zM (fun s14 hz14=>?_)))))))
 refine ez [(0,bC r8.2),(4,eL li7)] ⟨hz14 0 (bC r8.2) (bC r8.2) (hz13 0 _ _ h0 (zi rfl ue)) (wO rfl zbq rfl),hz14 4 (oI 4 [] (.of li7)) (eL li7) (hz13 4 _ _ h4 (zm (r:=5) (p:=[]) rfl rfl)) Xo⟩ ?_
 rintro s ⟨h0,h4⟩
 refine .nsq (.ret ?_)
 obtain rfl:=oi h
 exact rt1 (t:=0) (zA h4) h0
end
def e21 (F:Nat):Ent:=ent 21 (fun (x:(CC×GR×Unit))=>vq F x.1 x.2.1) (fun (r:(LI×CU))=>(.tup [eL r.1,.tup [cuV zP r.2]])) Zc false []
abbrev C21 (D:List V→Option V) (F:Nat):Prop:=∀ (x0:CC) (x1:GR) r,vq F x0 x1=some r→D [Arg.arg x0,enc x1]=some (.tup [eL r.1,.tup [cuV zP r.2]])
theorem p21 {F:Nat}:C21 (e21 F).den F:=fun x0 x1 _ h=>zZ (x0,x1,()) h
theorem o21 (hF:zH Tp D σ) (H:H21 D σ F):(e21 F).Ok Tp:=okZ (f:=21) Try.func21 fun ⟨x0,x1,_⟩ y hy=>cT hF Try.func21 c21 (t21 H x0 x1 _ ⟨rfl,rfl⟩ hy)
def zm9:AC:=(.cond (.t 15) .skip (.exit 0))
def zn8:AC:=(.cond (.t 43) .skip (.exit 2))
def zf1:AC:=(.cond (.t 56) (.seq (.reg [.clr [62,63]] [jv 57 (.fld (.t 5) 1 1),jv 58 (.load .p (.t 57)),jm 59 6,jm 60 8,jv 61 (.bld (.agg [i0,i0]) [(0,0,.t 59),(1,1,.t 60)]),jx 62 (.lit (.agg [i0,i0]) 1 [(0,0,.t 61)]),jx 63 (.app (.ag [.s,.s]) (.t 58) (.t 62)),jv 64 (.fld (.t 5) 1 1),jz (.store .p (.t 64) (.t 63))] [.drp 10,.home 63 10]) (.exit 2)) .skip)
def zgg:AC:=(rr [jm 44 8,jv 45 (.bin .add (.t 44) (jn 1)),jm 8 45])
def znD:AC:=(.seq (.block 3 (.seq (rr [jm 46 7,jm 47 1,jm 48 8,jv 49 (.idx (.t 47) (.t 48) 1),jl 50 49,jx 51 (.call (jf 65) [.t 46,.t 50]),jm 52 51,jg 53 52 false (.mov (.t 7)),jg 54 52 false (.len (.t 53)),jg 55 52 false (.bin .eql (.t 54) (jn 0)),jv 56 (.pick (.t 52) kt (.t 55))]) zf1)) zgg)
def Mc:AC:=(.seq (.seq (rr [jm 40 8,jm 41 1,jk 42 41,jv 43 (.bin .lss (.t 40) (.t 42))]) zn8) znD)
def znh:AC:=(.block 2 (.loop Mc))
def zn2:AC:=(.seq (rr [jm 38 6,jv 39 (.bin .add (.t 38) (jn 1)),jm 8 39]) znh)
def zpf:AC:=(.seq (.reg [.clr [35,36]] [jv 27 (.fld (.t 5) 0 0),jv 28 (.load .p (.t 27)),jm 29 7,jm 30 1,jm 31 6,jv 32 (.idx (.t 30) (.t 31) 1),jl 33 32,jx 34 (.call (jf 64) [.t 29,.t 33]),jx 35 (.lit (.sl .nl .s 0 []) 1 [(0,0,.t 34)]),jx 36 (.app .p (.t 28) (.t 35)),jv 37 (.fld (.t 5) 0 0),jz (.store .p (.t 37) (.t 36))] [.drp 9,.home 36 9]) zn2)
def MG:AC:=(rr [jm 16 6,jv 17 (.bin .add (.t 16) (jn 1)),jm 6 17])
def znx:AC:=(.seq (.block 1 (.seq (rr [jv 18 (.load (.ag [.s,.p]) (.t 2)),jm 19 1,jm 20 6,jv 21 (.slice (.t 19) none (some (.t 20)) 1),jm 22 1,jm 23 6,jv 24 (.idx (.t 22) (.t 23) 1),jl 25 24,jx 26 (.call (jf 63) [.t 18,.t 21,.t 25]),jm 7 26]) zpf)) MG)
def Ux:AC:=(.seq (.seq (rr [jm 12 6,jm 13 1,jk 14 13,jv 15 (.bin .lss (.t 12) (.t 14))]) zm9) znx)
def Jm:AC:=(.seq (rr [jv 65 (.load (.ag [.p,.p]) (.t 5)),jz (.store (.ag [.p,.p]) (.t 4) (.t 65))]) .ret)
def zkO:AC:=(.block 0 (.loop Ux))
def zlj:AC:=(.seq (.seq (rr [jv 6 (.mov (jn 0))]) zkO) Jm)
def zkx:AC:=(.seq (.reg [.clr [9,10,5]] [jx 9 (.lit (.sl .nl .s 0 []) 0 []),jx 10 (.lit (.agg [i0,i0]) 0 []),jv 11 (.bld (.agg [.sl .nl .p 0 [],.sl .nl (.ag [.s,.s]) 0 []]) [(0,0,.t 9),(1,1,.t 10)]),jx 5 (.alloc (.agg [.sl .nl .p 0 [],.sl .nl (.ag [.s,.s]) 0 []])),jz (.store (.ag [.p,.p]) (.t 5) (.t 11))] []) zlj)
def zqi:AC:=(.seq (.reg [.clr [2,4]] [jx 2 (.box (.t 0)),jx 4 (.alloc (.agg [.sl .nl .p 0 [],.sl .nl (.ag [.s,.s]) 0 []]))] []) zkx)
def zqP:List An:=[⟨0,[.clr [2,4]],[],[],[]⟩,⟨1,[.clr [9,10,5]],[],[],[]⟩,⟨6,[.clr [35,36]],[],[],[.drp 9,.home 36 9]⟩,⟨11,[.clr [62,63]],[],[],[.drp 10,.home 63 10]⟩]
theorem c35o:cq Tp Try.f35 zqP=some zqi:=by kernel_rfl
structure zhO (D:Den) (σ:Sig) (F:Nat):Prop where
 c63:C63 (D 63) F
 g63:σ 63=some (0,true)
 c64:C64 (D 64) F
 g64:σ 64=some (0,true)
 c65:C65 (D 65) F
 g65:σ 65=some (0,false)
abbrev zdL (r:((NL LI)×(NL (Int×Int)))):(Nat→V)→Prop:=RR Tp [.cell 4 29] 1 true (.agg [zh .sh (r.1:NL LI),zh .sh (r.2:NL (Int×Int))])
section
variable {r:((NL LI)×(NL (Int×Int)))}
def YL (F:Nat) (x2:LI) (x1:GR) (ap67:(List LI)) (x32:TP) (x33:Int) (r64:LI) (x75:Int) (c1:(List LI)→TP→Int→Option ((NL LI)×(NL (Int×Int)))) (c4:Int→Option ((NL LI)×(NL (Int×Int)))) (x85:Bool):Option ((NL LI)×(NL (Int×Int))):=
 bif x85 then
  (vh x32 [(x33,x75)]).bind fun ap87=>
  c1 ap67 ap87 (w64 (x33 + 1))
 else
  c4 (w64 (x75 + 1))
theorem QL (H:zhO D σ F) (x2:LI) (x1:GR) (ap67:(List LI)) (x32:TP) (x33:Int) (r64:LI) (x75:Int) (c1:(List LI)→TP→Int→Option ((NL LI)×(NL (Int×Int)))) (Hc1:∀ (x31:(List LI)) (x32:TP) (x33:Int) (s:Nat→V),zB [(1,eL x2),(2,bG 2 x1),(4,.ref (.bx 4) 0 [] (.agg [.sl .nl (shp LI) 0 [],nP])),(5,.ref (.bx 5) 0 [] (.agg [zh (.at 9 []) (.of (x31:List LI)),zh (.at 10 []) (.of (x32:TP))])),(6,ji x33)] s→c1 x31 x32 x33=some r→Run D σ (zdL r) (.run Ux [.lp Ux,.bk 0,.sq Jm]) s) (c4:Int→Option ((NL LI)×(NL (Int×Int)))) (Hc4:∀ (x75:Int) (s:Nat→V),zB [(1,eL x2),(2,bG 2 x1),(4,.ref (.bx 4) 0 [] (.agg [.sl .nl (shp LI) 0 [],nP])),(5,.ref (.bx 5) 0 [] (.agg [zh (.at 9 []) (.of (ap67:List LI)),zh (.at 10 []) (.of (x32:TP))])),(6,ji x33),(7,eL r64),(8,ji x75)] s→c4 x75=some r→Run D σ (zdL r) (.run Mc [.lp Mc,.bk 2,.bk 1,.sq MG,.lp Ux,.bk 0,.sq Jm]) s) (x85:Bool) (s:Nat→V) (hs:zB [(1,eL x2),(2,bG 2 x1),(4,.ref (.bx 4) 0 [] (.agg [.sl .nl (shp LI) 0 [],nP])),(5,.ref (.bx 5) 0 [] (.agg [zh (.at 9 []) (.of (ap67:List LI)),zh (.at 10 []) (.of (x32:TP))])),(6,ji x33),(7,eL r64),(8,ji x75),(56,jb x85)] s) (h:YL F x2 x1 ap67 x32 x33 r64 x75 c1 c4 x85=some r):Run D σ (zdL r) (.nrm [.sq zf1,.bk 3,.sq zgg,.lp Mc,.bk 2,.bk 1,.sq MG,.lp Ux,.bk 0,.sq Jm]) s:=by
 unfold YL at h
 obtain ⟨h1,h2,h4,h5,h6,h7,h8,h56⟩:=hs
 refine .nsq (zu h56 h (fun h=>?_) (fun h=>?_))
 · refine .seq (zC (yc ?_))
   refine ez [(1,_),(2,_),(4,_),(5,_),(6,_),(7,_),(8,_),(62,_),(63,_)] ⟨za h1 rfl me,za h2 rfl (zi rfl mIE),za h4 rfl (zi rfl (zr (zc rfl (zc rfl zk)))),za h5 rfl (zi rfl (zr (zc (zm (r:=9) (p:=[]) rfl rfl) (zc (zm (r:=10) (p:=[]) rfl rfl) zk)))),za h6 rfl mi,za h7 rfl me,za h8 rfl mi,zg rfl,zg rfl⟩ ?_
   rintro s ⟨h1,h2,h4,h5,h6,h7,h8,h62,h63⟩
   refine g1 5 (.ref (.bx 5) 0 [1] (zh (.at 10 []) (.of (x32:TP)))) h5 fun h57=>g1 57 (zh (.at 10 []) (.of (x32:TP))) h57 fun h58=>gm h6 fun h59=>gm h8 fun h60=>g2 59 60 (.agg [ji x33,ji x75]) h59 h60 fun h61=>xv [(61,.agg [ji x33,ji x75])] [enc ((x33,x75):(Int×Int))] h61 rfl rfl h62 ?_
   obtain ⟨ap87,Eap87,h⟩:=zd h
   refine ZG (q:=10) (p:=[]) (o:=.of (x32:TP)) (ys:=([(x33,x75)]:TP)) (t2:=.at 62 []) (lo2:=0) h58 rfl rfl h63 (vK (o:=.of (x32:TP)) Eap87 trivial) (fun s84 ha84=>g1 5 (.ref (.bx 5) 0 [1] (kdO ((.of x32):NL (Int×Int)))) (show s84 5=(.ref (.bx 5) 0 [] (.agg [zh (.at 9 []) (.of (ap67:List LI)),kdO ((.of x32):NL (Int×Int))])) from xG ha84 h5 (zi rfl (zr (zc (zm (r:=9) (p:=[]) rfl rfl) (zc wX zk)))) (by intro h;first | (cases h;done) | (subst h;rfl))) fun h64=>?_)
   refine zQ (zh (.at 63 []) (.of (ap87:TP))) (zx h64 rfl) (zx rfl rfl) ⟨by decide,by decide,rfl,rfl,YQ,ui rfl rfl⟩ (xf (uq (x:=10) (fun s85 hx_85 hd_85=>yR (r:=63) (x:=10) (v:=_) (by exact hx_85) rfl (fun s86 hz86=>?_))))
   refine ez [(1,eL x2),(2,bG 2 x1),(4,.ref (.bx 4) 0 [] (.agg [.sl .nl (shp LI) 0 [],nP])),(5,.ref (.bx 5) 0 [] (.agg [zh (.at 9 []) (.of (ap67:List LI)),zh (.at 10 []) (.of (ap87:TP))])),(6,ji x33),(7,eL r64),(8,ji x75)] ⟨hz86 1 _ _ (show s85 1=(eL x2) from (hd_85 1 (by decide)).trans (zb (show s84 1=(eL x2) from zF ha84 h1 me) uE)) me,hz86 2 _ _ (show s85 2=(bG 2 x1) from (hd_85 2 (by decide)).trans (zb (show s84 2=(bG 2 x1) from zF ha84 h2 (zi rfl mIE)) (zj rfl rfl uIE))) (zi rfl mIE),hz86 4 _ _ (show s85 4=(.ref (.bx 4) 0 [] (.agg [.sl .nl (shp LI) 0 [],nP])) from (hd_85 4 (by decide)).trans (zb (show s84 4=(.ref (.bx 4) 0 [] (.agg [.sl .nl (shp LI) 0 [],nP])) from zF ha84 h4 (zi rfl (zr (zc rfl (zc rfl zk))))) (zj rfl rfl (zK (zf rfl (zf rfl rfl)))))) (zi rfl (zr (zc rfl (zc rfl zk)))),hz86 5 _ (.ref (.bx 5) 0 [] (.agg [zh (.at 9 []) (.of (ap67:List LI)),zh (.at 10 []) (.of (ap87:TP))])) (show s85 5=(.ref (.bx 5) 0 [] (.agg [zh (.at 9 []) (.of (ap67:List LI)),zh (.at 63 []) (.of (ap87:TP))])) from (hd_85 5 (by decide)).trans (zb (show s84 5=(.ref (.bx 5) 0 [] (.agg [zh (.at 9 []) (.of (ap67:List LI)),kdO ((.of x32):NL (Int×Int))])) from xG ha84 h5 (zi rfl (zr (zc (zm (r:=9) (p:=[]) rfl rfl) (zc wX zk)))) (by intro h;first | (cases h;done) | (subst h;rfl))) (u6 (zf (yg rfl rfl) (zf YS rfl))))) (zi rfl (zr (zc (zm (r:=9) (p:=[]) rfl rfl) (zc (zm (r:=63) (p:=[]) rfl rfl) zk)))),hz86 6 _ _ (show s85 6=(ji x33) from (hd_85 6 (by decide)).trans (zb (show s84 6=(ji x33) from zF ha84 h6 mi) rfl)) mi,hz86 7 _ _ (show s85 7=(eL r64) from (hd_85 7 (by decide)).trans (zb (show s84 7=(eL r64) from zF ha84 h7 me) uE)) me,hz86 8 _ _ (show s85 8=(ji x75) from (hd_85 8 (by decide)).trans (zb (show s84 8=(ji x75) from zF ha84 h8 mi) rfl)) mi⟩ ?_
   rintro s ⟨h1,h2,h4,h5,h6,h7,h8⟩
   refine .nsq (.exit (.ebn (by decide) (.esq (.elp (.ebk (.nbk (.nsq (rg (gm h6 fun h16=>g1 16 (ji (w64 (x33 + 1))) h16 fun h17=>gm h17 fun h6=>gq (.nlp ?_))))))))))
   exact Hc1 ap67 ap87 (w64 (x33 + 1)) _ ⟨h1,h2,h4,h5,h6⟩ h
 refine .skip (.nbk (.nsq (rg (gm h8 fun h44=>g1 44 (ji (w64 (x75 + 1))) h44 fun h45=>gm h45 fun h8=>gq (.nlp ?_)))))
 exact Hc4 (w64 (x75 + 1)) _ ⟨h1,h2,h4,h5,h6,h7,h8⟩ h
def vr (F:Nat) (x2:LI) (x1:GR) (ap67:(List LI)) (x32:TP) (x33:Int) (r64:LI) (c1:(List LI)→TP→Int→Option ((NL LI)×(NL (Int×Int)))):Nat→Int→Option ((NL LI)×(NL (Int×Int)))
 | 0,_=>none
 | k + 1,x75=>
   bif decide (x75 < (x2.length:Int)) then
    (idx x2 x75).bind fun v88=>
    (vF F r64 v88).bind fun r89=>
    bif r89 then
     YL F x2 x1 ap67 x32 x33 r64 x75 c1 (vr F x2 x1 ap67 x32 x33 r64 c1 k) true
    else
     YL F x2 x1 ap67 x32 x33 r64 x75 c1 (vr F x2 x1 ap67 x32 x33 r64 c1 k) ((r64.length:Int) == 0)
   else
    c1 ap67 x32 (w64 (x33 + 1))
theorem zgV (H:zhO D σ F) (x2:LI) (x1:GR) (ap67:(List LI)) (x32:TP) (x33:Int) (r64:LI) (c1:(List LI)→TP→Int→Option ((NL LI)×(NL (Int×Int)))) (Hc1:∀ (x31:(List LI)) (x32:TP) (x33:Int) (s:Nat→V),zB [(1,eL x2),(2,bG 2 x1),(4,.ref (.bx 4) 0 [] (.agg [.sl .nl (shp LI) 0 [],nP])),(5,.ref (.bx 5) 0 [] (.agg [zh (.at 9 []) (.of (x31:List LI)),zh (.at 10 []) (.of (x32:TP))])),(6,ji x33)] s→c1 x31 x32 x33=some r→Run D σ (zdL r) (.run Ux [.lp Ux,.bk 0,.sq Jm]) s):∀ (k:Nat) (x75:Int) (s:Nat→V),zB [(1,eL x2),(2,bG 2 x1),(4,.ref (.bx 4) 0 [] (.agg [.sl .nl (shp LI) 0 [],nP])),(5,.ref (.bx 5) 0 [] (.agg [zh (.at 9 []) (.of (ap67:List LI)),zh (.at 10 []) (.of (x32:TP))])),(6,ji x33),(7,eL r64),(8,ji x75)] s→vr F x2 x1 ap67 x32 x33 r64 c1 k x75=some r→Run D σ (zdL r) (.run Mc [.lp Mc,.bk 2,.bk 1,.sq MG,.lp Ux,.bk 0,.sq Jm]) s:=by
 intro k
 induction k with
 | zero=>intro x75 s _ h;exact nm h
 | succ k ih=>
   intro x75 s hs h
   rw [vr] at h
   obtain ⟨h1,h2,h4,h5,h6,h7,h8⟩:=hs
   refine .seq (.seq (rg (gm h8 fun h40=>gm h1 fun h41=>gl x2 h41 fun h42=>g2 40 42 (jb (decide (x75 < (x2.length:Int)))) h40 h42 fun h43=>gq (.nsq (zu h43 h (fun h=>?_) (fun h=>?_))))))
   · refine .skip (.nsq (.seq (.block (.seq (rg (gm h7 fun h46=>gm h1 fun h47=>gm h8 fun h48=>?_))))))
     obtain ⟨v88,Ev88,h⟩:=zd h
     refine gv (.ref .sh 0 [] (ji v88)) (yG (t:=.sh) (lo:=0) (xs:=x2) h47 h48 Ev88 rfl rfl) fun h49=>g1 49 (ji v88) h49 fun h50=>?_
     obtain ⟨r89,Er89,h⟩:=zd h
     refine gcF [eL r64,enc (v88:Int)] (zl h46 rfl (erase_enc (r64:LI)) (zl h50 rfl rfl zJ)) (H.c65 _ _ _ Er89) H.g65 (gm (rf (jb r89)) fun h52=>yd h (fun hg7 h=>?_) (fun hg7 h=>?_))
     · iterate 3 refine yq (ct h52 hg7) ?_
       refine g2 52 55 (jb true) (ct h52 hg7) (rf (.tup [])) fun h56=>gq ?_
       exact QL H x2 x1 ap67 x32 x33 r64 x75 c1 Hc1 (vr F x2 x1 ap67 x32 x33 r64 c1 k) ih true _ ⟨h1,h2,h4,h5,h6,h7,h8,h56⟩ h
     refine zt (ct h52 hg7) (gm h7 fun h53=>zt (ct h52 hg7) (gl r64 h53 fun h54=>zt (ct h52 hg7) (g1 54 (jb ((r64.length:Int) == 0)) h54 fun h55=>g2 52 55 (jb ((r64.length:Int) == 0)) (ct h52 hg7) h55 fun h56=>gq ?_)))
     exact QL H x2 x1 ap67 x32 x33 r64 x75 c1 Hc1 (vr F x2 x1 ap67 x32 x33 r64 c1 k) ih ((r64.length:Int) == 0) _ ⟨h1,h2,h4,h5,h6,h7,h8,h56⟩ h
   refine .exit (.esq (.elp (.ebk (.nbk (.nsq (rg (gm h6 fun h16=>g1 16 (ji (w64 (x33 + 1))) h16 fun h17=>gm h17 fun h6=>gq (.nlp ?_))))))))
   exact Hc1 ap67 x32 (w64 (x33 + 1)) _ ⟨h1,h2,h4,h5,h6⟩ h
def vZ (F:Nat) (x2:LI) (x1:GR) :Nat→(List LI)→TP→Int→Option ((NL LI)×(NL (Int×Int)))
 | 0,_,_,_=>none
 | k + 1,x31,x32,x33=>
   bif decide (x33 < (x2.length:Int)) then
    (sub x2 0 x33).bind fun sub62=>
    (idx x2 x33).bind fun v63=>
    (uw F x1 sub62 v63).bind fun r64=>
    (idx x2 x33).bind fun v65=>
    (XZ F r64 v65).bind fun r66=>
    (vh x31 [r66]).bind fun ap67=>
    vr F x2 x1 ap67 x32 x33 r64 (vZ F x2 x1 k) F (w64 (x33 + 1))
   else
    some ((.of x31),.of x32)
theorem zgO (H:zhO D σ F) (x2:LI) (x1:GR) :∀ (k:Nat) (x31:(List LI)) (x32:TP) (x33:Int) (s:Nat→V),zB [(1,eL x2),(2,bG 2 x1),(4,.ref (.bx 4) 0 [] (.agg [.sl .nl (shp LI) 0 [],nP])),(5,.ref (.bx 5) 0 [] (.agg [zh (.at 9 []) (.of (x31:List LI)),zh (.at 10 []) (.of (x32:TP))])),(6,ji x33)] s→vZ F x2 x1 k x31 x32 x33=some r→Run D σ (zdL r) (.run Ux [.lp Ux,.bk 0,.sq Jm]) s:=by
 intro k
 induction k with
 | zero=>intro x31 x32 x33 s _ h;exact nm h
 | succ k ih=>
   intro x31 x32 x33 s hs h
   rw [vZ] at h
   obtain ⟨h1,h2,h4,h5,h6⟩:=hs
   refine .seq (.seq (rg (gm h6 fun h12=>gm h1 fun h13=>gl x2 h13 fun h14=>g2 12 14 (jb (decide (x33 < (x2.length:Int)))) h12 h14 fun h15=>gq (.nsq (zu h15 h (fun h=>?_) (fun h=>?_))))))
   · refine .skip (.nsq (.seq (.block (.seq (rg (g1 2 (gV x1) h2 fun h18=>gm h1 fun h19=>gm h6 fun h20=>?_))))))
     obtain ⟨sub62,Esub62,h⟩:=zd h
     refine gv (eL sub62) (X2 (xs:=x2) h19 (u9) (Ze h20) Esub62 rfl) fun h21=>gm h1 fun h22=>gm h6 fun h23=>?_
     obtain ⟨v63,Ev63,h⟩:=zd h
     refine gv (.ref .sh 0 [] (ji v63)) (yG (t:=.sh) (lo:=0) (xs:=x2) h22 h23 Ev63 rfl rfl) fun h24=>g1 24 (ji v63) h24 fun h25=>?_
     obtain ⟨r64,Er64,h⟩:=zd h
     refine XG (m:=0) (al:=true) (r:=eL r64) [enc (x1:GR),eL sub62,enc (v63:Int)] (zl h18 rfl (erase_enc (x1:GR)) (zl h21 rfl (erase_enc (sub62:LI)) (zl h25 rfl rfl zJ))) (H.c63 _ _ _ _ Er64) H.g63 (Xt (wC (v:=gV x1) h18 rfl rfl (wC (v:=eL sub62) h21 rfl rfl (wC (v:=ji v63) h25 rfl rfl Xi)))) rfl rfl rfl (gm (rf (eL r64)) fun h7=>gq (.nsq (.seq (zC (yc ?_)))))
     refine ez [(1,_),(2,_),(4,_),(5,_),(6,_),(7,_),(35,_),(36,_)] ⟨za h1 rfl me,za h2 rfl (zi rfl mIE),za h4 rfl (zi rfl (zr (zc rfl (zc rfl zk)))),za h5 rfl (zi rfl (zr (zc (zm (r:=9) (p:=[]) rfl rfl) (zc (zm (r:=10) (p:=[]) rfl rfl) zk)))),za h6 rfl mi,za h7 rfl me,zg rfl,zg rfl⟩ ?_
     rintro s ⟨h1,h2,h4,h5,h6,h7,h35,h36⟩
     refine g1 5 (.ref (.bx 5) 0 [0] (zh (.at 9 []) (.of (x31:List LI)))) h5 fun h27=>g1 27 (zh (.at 9 []) (.of (x31:List LI))) h27 fun h28=>gm h7 fun h29=>gm h1 fun h30=>gm h6 fun h31=>?_
     obtain ⟨v65,Ev65,h⟩:=zd h
     refine gv (.ref .sh 0 [] (ji v65)) (yG (t:=.sh) (lo:=0) (xs:=x2) h30 h31 Ev65 rfl rfl) fun h32=>g1 32 (ji v65) h32 fun h33=>?_
     obtain ⟨r66,Er66,h⟩:=zd h
     refine XG (m:=0) (al:=true) (r:=eL r66) [eL r64,enc (v65:Int)] (zl h29 rfl (erase_enc (r64:LI)) (zl h33 rfl rfl zJ)) (H.c64 _ _ _ Er66) H.g64 (Xt (wC (v:=eL r64) h29 rfl rfl (wC (v:=ji v65) h33 rfl rfl Xi))) rfl rfl rfl (xv [(34,eL r66)] [eL r66] rfl rfl rfl h35 ?_)
     obtain ⟨ap67,Eap67,h⟩:=zd h
     refine ZG (q:=9) (p:=[]) (o:=.of (x31:List LI)) (ys:=([r66]:List LI)) (t2:=.at 35 []) (lo2:=0) h28 rfl rfl h36 (vK (o:=.of (x31:List LI)) Eap67 trivial) (fun s60 ha60=>g1 5 (.ref (.bx 5) 0 [0] (kdO ((.of x31):NL LI))) (show s60 5=(.ref (.bx 5) 0 [] (.agg [kdO ((.of x31):NL LI),zh (.at 10 []) (.of (x32:TP))])) from xG ha60 h5 (zi rfl (zr (zc wX (zc (zm (r:=10) (p:=[]) rfl rfl) zk)))) (by intro h;first | (cases h;done) | (subst h;rfl))) fun h37=>zQ (zh (.at 36 []) (.of (ap67:List LI))) (zx h37 rfl) (zx rfl rfl) ⟨by decide,by decide,rfl,rfl,YQ,ui rfl rfl⟩ ?_)
     refine xf (uq (x:=9) (fun s61 hx_61 hd_61=>yR (r:=36) (x:=9) (v:=_) (by exact hx_61) rfl (fun s62 hz62=>?_)))
     refine ez [(1,eL x2),(2,bG 2 x1),(4,.ref (.bx 4) 0 [] (.agg [.sl .nl (shp LI) 0 [],nP])),(5,.ref (.bx 5) 0 [] (.agg [zh (.at 9 []) (.of (ap67:List LI)),zh (.at 10 []) (.of (x32:TP))])),(6,ji x33),(7,eL r64)] ⟨hz62 1 _ _ (show s61 1=(eL x2) from (hd_61 1 (by decide)).trans (zb (show s60 1=(eL x2) from zF ha60 h1 me) uE)) me,hz62 2 _ _ (show s61 2=(bG 2 x1) from (hd_61 2 (by decide)).trans (zb (show s60 2=(bG 2 x1) from zF ha60 h2 (zi rfl mIE)) (zj rfl rfl uIE))) (zi rfl mIE),hz62 4 _ _ (show s61 4=(.ref (.bx 4) 0 [] (.agg [.sl .nl (shp LI) 0 [],nP])) from (hd_61 4 (by decide)).trans (zb (show s60 4=(.ref (.bx 4) 0 [] (.agg [.sl .nl (shp LI) 0 [],nP])) from zF ha60 h4 (zi rfl (zr (zc rfl (zc rfl zk))))) (zj rfl rfl (zK (zf rfl (zf rfl rfl)))))) (zi rfl (zr (zc rfl (zc rfl zk)))),hz62 5 _ (.ref (.bx 5) 0 [] (.agg [zh (.at 9 []) (.of (ap67:List LI)),zh (.at 10 []) (.of (x32:TP))])) (show s61 5=(.ref (.bx 5) 0 [] (.agg [zh (.at 36 []) (.of (ap67:List LI)),zh (.at 10 []) (.of (x32:TP))])) from (hd_61 5 (by decide)).trans (zb (show s60 5=(.ref (.bx 5) 0 [] (.agg [kdO ((.of x31):NL LI),zh (.at 10 []) (.of (x32:TP))])) from xG ha60 h5 (zi rfl (zr (zc wX (zc (zm (r:=10) (p:=[]) rfl rfl) zk)))) (by intro h;first | (cases h;done) | (subst h;rfl))) (u6 (zf YS (zf (yg rfl rfl) rfl))))) (zi rfl (zr (zc (zm (r:=36) (p:=[]) rfl rfl) (zc (zm (r:=10) (p:=[]) rfl rfl) zk)))),hz62 6 _ _ (show s61 6=(ji x33) from (hd_61 6 (by decide)).trans (zb (show s60 6=(ji x33) from zF ha60 h6 mi) rfl)) mi,hz62 7 _ _ (show s61 7=(eL r64) from (hd_61 7 (by decide)).trans (zb (show s60 7=(eL r64) from zF ha60 h7 me) uE)) me⟩ ?_
     rintro s ⟨h1,h2,h4,h5,h6,h7⟩
     refine .nsq (.seq (rg (gm h6 fun h38=>g1 38 (ji (w64 (x33 + 1))) h38 fun h39=>gm h39 fun h8=>gq (.nsq (.block (.loop ?_))))))
     exact zgV H x2 x1 ap67 x32 x33 r64 (vZ F x2 x1 k) ih F (w64 (x33 + 1)) _ ⟨h1,h2,h4,h5,h6,h7,h8⟩ h
   refine .exit (.esq (.elp (.ebk (.nsq (.seq (rg (g1 5 (.agg [zh (.at 9 []) (.of (x31:List LI)),zh (.at 10 []) (.of (x32:TP))]) h5 fun h65=>zQ (.agg [zh (.at 9 []) (.of (x31:List LI)),zh (.at 10 []) (.of (x32:TP))]) (zx h4 rfl) (zx h65 rfl) (xr (by first | rfl | simp [V.toks,V.tokss,toks_enc,zN])) (gz [(4,.ref (.bx 4) 0 [] (.agg [zh (.at 9 []) (.of (x31:List LI)),zh (.at 10 []) (.of (x32:TP))]))] (zb h4 rfl) ?_))))))))
   rintro s h4
   refine .nsq (.ret ?_)
   obtain rfl:=oi h
   exact rrA (yL h4 (by kernel_rfl)) (Xy (WY (wn (YH (o:=((.of x31):NL LI))) (wn (YH (o:=((.of x32):NL (Int×Int)))) Yk))) rfl rfl)
def XP (F:Nat) (x1:GR) (x2:LI):Option ((NL LI)×(NL (Int×Int))):=
 vZ F x2 x1 F [] [] 0
theorem zwg (H:zhO D σ F) (x1:GR) (x2:LI) (s:Nat→V) (hs:zB [(0,gV x1),(1,eL x2)] s) (h:XP F x1 x2=some r):Run D σ (zdL r) (.run zqi []) s:=by
 unfold XP at h
 obtain ⟨h0,h1⟩:=hs
 refine .seq (zC (yc ?_))
 refine ez [(0,_),(1,_),(2,_),(4,_)] ⟨za h0 rfl mIE,za h1 rfl me,zg rfl,zg rfl⟩ ?_
 rintro s ⟨h0,h1,h2,h4⟩
 refine xU (gV x1) (zx h0 rfl) h2 rfl (y6 h4 (gq (.nsq (.seq (zC (yc ?_))))))
 refine ez [(1,_),(2,_),(4,_),(5,_),(9,_),(10,_)] ⟨za h1 rfl me,za rfl rfl (zi rfl mIE),za rfl rfl (zi rfl (zr (zc rfl (zc rfl zk)))),zg rfl,zg rfl,zg rfl⟩ ?_
 rintro s ⟨h1,h2,h4,h5,h9,h10⟩
 refine xv [] [] trivial rfl rfl h9 (xv [] [] trivial rfl rfl h10 (g2 9 10 (.agg [zh (.at 9 []) (.of ([]:List LI)),zh (.at 10 []) (.of ([]:TP))]) (rf (zh (.at 9 []) (.of ([]:List LI)))) (rf (zh (.at 10 []) (.of ([]:TP)))) fun h11=>y6 h5 (zQ (.agg [zh (.at 9 []) (.of ([]:List LI)),zh (.at 10 []) (.of ([]:TP))]) (zx rfl rfl) (zx h11 rfl) (xr (by first | rfl | simp [V.toks,V.tokss,toks_enc,zN])) ?_)))
 refine gz [(1,eL x2),(2,bG 2 x1),(4,.ref (.bx 4) 0 [] (.agg [.sl .nl (shp LI) 0 [],nP])),(5,.ref (.bx 5) 0 [] (.agg [zh (.at 9 []) (.of ([]:List LI)),zh (.at 10 []) (.of ([]:TP))]))] ⟨zb h1 uE,zb h2 (zj rfl rfl uIE),zb h4 (zj rfl rfl (zK (zf rfl (zf rfl rfl)))),zb rfl rfl⟩ ?_
 rintro s ⟨h1,h2,h4,h5⟩
 refine .nsq (.seq (.seq (rg (g0 (ji 0) fun h6=>gq (.nsq (.block (.loop ?_)))))))
 exact zgO H x2 x1 F [] [] 0 _ ⟨h1,h2,h4,h5,h6⟩ h
end
def znB (F:Nat):Ent:=ent 1000000035 (fun (x:(GR×LI×Unit))=>XP F x.1 x.2.1) (fun (r:((NL LI)×(NL (Int×Int))))=>(.agg [zh .sh (r.1:NL LI),zh .sh (r.2:NL (Int×Int))])) 1 true []
abbrev ztP (D:List V→Option V) (F:Nat):Prop:=∀ (x0:GR) (x1:LI) r,XP F x0 x1=some r→D [enc x0,enc x1]=some (.agg [zh .sh (r.1:NL LI),zh .sh (r.2:NL (Int×Int))])
theorem zxO {F:Nat}:ztP (znB F).den F:=fun x0 x1 _ h=>zZ (x0,x1,()) h
theorem zxP (hF:zH Tp D σ) (H:zhO D σ F):(znB F).Ok Tp:=okZ (f:=35) Try.func35 fun ⟨x0,x1,_⟩ y hy=>cR hF Try.func35 c35o (zwg H x0 x1 _ ⟨rfl,rfl⟩ hy)
def ziS:AC:=(.cond (.t 14) (.seq (rr [jv 15 (.bld (.agg [.sl .nl .p 0 [],.sl .nl (.ag [.s,.s]) 0 []]) []),jz (.store (.ag [.p,.p]) (.t 4) (.t 15)),jv 5 (.mov kf)]) .ret) .skip)
def zjC:AC:=(.seq (.reg [.clr [18]] [jv 16 (.load (.ag [.s,.p]) (.t 2)),jm 17 1,jx 18 (.callO (jf 35) [.t 16,.t 17]),jz (.store (.ag [.p,.p]) (.t 4) (.t 18)),jv 5 (.mov kt)] []) .ret)
def znP:AC:=(.seq (.seq (rr [jv 6 (.load (.ag [.s,.p]) (.t 2)),jm 7 1,jx 8 (.call (jf 34) [.t 6,.t 7]),jv 9 (.un .not (.t 8)),jm 10 9,jg 11 10 false (.fld (.t 2) 0 0),jg 12 10 false (.load .s (.t 11)),jg 13 10 false (.bin .eql (.t 12) (jn 0)),jv 14 (.pick (.t 10) kt (.t 13))]) ziS) zjC)
def zqw:AC:=(.seq (.reg [.clr [2,4]] [jx 2 (.box (.t 0)),jx 4 (.alloc (.agg [.sl .nl .p 0 [],.sl .nl (.ag [.s,.s]) 0 []])),jv 5 (.mov kf)] []) znP)
def zq7:List An:=[⟨0,[.clr [2,4]],[],[],[]⟩,⟨3,[.clr [18]],[],[1002],[]⟩]
theorem c13o:cq Tp Try.f13 zq7=some zqw:=by kernel_rfl
structure zna (D:Den) (σ:Sig) (F:Nat):Prop where
 c34:C34 (D 34) F
 g34:σ 34=some (0,false)
 c35o:ztP (D 1000000035) F
 g35o:σ 1000000035=some (1,true)
abbrev zun (r:(((NL LI)×(NL (Int×Int)))×Bool)):(Nat→V)→Prop:=RR Tp [.cell 4 29,.tmp 5] 1 true (.tup [.agg [zh .sh (r.1.1:NL LI),zh .sh (r.1.2:NL (Int×Int))],enc (r.2:Bool)])
section
variable {r:(((NL LI)×(NL (Int×Int)))×Bool)}
def wZ (F:Nat) (x2:LI) (x1:GR)  (x4:Bool):Option (((NL LI)×(NL (Int×Int)))×Bool):=
 bif x4 then
  some ((.nil,.nil),false)
 else
  (XP F x1 x2).bind fun r5=>
  some ((r5.1,r5.2),true)
theorem Qe (H:zna D σ F) (x2:LI) (x1:GR)  (x4:Bool) (s:Nat→V) (hs:zB [(1,eL x2),(2,bG 2 x1),(4,.ref (.bx 4) 0 [] (.agg [.sl .nl (shp LI) 0 [],nP])),(5,jb false),(14,jb x4)] s) (h:wZ F x2 x1  x4=some r):Run D σ (zun r) (.nrm [.sq ziS,.sq zjC]) s:=by
 unfold wZ at h
 obtain ⟨h1,h2,h4,h5,h14⟩:=hs
 refine .nsq (zu h14 h (fun h=>?_) (fun h=>?_))
 · refine .seq (rg (g0 (.agg [.sl .nl (shp LI) 0 [],nP]) fun h15=>zQ (.agg [.sl .nl (shp LI) 0 [],nP]) (zx h4 rfl) (zx h15 rfl) (xr (by first | rfl | simp [V.toks,V.tokss,toks_enc,zN])) (g0 (jb false) fun h5=>gz [(1,eL x2),(2,bG 2 x1),(4,.ref (.bx 4) 0 [] (.agg [.sl .nl (shp LI) 0 [],nP])),(5,_)] ⟨zb h1 uE,zb h2 (zj rfl rfl uIE),zb h4 rfl,h5⟩ ?_)))
   rintro s ⟨h1,h2,h4,h5⟩
   refine .nsq (.ret ?_)
   obtain rfl:=oi h
   exact rrB (yL h4 (by kernel_rfl)) (zA h5) (Xy (zcg (wn (WY (wn (zct (α:=LI)) (wn (zct (α:=(Int×Int))) Yk))) (wn Qp Yk))) rfl rfl)
 refine .skip (.nsq (.seq (zC (yc ?_))))
 refine ez [(1,_),(2,_),(4,_),(5,_),(18,_)] ⟨za h1 rfl me,za h2 rfl (zi rfl mIE),za h4 rfl (zi rfl (zr (zc rfl (zc rfl zk)))),za h5 rfl mb,zg rfl⟩ ?_
 rintro s ⟨h1,h2,h4,h5,h18⟩
 refine g1 2 (gV x1) h2 fun h16=>gm h1 fun h17=>?_
 obtain ⟨r5,Er5,h⟩:=zd h
 refine YO (m:=1) (al:=true) (r:=.agg [zh .sh (r5.1:NL LI),zh .sh (r5.2:NL (Int×Int))]) (v:=.agg [zh (.at 18 [0]) (r5.1:NL LI),zh (.at 18 [1]) (r5.2:NL (Int×Int))]) (kk:=1000000035) [enc (x1:GR),eL x2] (zl h16 rfl (erase_enc (x1:GR)) (zl h17 rfl (erase_enc (x2:LI)) zJ)) (H.c35o _ _ _ Er5) H.g35o (Xt (wC (v:=gV x1) h16 rfl rfl (wC (v:=eL x2) h17 rfl rfl Xi))) (WR (yh vH (yh vH yz))) (Jr (vm uK (vm uK We))) rfl h18 ?_
 refine zQ (.agg [zh (.at 18 [0]) (r5.1:NL LI),zh (.at 18 [1]) (r5.2:NL (Int×Int))]) (zx h4 rfl) (zx rfl rfl) ⟨by decide,by decide,rfl,(by simp [V.shape,V.shapes,zG,Sh.beq,Sh.beqs]),(by simp [V.shape,V.shapes,zG,Sh.beq,Sh.beqs]),(by simp [V.toks,V.tokss,zN])⟩ (g0 (jb true) fun h5=>gz [(4,.ref (.bx 4) 0 [] (.agg [zh (.at 18 [0]) (r5.1:NL LI),zh (.at 18 [1]) (r5.2:NL (Int×Int))])),(5,_)] ⟨zb h4 rfl,h5⟩ ?_)
 rintro s ⟨h4,h5⟩
 refine .nsq (.ret ?_)
 obtain rfl:=oi h
 exact rrB (yL h4 (by simp only [V.shape,V.shapes,zG];kernel_rfl)) (zA h5) (Xy (zcg (wn (WY (wn (YH (o:=(r5.1:NL LI))) (wn (YH (o:=(r5.2:NL (Int×Int)))) Yk))) (wn Qp Yk))) rfl rfl)
def wc (F:Nat) (x1:GR) (x2:LI):Option (((NL LI)×(NL (Int×Int)))×Bool):=
 (Xa F x1 x2).bind fun r6=>
 bif (!r6) then
  wZ F x2 x1 true
 else
  wZ F x2 x1 (x1.1 == 0)
theorem zw4 (H:zna D σ F) (x1:GR) (x2:LI) (s:Nat→V) (hs:zB [(0,gV x1),(1,eL x2)] s) (h:wc F x1 x2=some r):Run D σ (zun r) (.run zqw []) s:=by
 unfold wc at h
 obtain ⟨h0,h1⟩:=hs
 refine .seq (zC (yc ?_))
 refine ez [(0,_),(1,_),(2,_),(4,_)] ⟨za h0 rfl mIE,za h1 rfl me,zg rfl,zg rfl⟩ ?_
 rintro s ⟨h0,h1,h2,h4⟩
 refine xU (gV x1) (zx h0 rfl) h2 rfl (y6 h4 (g0 (jb false) fun h5=>gq (.nsq (.seq (.seq (rg (g1 2 (gV x1) (rf (bG 2 x1)) fun h6=>gm h1 fun h7=>?_)))))))
 obtain ⟨r6,Er6,h⟩:=zd h
 refine gcF [enc (x1:GR),eL x2] (zl h6 rfl (erase_enc (x1:GR)) (zl h7 rfl (erase_enc (x2:LI)) zJ)) (H.c34 _ _ _ Er6) H.g34 (g1 8 (jb (!r6)) (rf (jb r6)) fun h9=>gm h9 fun h10=>yd h (fun hg5 h=>?_) (fun hg5 h=>?_))
 · iterate 3 refine yq (ct h10 hg5) ?_
   refine g2 10 13 (jb true) (ct h10 hg5) (rf (.tup [])) fun h14=>gq ?_
   exact Qe H x2 x1 true _ ⟨h1,rfl,rfl,h5,h14⟩ h
 refine zt (ct h10 hg5) (g1 2 (.ref (.bx 2) 0 [0] (ji x1.1)) (rf (bG 2 x1)) fun h11=>zt (ct h10 hg5) (g1 11 (ji x1.1) h11 fun h12=>zt (ct h10 hg5) (g1 12 (jb (x1.1 == 0)) h12 fun h13=>g2 10 13 (jb (x1.1 == 0)) (ct h10 hg5) h13 fun h14=>gq ?_)))
 exact Qe H x2 x1 (x1.1 == 0) _ ⟨h1,rfl,rfl,h5,h14⟩ h
end
def zoS (F:Nat):Ent:=ent 1000000013 (fun (x:(GR×LI×Unit))=>wc F x.1 x.2.1) (fun (r:(((NL LI)×(NL (Int×Int)))×Bool))=>(.tup [.agg [zh .sh (r.1.1:NL LI),zh .sh (r.1.2:NL (Int×Int))],enc (r.2:Bool)])) 1 true []
abbrev zr9 (D:List V→Option V) (F:Nat):Prop:=∀ (x0:GR) (x1:LI) r,wc F x0 x1=some r→D [enc x0,enc x1]=some (.tup [.agg [zh .sh (r.1.1:NL LI),zh .sh (r.1.2:NL (Int×Int))],enc (r.2:Bool)])
theorem zv5 {F:Nat}:zr9 (zoS F).den F:=fun x0 x1 _ h=>zZ (x0,x1,()) h
theorem zvS (hF:zH Tp D σ) (H:zna D σ F):(zoS F).Ok Tp:=okZ (f:=13) Try.func13 fun ⟨x0,x1,_⟩ y hy=>cR hF Try.func13 c13o (zw4 H x0 x1 _ ⟨rfl,rfl⟩ hy)
end Go.Zq
