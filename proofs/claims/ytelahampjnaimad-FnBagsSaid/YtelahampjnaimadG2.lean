/- Functions of the program as typed functions, and that the machine runs as they say (part 2). No further condition. -/
import Derived.Test.YtelahampjnaimadK4
import Derived.Test.YtelahampjnaimadProg
import Derived.Test.YtelahampjnaimadChecked
import Derived.KernelRfl
import Derived.Test.YtelahampjnaimadG1
set_option linter.unusedVariables false
set_option linter.unusedSimpArgs false
namespace Go.Zq
open Go.Proofs
variable {D:Den} {σ:Sig} {F:Nat}
def zsW:AC:=(.seq (rr [jm 3 0,jx 4 (.callT (jf 46) [.t 3,jn 8] [0] []),jz (.store (.ag [.s,.p]) (.t 2) (.t 4))]) .ret)
def A28:AC:=(.seq (.reg [.clr [2]] [jx 2 (.alloc (.agg [i0,.sl .nl (.ag [.s,.s]) 0 []]))] []) zsW)
def ztg:List An:=[⟨0,[.clr [2]],[],[],[]⟩,⟨1,[],[],[2000000],[]⟩]
theorem c28:cq Try.prog Try.f28 ztg=some A28:=by kernel_rfl
structure H28 (D:Den) (σ:Sig) (F:Nat):Prop where
 c46:C46 (D 46) F
 g46:σ 46=some (vG,false)
abbrev R28 (r:(GR×CU)):(Nat→V)→Prop:=RT Try.prog [.cell 2 26] (Enc.enc (r.1:GR)) [cuV zG r.2]
section
variable {r:(GR×CU)}
def xS (F:Nat) (x1:CC):Option (GR×CU):=
 (wd F (Cu.mk x1.v) 8).bind fun r2=>
 some (r2.1,r2.2)
theorem t28 (H:H28 D σ F) (x1:CC) (s:Nat→V) (hs:zr [(0,bC x1.v)] s) (h:xS F x1=some r):Run D σ (R28 r) (.run A28 []) s:=by
 unfold xS at h
 have h0:=hs
 refine .seq (zC (ye ?_))
 refine ez [(0,_),(2,_)] ⟨za h0 rfl (zi rfl xY),ze rfl⟩ ?_
 rintro s ⟨h0,h2⟩
 refine xN h2 (gq (.nsq (.seq (rg (gm h0 fun h3=>?_)))))
 obtain ⟨r2,Er2,h⟩:=zb h
 refine wS (r:=zG) (b:=0) (x:=x1.v) (x':=r2.2) (vs:=[Enc.enc (8:Int)]) (res:=Enc.enc (r2.1:GR)) h0 (by exact (zB (v:=cuV zG x1.v) h3 rfl (zB (v:=Enc.enc (8:Int)) rfl rfl yp))) (yd te yk) fm1 (H.c46 _ _ _ Er2) H.g46 te rfl (fun s2 hb2 ha2=>yo (gV r2.1) (zI (show s2 2=(bZ 2) from ha2 2 (bZ 2) _ rfl rfl (zi rfl (mIx rfl))) rfl) (zI rfl rfl) (wo (by first | rfl | simp [V.toks,V.tokss,Enc.toks_enc,ym])) ?_)
 refine gz [(0,bC r2.2),(2,bG 2 r2.1)] ⟨zd (show s2 0=(bC r2.2) from hb2 0 h0) (zO rfl rfl Ws),zd (show s2 2=(bZ 2) from ha2 2 (bZ 2) _ rfl rfl (zi rfl (mIx rfl))) rfl⟩ ?_
 rintro s ⟨h0,h2⟩
 refine .nsq (.ret ?_)
 obtain rfl:=oi h
 exact rt1 (t:=0) (vE h2 (by kernel_rfl)) h0
end
def e28 (F:Nat):Ent:=ent 28 (fun (x:(CC×Unit))=>xS F x.1) (fun (r:(GR×CU))=>(.tup [Enc.enc (r.1:GR),.tup [cuV zG r.2]])) vG false []
abbrev C28 (D:List V→Option V) (F:Nat):Prop:=∀ (x0:CC) r,xS F x0=some r→D [Arg.arg x0]=some (.tup [Enc.enc (r.1:GR),.tup [cuV zG r.2]])
theorem p28 {F:Nat}:C28 (e28 F).den F:=fun x0 _ h=>zR (x0,()) h
theorem o28 (hF:zw Try.prog D σ) (H:H28 D σ F):(e28 F).Ok Try.prog:=okZ (f:=28) Try.func28 fun ⟨x0,_⟩ y hy=>cT hF Try.func28 c28 (t28 H x0 _ rfl hy)
def zoV:AC:=(.cond (.t 13) .skip (.exit 0))
def zn0:AC:=(.reg [.clr [21,25,27,28,32]] [jy 21 (.lit i0 0 []),jm 22 5,jm 23 7,jv 24 (.slice (.t 22) none (some (.t 23)) 1),jy 25 (.appS .s (.t 21) (.t 24)),jm 26 6,jx 27 (.lit i0 1 [(0,0,.t 26)]),jy 28 (.appS .s (.t 25) (.t 27)),jm 29 5,jm 30 7,jv 31 (.slice (.t 29) (some (.t 30)) none 1),jx 32 (.appS .s (.t 28) (.t 31)),jm 5 32] [.home 32 5])
def zqn:AC:=(rr [jm 14 6,jv 15 (.bin .add (.t 14) (jn 1)),jm 6 15])
def zse:AC:=(.seq (.block 1 (.seq (rr [jm 16 0,jm 17 5,jk 18 17,jv 19 (.bin .add (.t 18) (jn 1)),jx 20 (.callT (jf 47) [.t 16,.t 19] [0] []),jm 7 20]) zn0)) zqn)
def ziJ:AC:=(.seq (.seq (rr [jm 9 6,jv 10 (.fld (.t 3) 0 0),jl 11 10,jx 12 (.call (jf 62) [.t 11,jn 8]),jv 13 (.bin .lss (.t 9) (.t 12))]) zoV) zse)
def zrJ:AC:=(.cond (.t 34) (.reg [.clr [37,39,40]] [jm 35 5,jm 36 0,jx 37 (.litS i0 3 [(0,0,jn 0),(1,1,jn (-1)),(2,2,jn 8)]),jx 38 (.callT (jf 64) [.t 36,.t 37] [0] []),jx 39 (.lit i0 1 [(0,0,.t 38)]),jx 40 (.app .s (.t 35) (.t 39)),jm 5 40] [.home 40 5]) .skip)
def zrr:AC:=(.seq (.reg [] [jm 41 5,jm 4 41] [.home 5 4,.frz 4]) .ret)
def zlh:AC:=(.seq (.seq (rr [jm 33 0,jx 34 (.callT (jf 63) [.t 33,jn 24] [0] [])]) zrJ) zrr)
def znb:AC:=(.block 0 (.loop ziJ))
def zmQ:AC:=(.seq (.seq (rr [jv 6 (.mov (jn 0))]) znb) zlh)
def zr8:AC:=(.seq (.reg [.clr [8]] [jx 8 (.lit i0 0 []),jm 5 8] [.home 8 5]) zmQ)
def A36:AC:=(.seq (.reg [.clr [3]] [jx 3 (.box (.t 1)),jv 4 (.mov (.k (.sl .nl .s 0 [])))] []) zr8)
def zuK:List An:=[⟨0,[.clr [3]],[],[],[]⟩,⟨1,[.clr [8]],[],[],[.home 8 5]⟩,⟨5,[],[],[5000000],[]⟩,⟨6,[.clr [21,25,27,28,32]],[0,4,7],[4,7,11],[.home 32 5]⟩,⟨7,[],[],[2000000],[]⟩,⟨8,[.clr [37,39,40]],[],[4000000,6002],[.home 40 5]⟩,⟨9,[],[],[],[.home 5 4,.frz 4]⟩]
theorem c36:cq Try.prog Try.f36 zuK=some A36:=by kernel_rfl
structure H36 (D:Den) (σ:Sig) (F:Nat):Prop where
 c62:C62 (D 62) F
 g62:σ 62=some (0,false)
 c47:C47 (D 47) F
 g47:σ 47=some (vG,false)
 c63:C63 (D 63) F
 g63:σ 63=some (vG,false)
 c64:C64 (D 64) F
 g64:σ 64=some (vG,false)
abbrev R36 (r:(LI×CU)):(Nat→V)→Prop:=RT Try.prog [.tmp 4] (eL r.1) [cuV zG r.2]
section
variable {r:(LI×CU)}
def xj (F:Nat) (x2:GR) :Nat→LB→Int→Int→LI→Int→Option (LI×CU)
 | 0,_,_,_,_,_=>none
 | k + 1,x10,x11,x12,x13,x14=>
   (ZU F x2.1 8).bind fun r22=>
   bif decide (x14 < r22) then
    (yf F (cu x10 x11 x12) (w64 ((x13.length:Int) + 1))).bind fun r23=>
    (sub x13 0 r23.1).bind fun sub24=>
    (vW [] sub24).bind fun ap25=>
    (vW ap25 [x14]).bind fun ap26=>
    (sub x13 r23.1 (x13.length:Int)).bind fun sub27=>
    (vW ap26 sub27).bind fun ap28=>
    (xj F x2 k) r23.2.a r23.2.b r23.2.c.v ap28 (w64 (x14 + 1))
   else
    (xR F (cu x10 x11 x12) 24).bind fun r29=>
    bif r29.1 then
     (yW F (Cu.mk r29.2) [0,(-1),8]).bind fun r30=>
     (vW x13 [r30.1]).bind fun ap31=>
     some (ap31,r30.2)
    else
     some (x13,r29.2)
theorem zhB (H:H36 D σ F) (x2:GR) :∀ (k:Nat) (x10:LB) (x11:Int) (x12:Int) (x13:LI) (x14:Int) (s:Nat→V),zr [(0,.ref (.bx zG) 0 [] (.agg [eB x10,ji x11,.int .u64 x12])),(3,bG 3 x2),(4,nI),(5,oI 5 [] (.of x13)),(6,ji x14)] s→xj F x2 k x10 x11 x12 x13 x14=some r→Run D σ (R36 r) (.run ziJ [.lp ziJ,.bk 0,.sq zlh]) s:=by
 intro k
 induction k with
 | zero=>intro x10 x11 x12 x13 x14 s _ h;exact nm h
 | succ k ih=>
   intro x10 x11 x12 x13 x14 s hs h
   rw [xj] at h
   obtain ⟨h0,h3,h4,h5,h6⟩:=hs
   refine .seq (.seq (rg (gm h6 fun h9=>g1 3 (.ref (.bx 3) 0 [0] (ji x2.1)) h3 fun h10=>g1 10 (ji x2.1) h10 fun h11=>?_)))
   obtain ⟨r22,Er22,h⟩:=zb h
   refine gcF [Enc.enc (x2.1:Int),Enc.enc (8:Int)] (zg h11 rfl rfl (zg (v:=ji 8) rfl rfl rfl zF)) (H.c62 _ _ _ Er22) H.g62 (g2 9 12 (jb (decide (x14 < r22))) h9 (rf (ji r22)) fun h13=>gq (.nsq (zk h13 h (fun h=>?_) (fun h=>?_))))
   · refine .skip (.nsq (.seq (.block (.seq (rg (gm h0 fun h16=>gm h5 fun h17=>gv (ji (x13.length:Int)) (WV (o:=.of x13) h17) fun h18=>g1 18 (ji (w64 ((x13.length:Int) + 1))) h18 fun h19=>?_))))))
     obtain ⟨r23,Er23,h⟩:=zb h
     refine wS (r:=zG) (b:=0) (x:=((S3.mk x10 x11 (Kd.mk x12:Kd .u64)):CU)) (x':=r23.2) (vs:=[Enc.enc (w64 ((x13.length:Int) + 1):Int)]) (res:=Enc.enc (r23.1:Int)) h0 (by exact (zB (v:=cuV zG ((S3.mk x10 x11 (Kd.mk x12:Kd .u64)):CU)) h16 rfl (zB (v:=Enc.enc (w64 ((x13.length:Int) + 1):Int)) h19 rfl yp))) (yd te yk) fm1 (H.c47 _ _ _ Er23) H.g47 te rfl (fun s10 hb10 ha10=>gm (rf (ji r23.1)) fun h7=>?_)
     refine gz [(0,_),(3,bG 3 x2),(4,nI),(5,oI 5 [] (.of x13)),(6,ji x14),(7,_)] ⟨(show s10 0=(bC r23.2) from hb10 0 h0),(show s10 3=(bG 3 x2) from ha10 3 _ _ h3 rfl (zi rfl mIE)),(show s10 4=nI from ha10 4 _ _ h4 rfl rfl),(show s10 5=(oI 5 [] (.of x13)) from ha10 5 _ _ h5 rfl (zp (r:=5) (p:=[]) rfl rfl)),(show s10 6=(ji x14) from ha10 6 _ _ h6 rfl mi),h7⟩ ?_
     rintro s ⟨h0,h3,h4,h5,h6,h7⟩
     refine .nsq (zC (ye ?_))
     refine ez [(0,_),(3,_),(4,_),(5,_),(6,_),(7,_),(21,_),(25,_),(27,_),(28,_),(32,_)] ⟨za h0 rfl (zi rfl xY),za h3 rfl (zi rfl mIE),za h4 rfl rfl,za h5 rfl (zp (r:=5) (p:=[]) rfl rfl),za h6 rfl mi,za h7 rfl mi,ze rfl,ze rfl,ze rfl,ze rfl,ze rfl⟩ ?_
     rintro s ⟨h0,h3,h4,h5,h6,h7,h21,h25,h27,h28,h32⟩
     refine Lu [] [] trivial rfl rfl h21 (gm h5 fun h22=>gm h7 fun h23=>?_)
     obtain ⟨sub24,Esub24,h⟩:=zb h
     refine gv (.sl (.at 5 []) (Enc.shp Int) (Int.toNat 0) ((sub24:LI).map Enc.enc)) (UZ (xs:=x13) h22 (Ze) (Zs h23) Esub24 rfl) fun h24=>?_
     obtain ⟨ap25,Eap25,h⟩:=zb h
     refine XU (p:=[]) (xs:=[]) (ys:=(sub24:LI)) (t2:=.at 5 []) (lo2:=Int.toNat 0) rfl h24 rfl h25 rfl Eap25 (gm h6 fun h26=>wm [(26,ji x14)] [Enc.enc (x14:Int)] h26 rfl rfl h27 ?_)
     obtain ⟨ap26,Eap26,h⟩:=zb h
     refine XU (p:=[]) (xs:=ap25) (ys:=([x14]:LI)) (t2:=.at 27 []) (lo2:=0) rfl rfl rfl h28 rfl Eap26 (gm h5 fun h29=>gm h7 fun h30=>?_)
     obtain ⟨sub27,Esub27,h⟩:=zb h
     refine gv (.sl (.at 5 []) (Enc.shp Int) (Int.toNat r23.1) ((sub27:LI).map Enc.enc)) (UZ (xs:=x13) h29 (Zs h30) (Ze) Esub27 rfl) fun h31=>?_
     obtain ⟨ap28,Eap28,h⟩:=zb h
     refine XU (p:=[]) (xs:=ap26) (ys:=(sub27:LI)) (t2:=.at 5 []) (lo2:=Int.toNat r23.1) rfl h31 rfl h32 rfl Eap28 (gm (rf (oI 32 [] (.of ap28))) fun h5=>yS (yF (r:=32) (x:=5) (v:=_) h5 rfl (fun s12 hz12=>?_)))
     refine ez [(0,bC r23.2),(3,bG 3 x2),(4,nI),(5,oI 5 [] (.of ap28)),(6,ji x14)] ⟨hz12 0 _ _ h0 (zi rfl xY),hz12 3 _ _ h3 (zi rfl mIE),hz12 4 _ _ h4 rfl,hz12 5 _ _ h5 (zp (r:=32) (p:=[]) rfl rfl),hz12 6 _ _ h6 mi⟩ ?_
     rintro s ⟨h0,h3,h4,h5,h6⟩
     refine .nbk (.nsq (rg (gm h6 fun h14=>g1 14 (ji (w64 (x14 + 1))) h14 fun h15=>gm h15 fun h6=>gq (.nlp ?_))))
     exact ih r23.2.a r23.2.b r23.2.c.v ap28 (w64 (x14 + 1)) _ ⟨h0,h3,h4,h5,h6⟩ h
   refine .exit (.esq (.elp (.ebk (.nsq (.seq (.seq (rg (gm h0 fun h33=>?_))))))))
   obtain ⟨r29,Er29,h⟩:=zb h
   refine wS (r:=zG) (b:=0) (x:=((S3.mk x10 x11 (Kd.mk x12:Kd .u64)):CU)) (x':=r29.2) (vs:=[Enc.enc (24:Int)]) (res:=Enc.enc (r29.1:Bool)) h0 (by exact (zB (v:=cuV zG ((S3.mk x10 x11 (Kd.mk x12:Kd .u64)):CU)) h33 rfl (zB (v:=Enc.enc (24:Int)) rfl rfl yp))) (yd te yk) fm1 (H.c63 _ _ _ Er29) H.g63 te rfl (fun s13 hb13 ha13=>gz [(0,_),(4,nI),(5,oI 5 [] (.of x13)),(34,jb r29.1)] ⟨(show s13 0=(bC r29.2) from hb13 0 h0),(show s13 4=nI from ha13 4 _ _ h4 rfl rfl),(show s13 5=(oI 5 [] (.of x13)) from ha13 5 _ _ h5 rfl (zp (r:=5) (p:=[]) rfl rfl)),rfl⟩ ?_)
   rintro s ⟨h0,h4,h5,h34⟩
   refine .nsq (zk h34 h (fun h=>?_) (fun h=>?_))
   · refine zC (ye ?_)
     refine ez [(0,_),(4,_),(5,_),(37,_),(39,_),(40,_)] ⟨za h0 rfl (zi rfl xY),za h4 rfl rfl,za h5 rfl (zp (r:=5) (p:=[]) rfl rfl),ze rfl,ze rfl,ze rfl⟩ ?_
     rintro s ⟨h0,h4,h5,h37,h39,h40⟩
     refine gm h5 fun h35=>gm h0 fun h36=>Jv [] ([0,(-1),8]:LI) trivial rfl rfl rfl h37 (fun s15 hd_15 hl_15=>?_)
     obtain ⟨r30,Er30,h⟩:=zb h
     refine wS (r:=zG) (b:=0) (x:=r29.2) (x':=r30.2) (vs:=[Enc.enc ([0,(-1),8]:LI)]) (res:=Enc.enc (r30.1:Int)) (show s15 0=(bC r29.2) from (hl_15 0 (by decide)).trans h0) (by exact (zB (v:=cuV zG r29.2) (show s15 36=(bC r29.2) from (hl_15 36 (by decide)).trans h36) rfl (zB (v:=Enc.enc ([0,(-1),8]:LI)) (show s15 37=(eL [0,(-1),8]) from hd_15) rfl yp))) (yd te yk) fm1 (H.c64 _ _ _ Er30) H.g64 te rfl (fun s16 hb16 ha16=>wm [(38,ji r30.1)] [Enc.enc (r30.1:Int)] rfl rfl rfl (show s16 39 = .gone from ha16 39 _ _ (show s15 39 = .gone from (hl_15 39 (by decide)).trans h39) rfl rfl) ?_)
     obtain ⟨ap31,Eap31,h⟩:=zb h
     refine X4 (q:=5) (p:=[]) (o:=.of (x13:LI)) (ys:=([r30.1]:LI)) (t2:=.at 39 []) (lo2:=0) (show s16 35=(oI 5 [] (.of x13)) from ha16 35 _ _ (show s15 35=(oI 5 [] (.of x13)) from (hl_15 35 (by decide)).trans h35) rfl (zp (r:=5) (p:=[]) rfl rfl)) rfl rfl (show s16 40 = .gone from ha16 40 _ _ (show s15 40 = .gone from (hl_15 40 (by decide)).trans h40) rfl rfl) (Ya (o:=.of (x13:LI)) Eap31 trivial) (fun s17 ha17=>gm (rf (oI 40 [] (.of ap31))) fun h5=>yS (yF (r:=40) (x:=5) (v:=_) h5 rfl (fun s18 hz18=>?_)))
     refine ez [(0,bC r30.2),(4,nI),(5,oI 5 [] (.of ap31))] ⟨hz18 0 _ _ (show s17 0=(bC r30.2) from yc ha17 (show s16 0=(bC r30.2) from hb16 0 (show s15 0=(bC r29.2) from (hl_15 0 (by decide)).trans h0)) (zi rfl xY)) (zi rfl xY),hz18 4 _ nI (show s17 4=nI from yc ha17 (show s16 4=nI from ha16 4 _ _ (show s15 4=nI from (hl_15 4 (by decide)).trans h4) rfl rfl) rfl) rfl,hz18 5 _ _ h5 (zp (r:=40) (p:=[]) rfl rfl)⟩ ?_
     rintro s ⟨h0,h4,h5⟩
     refine .nsq (.seq (rg (gm h5 fun h41=>gm h41 fun h4=>yS (yF (r:=5) (x:=4) (v:=_) h4 rfl (fun s19 hz19=>Yb (x:=4) (v:=oI 4 [] (.of ap31)) [.at 4 []] (by exact (hz19 4 _ _ h4 (zp (r:=5) (p:=[]) rfl rfl))) z2 (fun s20 hz20=>?_))))))
     refine ez [(0,bC r30.2),(4,eL ap31)] ⟨hz20 0 (bC r30.2) (bC r30.2) (hz19 0 _ _ h0 (zi rfl xY)) (yO rfl Ju rfl),hz20 4 (oI 4 [] (.of ap31)) (eL ap31) (hz19 4 _ _ h4 (zp (r:=5) (p:=[]) rfl rfl)) w8⟩ ?_
     rintro s ⟨h0,h4⟩
     refine .nsq (.ret ?_)
     obtain rfl:=oi h
     exact rt1 (t:=0) (zl h4) h0
   refine .skip (.nsq (.seq (rg (gm h5 fun h41=>gm h41 fun h4=>yS (yF (r:=5) (x:=4) (v:=_) h4 rfl (fun s21 hz21=>Yb (x:=4) (v:=oI 4 [] (.of x13)) [.at 4 []] (by exact (hz21 4 _ _ h4 (zp (r:=5) (p:=[]) rfl rfl))) z2 (fun s22 hz22=>?_)))))))
   refine ez [(0,bC r29.2),(4,eL x13)] ⟨hz22 0 (bC r29.2) (bC r29.2) (hz21 0 _ _ h0 (zi rfl xY)) (yO rfl Ju rfl),hz22 4 (oI 4 [] (.of x13)) (eL x13) (hz21 4 _ _ h4 (zp (r:=5) (p:=[]) rfl rfl)) w8⟩ ?_
   rintro s ⟨h0,h4⟩
   refine .nsq (.ret ?_)
   obtain rfl:=oi h
   exact rt1 (t:=0) (zl h4) h0
def wF (F:Nat) (x1:CC) (x2:GR):Option (LI×CU):=
 xj F x2 F x1.v.a x1.v.b x1.v.c.v [] 0
theorem t36 (H:H36 D σ F) (x1:CC) (x2:GR) (s:Nat→V) (hs:zr [(0,bC x1.v),(1,gV x2)] s) (h:wF F x1 x2=some r):Run D σ (R36 r) (.run A36 []) s:=by
 unfold wF at h
 obtain ⟨h0,h1⟩:=hs
 refine .seq (zC (ye ?_))
 refine ez [(0,_),(1,_),(3,_)] ⟨za h0 rfl (zi rfl xY),za h1 rfl mIE,ze rfl⟩ ?_
 rintro s ⟨h0,h1,h3⟩
 refine wa (gV x2) (zI h1 rfl) h3 rfl (g0 nI fun h4=>gq (.nsq (.seq (zC (ye ?_)))))
 refine ez [(0,_),(3,_),(4,_),(8,_)] ⟨za h0 rfl (zi rfl xY),za rfl rfl (zi rfl mIE),za h4 rfl rfl,ze rfl⟩ ?_
 rintro s ⟨h0,h3,h4,h8⟩
 refine wm [] [] trivial rfl rfl h8 (gm (rf (oI 8 [] (.of []))) fun h5=>yS (yF (r:=8) (x:=5) (v:=_) h5 rfl (fun s3 hz3=>?_)))
 refine ez [(0,bC x1.v),(3,bG 3 x2),(4,nI),(5,oI 5 [] (.of []))] ⟨hz3 0 _ _ h0 (zi rfl xY),hz3 3 _ _ h3 (zi rfl mIE),hz3 4 _ _ h4 rfl,hz3 5 _ _ h5 (zp (r:=8) (p:=[]) rfl rfl)⟩ ?_
 rintro s ⟨h0,h3,h4,h5⟩
 refine .nsq (.seq (.seq (rg (g0 (ji 0) fun h6=>gq (.nsq (.block (.loop ?_)))))))
 exact zhB H x2 F x1.v.a x1.v.b x1.v.c.v [] 0 _ ⟨h0,h3,h4,h5,h6⟩ h
end
def e36 (F:Nat):Ent:=ent 36 (fun (x:(CC×GR×Unit))=>wF F x.1 x.2.1) (fun (r:(LI×CU))=>(.tup [eL r.1,.tup [cuV zG r.2]])) vG false []
abbrev C36 (D:List V→Option V) (F:Nat):Prop:=∀ (x0:CC) (x1:GR) r,wF F x0 x1=some r→D [Arg.arg x0,Enc.enc x1]=some (.tup [eL r.1,.tup [cuV zG r.2]])
theorem p36 {F:Nat}:C36 (e36 F).den F:=fun x0 x1 _ h=>zR (x0,x1,()) h
theorem o36 (hF:zw Try.prog D σ) (H:H36 D σ F):(e36 F).Ok Try.prog:=okZ (f:=36) Try.func36 fun ⟨x0,x1,_⟩ y hy=>cT hF Try.func36 c36 (t36 H x0 x1 _ ⟨rfl,rfl⟩ hy)
def zoK:AC:=(.seq (rr [jx 11 (.vN (.load (.ag [.s,.p]) (.t 5)) [4]),jm 12 4,jx 13 (.vN (.load (.ag [.s,.p]) (.t 5)) [4]),jx 14 (.callT (jf 36) [.t 12,.t 13] [4] []),jz (.store (.ag [.s,.p]) (.t 2) (.t 11)),jm 3 14]) .ret)
def zpb:AC:=(.seq (.reg [.clr [5]] [jm 9 4,jx 10 (.callT (jf 28) [.t 9] [4] []),jx 5 (.alloc (.agg [i0,.sl .nl (.ag [.s,.s]) 0 []])),jz (.store (.ag [.s,.p]) (.t 5) (.t 10))] []) zoK)
def zoj:AC:=(.seq (.reg [.clr [8]] [jm 6 0,jv 7 (.bld (.agg [.sl .nl .s 0 [],i0,.int .u64 (.ofNat 0)]) [(0,0,.t 6)]),jx 8 (.box (.t 7)),jm 4 8] []) zpb)
def A19:AC:=(.seq (.reg [.clr [2]] [jx 2 (.alloc (.agg [i0,.sl .nl (.ag [.s,.s]) 0 []])),jv 3 (.mov (.k (.sl .nl .s 0 [])))] []) zoj)
def zt5:List An:=[⟨0,[.clr [2]],[],[],[]⟩,⟨1,[.clr [8]],[],[],[]⟩,⟨2,[.clr [5]],[],[2000004],[]⟩,⟨3,[],[],[4000004,1000004,3000004],[]⟩]
theorem c19:cq Try.prog Try.f19 zt5=some A19:=by kernel_rfl
structure H19 (D:Den) (σ:Sig) (F:Nat):Prop where
 c28:C28 (D 28) F
 g28:σ 28=some (vG,false)
 c36:C36 (D 36) F
 g36:σ 36=some (vG,false)
abbrev R19 (r:(GR×LI)):(Nat→V)→Prop:=RR Try.prog [.cell 2 26,.tmp 3] 0 true (.tup [Enc.enc (r.1:GR),eL r.2])
section
variable {r:(GR×LI)}
def w6 (F:Nat) (x1:LB):Option (GR×LI):=
 (xS F (cu x1 0 0)).bind fun r2=>
 (wF F (Cu.mk r2.2) r2.1).bind fun r3=>
 some (r2.1,r3.1)
theorem t19 (H:H19 D σ F) (x1:LB) (s:Nat→V) (hs:zr [(0,eB x1)] s) (h:w6 F x1=some r):Run D σ (R19 r) (.run A19 []) s:=by
 unfold w6 at h
 have h0:=hs
 refine .seq (zC (ye ?_))
 refine ez [(0,_),(2,_)] ⟨za h0 rfl me,ze rfl⟩ ?_
 rintro s ⟨h0,h2⟩
 refine xN h2 (g0 nI fun h3=>gq (.nsq (.seq (zC (ye ?_)))))
 refine ez [(0,_),(2,_),(3,_),(8,_)] ⟨za h0 rfl me,za rfl rfl (zi rfl (mIx rfl)),za h3 rfl rfl,ze rfl⟩ ?_
 rintro s ⟨h0,h2,h3,h8⟩
 refine gm h0 fun h6=>g1 6 (.agg [eB x1,ji 0,.int .u64 0]) h6 fun h7=>wa (.agg [eB x1,ji 0,.int .u64 0]) (zI h7 rfl) h8 rfl (gm (rf (.ref (.bx 8) 0 [] (.agg [eB x1,ji 0,.int .u64 0]))) fun h4=>gq (.nsq (.seq (zC (ye ?_)))))
 refine ez [(2,_),(3,_),(4,_),(5,_)] ⟨za h2 rfl (zi rfl (mIx rfl)),za h3 rfl rfl,za h4 rfl (zi rfl xY),ze rfl⟩ ?_
 rintro s ⟨h2,h3,h4,h5⟩
 refine gm h4 fun h9=>?_
 obtain ⟨r2,Er2,h⟩:=zb h
 refine wS (r:=8) (b:=4) (x:=((S3.mk x1 0 (Kd.mk 0:Kd .u64)):CU)) (x':=r2.2) (vs:=[]) (res:=Enc.enc (r2.1:GR)) h4 (by exact (zB (v:=cuV 8 ((S3.mk x1 0 (Kd.mk 0:Kd .u64)):CU)) h9 rfl yp)) yk (fun f=>zH) (H.c28 _ _ Er2) H.g28 te rfl (fun s4 hb4 ha4=>xN (show s4 5 = .gone from ha4 5 _ _ h5 rfl rfl) (yo (gV r2.1) (zI rfl rfl) (zI rfl rfl) (wo (by first | rfl | simp [V.toks,V.tokss,Enc.toks_enc,ym])) ?_))
 refine gz [(2,bZ 2),(3,nI),(4,.ref (.bx 8) 0 [] (cV r2.2)),(5,bG 5 r2.1)] ⟨zd (show s4 2=(bZ 2) from ha4 2 _ _ h2 rfl (zi rfl (mIx rfl))) (zO rfl rfl (yN (zx rfl (zx rfl rfl)))),zd (show s4 3=nI from ha4 3 _ _ h3 rfl rfl) rfl,zd (show s4 4=(.ref (.bx 8) 0 [] (cV r2.2)) from hb4 4 h4) (zO rfl rfl Ws),zd rfl rfl⟩ ?_
 rintro s ⟨h2,h3,h4,h5⟩
 refine .nsq (.seq (rg (Jg (r:=8) (b:=4) (x:=r2.2) (gV r2.1) h4 (uz [(5,bG 5 r2.1)] h5 rfl rfl) [(5,bG 5 r2.1)] h5 rfl (by simp [V.live,V.lives,wj,V.toks,V.tokss,z2,Enc.toks_enc,zG,w9]) (by simp [V.toks,V.tokss,z2,Enc.toks_enc,zG,w9]) (gm h4 fun h12=>Jg (r:=8) (b:=4) (x:=r2.2) (gV r2.1) h4 (uz [(5,bG 5 r2.1)] h5 rfl rfl) [(5,bG 5 r2.1)] h5 rfl (by simp [V.live,V.lives,wj,V.toks,V.tokss,z2,Enc.toks_enc,zG,w9]) (by simp [V.toks,V.tokss,z2,Enc.toks_enc,zG,w9]) ?_))))
 obtain ⟨r3,Er3,h⟩:=zb h
 refine wS (r:=8) (b:=4) (x:=r2.2) (x':=r3.2) (vs:=[Enc.enc (r2.1:GR)]) (res:=eL r3.1) h4 (by exact (zB (v:=cuV 8 r2.2) h12 rfl (zB (v:=Enc.enc (r2.1:GR)) rfl rfl yp))) (yd te yk) fm1 (H.c36 _ _ _ Er3) H.g36 te rfl (fun s5 hb5 ha5=>yo (gV r2.1) (zI (show s5 2=(bZ 2) from ha5 2 _ _ h2 rfl (zi rfl (mIx rfl))) rfl) (zI (show s5 11=(gV r2.1) from ha5 11 (gV r2.1) _ rfl rfl mIE) rfl) (wo (by first | rfl | simp [V.toks,V.tokss,Enc.toks_enc,ym])) (gm (zd rfl uE) fun h3=>gz [(2,bG 2 r2.1),(3,_)] ⟨zd (show s5 2=(bZ 2) from ha5 2 _ _ h2 rfl (zi rfl (mIx rfl))) rfl,h3⟩ ?_))
 rintro s ⟨h2,h3⟩
 refine .nsq (.ret ?_)
 obtain rfl:=oi h
 exact rrB (vE h2 (by kernel_rfl)) (zl h3) (ZC (Zh (yG (w7 (x:=(r2.1:GR))) (yG (w7 (x:=(r3.1:LI))) vt))))
end
def e19 (F:Nat):Ent:=ent 19 (fun (x:(LB×Unit))=>w6 F x.1) (fun (r:(GR×LI))=>(.tup [Enc.enc (r.1:GR),eL r.2])) 0 true []
abbrev C19 (D:List V→Option V) (F:Nat):Prop:=∀ (x0:LB) r,w6 F x0=some r→D [Enc.enc x0]=some (.tup [Enc.enc (r.1:GR),eL r.2])
theorem p19 {F:Nat}:C19 (e19 F).den F:=fun x0 _ h=>zR (x0,()) h
theorem o19 (hF:zw Try.prog D σ) (H:H19 D σ F):(e19 F).Ok Try.prog:=okZ (f:=19) Try.func19 fun ⟨x0,_⟩ y hy=>cR hF Try.func19 c19 (t19 H x0 _ rfl hy)
def zt8:AC:=(.seq (rr [jm 4 0,jx 5 (.call (jf 19) [.t 4]),jv 6 (.ext (.t 5) 0),jv 7 (.ext (.t 5) 1),jz (.store (.ag [.s,.p]) (.t 2) (.t 6)),jm 3 7]) .ret)
def A5:AC:=(.seq (.reg [.clr [2]] [jx 2 (.alloc (.agg [i0,.sl .nl (.ag [.s,.s]) 0 []])),jv 3 (.mov (.k (.sl .nl .s 0 [])))] []) zt8)
def an5:List An:=[⟨0,[.clr [2]],[],[],[]⟩]
theorem c5:cq Try.prog Try.f5 an5=some A5:=by kernel_rfl
structure H5 (D:Den) (σ:Sig) (F:Nat):Prop where
 c19:C19 (D 19) F
 g19:σ 19=some (0,true)
abbrev R5 (r:(GR×LI)):(Nat→V)→Prop:=RR Try.prog [.cell 2 26,.tmp 3] 0 true (.tup [Enc.enc (r.1:GR),eL r.2])
section
variable {r:(GR×LI)}
def ww (F:Nat) (x1:LB):Option (GR×LI):=
 (w6 F x1).bind fun r2=>
 some (r2.1,r2.2)
theorem t5 (H:H5 D σ F) (x1:LB) (s:Nat→V) (hs:zr [(0,eB x1)] s) (h:ww F x1=some r):Run D σ (R5 r) (.run A5 []) s:=by
 unfold ww at h
 have h0:=hs
 refine .seq (zC (ye ?_))
 refine ez [(0,_),(2,_)] ⟨za h0 rfl me,ze rfl⟩ ?_
 rintro s ⟨h0,h2⟩
 refine xN h2 (g0 nI fun h3=>gq (.nsq (.seq (rg (gm h0 fun h4=>?_)))))
 obtain ⟨r2,Er2,h⟩:=zb h
 refine Wj (m:=0) (al:=true) (r:=.tup [Enc.enc (r2.1:GR),eL r2.2]) [Enc.enc (x1:LB)] (zg h4 rfl (Enc.erase_enc (x1:LB)) zF) (H.c19 _ _ Er2) H.g19 (We (vn (v:=eB x1) h4 rfl rfl Wd)) rfl rfl rfl (g1 5 (gV r2.1) (rf (.tup [gV r2.1,eL r2.2])) fun h6=>g1 5 (eL r2.2) (rf (.tup [gV r2.1,eL r2.2])) fun h7=>yo (gV r2.1) (zI rfl rfl) (zI h6 rfl) (wo (by first | rfl | simp [V.toks,V.tokss,Enc.toks_enc,ym])) (gm (zd h7 uE) fun h3=>gz [(2,bG 2 r2.1),(3,_)] ⟨zd rfl rfl,h3⟩ ?_))
 rintro s ⟨h2,h3⟩
 refine .nsq (.ret ?_)
 obtain rfl:=oi h
 exact rrB (vE h2 (by kernel_rfl)) (zl h3) (ZC (Zh (yG (w7 (x:=(r2.1:GR))) (yG (w7 (x:=(r2.2:LI))) vt))))
end
def e5 (F:Nat):Ent:=ent 5 (fun (x:(LB×Unit))=>ww F x.1) (fun (r:(GR×LI))=>(.tup [Enc.enc (r.1:GR),eL r.2])) 0 true []
abbrev C5 (D:List V→Option V) (F:Nat):Prop:=∀ (x0:LB) r,ww F x0=some r→D [Enc.enc x0]=some (.tup [Enc.enc (r.1:GR),eL r.2])
theorem p5 {F:Nat}:C5 (e5 F).den F:=fun x0 _ h=>zR (x0,()) h
theorem o5 (hF:zw Try.prog D σ) (H:H5 D σ F):(e5 F).Ok Try.prog:=okZ (f:=5) Try.func5 fun ⟨x0,_⟩ y hy=>cR hF Try.func5 c5 (t5 H x0 _ rfl hy)
def zpm:AC:=(.seq (rr [jm 7 0,jm 8 1,jv 9 (.bin .geq (.t 7) (.t 8)),jm 10 9,jg 11 10 true (.mov (.t 0)),jg 12 10 true (.mov (.t 2)),jg 13 10 true (.bin .leq (.t 11) (.t 12)),jv 14 (.pick (.t 10) (.t 13) kf),jm 6 14]) .ret)
def A37:AC:=(.seq (rr [jv 6 (.mov kf)]) zpm)
def zs9:List An:=[]
theorem c37:cq Try.prog Try.f37 zs9=some A37:=by kernel_rfl
structure H37 (D:Den) (σ:Sig) (F:Nat):Prop where
 mk ::
abbrev R37 (r:Bool):(Nat→V)→Prop:=RR Try.prog [.tmp 6] 0 false (Enc.enc (r:Bool))
section
variable {r:Bool}
def YP (F:Nat) (x1:Int) (x2:Int) (x3:Int):Option Bool:=
 bif decide (x1≥x2) then
  some (decide (x1≤x3))
 else
  some false
theorem t37 (H:H37 D σ F) (x1:Int) (x2:Int) (x3:Int) (s:Nat→V) (hs:zr [(0,ji x1),(1,ji x2),(2,ji x3)] s) (h:YP F x1 x2 x3=some r):Run D σ (R37 r) (.run A37 []) s:=by
 unfold YP at h
 obtain ⟨h0,h1,h2⟩:=hs
 refine .seq (rg (g0 (jb false) fun h6=>gq (.nsq (.seq (rg (gm h0 fun h7=>gm h1 fun h8=>g2 7 8 (jb (decide (x1≥x2))) h7 h8 fun h9=>gm h9 fun h10=>z6 h (fun hg4 h=>?_) (fun hg4 h=>?_)))))))
 · refine zo (ct h10 hg4) (gm h0 fun h11=>zo (ct h10 hg4) (gm h2 fun h12=>zo (ct h10 hg4) (g2 11 12 (jb (decide (x1≤x3))) h11 h12 fun h13=>g2 10 13 (jb (decide (x1≤x3))) (ct h10 hg4) h13 fun h14=>gm h14 fun h6=>gq (.nsq (.ret ?_)))))
   obtain rfl:=oi h
   exact rrA (zl h6) rfl
 iterate 3 refine yJ (ct h10 hg4) ?_
 refine g2 10 13 (jb false) (ct h10 hg4) (rf (.tup [])) fun h14=>gm h14 fun h6=>gq (.nsq (.ret ?_))
 obtain rfl:=oi h
 exact rrA (zl h6) rfl
end
def e37 (F:Nat):Ent:=ent 37 (fun (x:(Int×Int×Int×Unit))=>YP F x.1 x.2.1 x.2.2.1) (fun (r:Bool)=>(Enc.enc (r:Bool))) 0 false []
abbrev C37 (D:List V→Option V) (F:Nat):Prop:=∀ (x0:Int) (x1:Int) (x2:Int) r,YP F x0 x1 x2=some r→D [Enc.enc x0,Enc.enc x1,Enc.enc x2]=some (Enc.enc (r:Bool))
theorem p37 {F:Nat}:C37 (e37 F).den F:=fun x0 x1 x2 _ h=>zR (x0,x1,x2,()) h
theorem o37 (hF:zw Try.prog D σ) (H:H37 D σ F):(e37 F).Ok Try.prog:=okZ (f:=37) Try.func37 fun ⟨x0,x1,x2,_⟩ y hy=>cR hF Try.func37 c37 (t37 H x0 x1 x2 _ ⟨rfl,rfl,rfl⟩ hy)
def zn1:AC:=(.seq (rr [jm 3 0,jm 4 0,jv 5 (.bin .neq (.t 3) (.t 4)),jm 2 5]) .ret)
def A81:AC:=(.seq (rr [jv 2 (.mov kf)]) zn1)
def zur:List An:=[]
theorem c81:cq Try.prog Try.f81 zur=some A81:=by kernel_rfl
structure H81 (D:Den) (σ:Sig) (F:Nat):Prop where
 mk ::
abbrev R81 (r:Bool):(Nat→V)→Prop:=RR Try.prog [.tmp 2] 0 false (Enc.enc (r:Bool))
section
variable {r:Bool}
def vJ (F:Nat) (x1:Int):Option Bool:=
 some (x1 != x1)
theorem t81 (H:H81 D σ F) (x1:Int) (s:Nat→V) (hs:zr [(0,ji x1)] s) (h:vJ F x1=some r):Run D σ (R81 r) (.run A81 []) s:=by
 unfold vJ at h
 have h0:=hs
 refine .seq (rg (g0 (jb false) fun h2=>gq (.nsq (.seq (rg (gm h0 fun h3=>gm h0 fun h4=>g2 3 4 (jb (x1 != x1)) h3 h4 fun h5=>gm h5 fun h2=>gq (.nsq (.ret ?_))))))))
 obtain rfl:=oi h
 exact rrA (zl h2) rfl
end
def e81 (F:Nat):Ent:=ent 81 (fun (x:(Int×Unit))=>vJ F x.1) (fun (r:Bool)=>(Enc.enc (r:Bool))) 0 false []
abbrev C81 (D:List V→Option V) (F:Nat):Prop:=∀ (x0:Int) r,vJ F x0=some r→D [Enc.enc x0]=some (Enc.enc (r:Bool))
theorem p81 {F:Nat}:C81 (e81 F).den F:=fun x0 _ h=>zR (x0,()) h
theorem o81 (hF:zw Try.prog D σ) (H:H81 D σ F):(e81 F).Ok Try.prog:=okZ (f:=81) Try.func81 fun ⟨x0,_⟩ y hy=>cR hF Try.func81 c81 (t81 H x0 _ rfl hy)
def zsI:AC:=(.cond (.t 12) (.seq (rr [jv 4 (.mov (jn 0))]) .ret) .skip)
def zpS:AC:=(.seq (rr [jv 4 (.mov (jn (-1)))]) .ret)
def zqd:AC:=(.cond (.t 11) (.seq (.seq (rr [jm 12 6]) zsI) zpS) .skip)
def zqh:AC:=(.cond (.t 13) (.seq (rr [jv 4 (.mov (jn 1))]) .ret) .skip)
def zmD:AC:=(.cond (.t 16) (.seq (rr [jv 4 (.mov (jn (-1)))]) .ret) .skip)
def zmU:AC:=(.cond (.t 19) (.seq (rr [jv 4 (.mov (jn 1))]) .ret) .skip)
def zl1:AC:=(.seq (rr [jv 4 (.mov (jn 0))]) .ret)
def zmx:AC:=(.seq (.seq (rr [jm 17 0,jm 18 1,jv 19 (.bin .gtr (.t 17) (.t 18))]) zmU) zl1)
def zqE:AC:=(.seq (.seq (rr [jm 14 0,jm 15 1,jv 16 (.bin .lss (.t 14) (.t 15))]) zmD) zmx)
def zoi:AC:=(.seq (.seq (rr [jm 13 6]) zqh) zqE)
def zsK:AC:=(.seq (.seq (rr [jm 11 5]) zqd) zoi)
def zsg:AC:=(.seq (rr [jm 9 1,jx 10 (.call (jf 81) [.t 9]),jm 6 10]) zsK)
def zp7:AC:=(.seq (rr [jm 7 0,jx 8 (.call (jf 81) [.t 7]),jm 5 8]) zsg)
def A65:AC:=(.seq (rr [jv 4 (.mov (jn 0))]) zp7)
def ztd:List An:=[]
theorem c65:cq Try.prog Try.f65 ztd=some A65:=by kernel_rfl
structure H65 (D:Den) (σ:Sig) (F:Nat):Prop where
 c81:C81 (D 81) F
 g81:σ 81=some (0,false)
abbrev R65 (r:Int):(Nat→V)→Prop:=RR Try.prog [.tmp 4] 0 false (Enc.enc (r:Int))
section
variable {r:Int}
def wP (F:Nat) (x1:Int) (x2:Int):Option Int:=
 (vJ F x1).bind fun r3=>
 (vJ F x2).bind fun r4=>
 bif r3 then
  bif r4 then
   some 0
  else
   some (-1)
 else
  bif r4 then
   some 1
  else
   bif decide (x1 < x2) then
    some (-1)
   else
    bif decide (x1 > x2) then
     some 1
    else
     some 0
theorem t65 (H:H65 D σ F) (x1:Int) (x2:Int) (s:Nat→V) (hs:zr [(0,ji x1),(1,ji x2)] s) (h:wP F x1 x2=some r):Run D σ (R65 r) (.run A65 []) s:=by
 unfold wP at h
 obtain ⟨h0,h1⟩:=hs
 refine .seq (rg (g0 (ji 0) fun h4=>gq (.nsq (.seq (rg (gm h0 fun h7=>?_))))))
 obtain ⟨r3,Er3,h⟩:=zb h
 refine gcF [Enc.enc (x1:Int)] (zg h7 rfl rfl zF) (H.c81 _ _ Er3) H.g81 (gm (rf (jb r3)) fun h5=>gq (.nsq (.seq (rg (gm h1 fun h9=>?_)))))
 obtain ⟨r4,Er4,h⟩:=zb h
 refine gcF [Enc.enc (x2:Int)] (zg h9 rfl rfl zF) (H.c81 _ _ Er4) H.g81 (gm (rf (jb r4)) fun h6=>gq (.nsq (.seq (.seq (rg (gm h5 fun h11=>gq (.nsq (zk h11 h (fun h=>?_) (fun h=>?_)))))))))
 · refine .seq (.seq (rg (gm h6 fun h12=>gq (.nsq (zk h12 h (fun h=>?_) (fun h=>?_))))))
   · refine .seq (rg (g0 (ji 0) fun h4=>gq (.nsq (.ret ?_))))
     obtain rfl:=oi h
     exact rrA (zl h4) rfl
   refine .skip (.nsq (.seq (rg (g0 (ji (-1)) fun h4=>gq (.nsq (.ret ?_))))))
   obtain rfl:=oi h
   exact rrA (zl h4) rfl
 refine .skip (.nsq (.seq (.seq (rg (gm h6 fun h13=>gq (.nsq (zk h13 h (fun h=>?_) (fun h=>?_))))))))
 · refine .seq (rg (g0 (ji 1) fun h4=>gq (.nsq (.ret ?_))))
   obtain rfl:=oi h
   exact rrA (zl h4) rfl
 refine .skip (.nsq (.seq (.seq (rg (gm h0 fun h14=>gm h1 fun h15=>g2 14 15 (jb (decide (x1 < x2))) h14 h15 fun h16=>gq (.nsq (zk h16 h (fun h=>?_) (fun h=>?_))))))))
 · refine .seq (rg (g0 (ji (-1)) fun h4=>gq (.nsq (.ret ?_))))
   obtain rfl:=oi h
   exact rrA (zl h4) rfl
 refine .skip (.nsq (.seq (.seq (rg (gm h0 fun h17=>gm h1 fun h18=>g2 17 18 (jb (decide (x1 > x2))) h17 h18 fun h19=>gq (.nsq (zk h19 h (fun h=>?_) (fun h=>?_))))))))
 · refine .seq (rg (g0 (ji 1) fun h4=>gq (.nsq (.ret ?_))))
   obtain rfl:=oi h
   exact rrA (zl h4) rfl
 refine .skip (.nsq (.seq (rg (g0 (ji 0) fun h4=>gq (.nsq (.ret ?_))))))
 obtain rfl:=oi h
 exact rrA (zl h4) rfl
end
def e65 (F:Nat):Ent:=ent 65 (fun (x:(Int×Int×Unit))=>wP F x.1 x.2.1) (fun (r:Int)=>(Enc.enc (r:Int))) 0 false []
abbrev C65 (D:List V→Option V) (F:Nat):Prop:=∀ (x0:Int) (x1:Int) r,wP F x0 x1=some r→D [Enc.enc x0,Enc.enc x1]=some (Enc.enc (r:Int))
theorem p65 {F:Nat}:C65 (e65 F).den F:=fun x0 x1 _ h=>zR (x0,x1,()) h
theorem o65 (hF:zw Try.prog D σ) (H:H65 D σ F):(e65 F).Ok Try.prog:=okZ (f:=65) Try.func65 fun ⟨x0,x1,_⟩ y hy=>cR hF Try.func65 c65 (t65 H x0 x1 _ ⟨rfl,rfl⟩ hy)
def zpn:AC:=(.cond (.t 19) (.seq (rr [jv 4 (.mov (jn 1))]) .ret) .skip)
def zqH:AC:=(.cond (.t 28) (.seq (rr [jm 29 8,jm 4 29]) .ret) .skip)
def zpg:AC:=(.seq (rr [jm 27 8,jv 28 (.bin .neq (.t 27) (jn 0))]) zqH)
def zsL:AC:=(.seq (rr [jm 24 6,jm 25 7,jx 26 (.call (jf 65) [.t 24,.t 25]),jm 8 26]) zpg)
def zsF:AC:=(.seq (rr [jm 20 1,jm 21 5,jv 22 (.idx (.t 20) (.t 21) 1),jl 23 22,jm 7 23]) zsL)
def zoQ:AC:=(.seq (.seq (rr [jm 16 5,jm 17 1,jk 18 17,jv 19 (.bin .geq (.t 16) (.t 18))]) zpn) zsF)
def zlJ:AC:=(rr [jv 30 (.bin .add (.t 11) (jn 1)),jm 11 30])
def zpP:AC:=(.seq (.block 1 (.seq (rr [jm 13 11,jv 14 (.idx (.t 9) (.t 11) 1),jl 15 14,jm 5 13,jm 6 15]) zoQ)) zlJ)
def zn2:AC:=(.seq (.cond (.t 12) .skip (.exit 0)) zpP)
def zgp:AC:=(.seq (rr [jv 12 (.bin .lss (.t 11) (.t 10))]) zn2)
def zmy:AC:=(.cond (.t 35) (.seq (rr [jv 4 (.mov (jn (-1)))]) .ret) .skip)
def znq:AC:=(.seq (rr [jv 4 (.mov (jn 0))]) .ret)
def zhp:AC:=(.seq (.seq (rr [jm 31 0,jk 32 31,jm 33 1,jk 34 33,jv 35 (.bin .lss (.t 32) (.t 34))]) zmy) znq)
def znt:AC:=(.block 0 (.loop zgp))
def zmi:AC:=(.seq (.seq (rr [jm 9 0,jk 10 9,jv 11 (.mov (jn 0))]) znt) zhp)
def A38:AC:=(.seq (rr [jv 4 (.mov (jn 0))]) zmi)
def zuF:List An:=[]
theorem c38:cq Try.prog Try.f38 zuF=some A38:=by kernel_rfl
structure H38 (D:Den) (σ:Sig) (F:Nat):Prop where
 c65:C65 (D 65) F
 g65:σ 65=some (0,false)
abbrev R38 (r:Int):(Nat→V)→Prop:=RR Try.prog [.tmp 4] 0 false (Enc.enc (r:Int))
section
variable {r:Int}
def vw (F:Nat) (x1:LI) (x2:LI) :Nat→Int→Option Int
 | 0,_=>none
 | k + 1,x6=>
   bif decide (x6 < (x1.length:Int)) then
    (idx x1 x6).bind fun v10=>
    bif decide (x6≥(x2.length:Int)) then
     some 1
    else
     (idx x2 x6).bind fun v11=>
     (wP F v10 v11).bind fun r12=>
     bif (r12 != 0) then
      some r12
     else
      (vw F x1 x2 k) (w64 (x6 + 1))
   else
    bif decide ((x1.length:Int) < (x2.length:Int)) then
     some (-1)
    else
     some 0
theorem zgX (H:H38 D σ F) (x1:LI) (x2:LI) :∀ (k:Nat) (x6:Int) (s:Nat→V),zr [(0,eL x1),(1,eL x2),(4,ji 0),(9,eL x1),(10,ji (x1.length:Int)),(11,ji x6)] s→vw F x1 x2 k x6=some r→Run D σ (R38 r) (.run zgp [.lp zgp,.bk 0,.sq zhp]) s:=by
 intro k
 induction k with
 | zero=>intro x6 s _ h;exact nm h
 | succ k ih=>
   intro x6 s hs h
   rw [vw] at h
   obtain ⟨h0,h1,h4,h9,h10,h11⟩:=hs
   refine .seq (rg (g2 11 10 (jb (decide (x6 < (x1.length:Int)))) h11 h10 fun h12=>gq (.nsq (.seq (zk h12 h (fun h=>?_) (fun h=>?_))))))
   · refine .skip (.nsq (.seq (.block (.seq (rg (gm h11 fun h13=>?_))))))
     obtain ⟨v10,Ev10,h⟩:=zb h
     refine gv (.ref .sh 0 [] (ji v10)) (yn (t:=.sh) (lo:=0) (xs:=x1) h9 h11 Ev10 rfl rfl) fun h14=>g1 14 (ji v10) h14 fun h15=>gm h13 fun h5=>gm h15 fun h6=>gq (.nsq (.seq (.seq (rg (gm h5 fun h16=>gm h1 fun h17=>gl x2 h17 fun h18=>g2 16 18 (jb (decide (x6≥(x2.length:Int)))) h16 h18 fun h19=>gq (.nsq (zk h19 h (fun h=>?_) (fun h=>?_))))))))
     · refine .seq (rg (g0 (ji 1) fun h4=>gq (.nsq (.ret ?_))))
       obtain rfl:=oi h
       exact rrA (zl h4) rfl
     refine .skip (.nsq (.seq (rg (gm h1 fun h20=>gm h5 fun h21=>?_))))
     obtain ⟨v11,Ev11,h⟩:=zb h
     refine gv (.ref .sh 0 [] (ji v11)) (yn (t:=.sh) (lo:=0) (xs:=x2) h20 h21 Ev11 rfl rfl) fun h22=>g1 22 (ji v11) h22 fun h23=>gm h23 fun h7=>gq (.nsq (.seq (rg (gm h6 fun h24=>gm h7 fun h25=>?_))))
     obtain ⟨r12,Er12,h⟩:=zb h
     refine gcF [Enc.enc (v10:Int),Enc.enc (v11:Int)] (zg h24 rfl rfl (zg h25 rfl rfl zF)) (H.c65 _ _ _ Er12) H.g65 (gm (rf (ji r12)) fun h8=>gq (.nsq (.seq (rg (gm h8 fun h27=>g1 27 (jb (r12 != 0)) h27 fun h28=>gq (.nsq (zk h28 h (fun h=>?_) (fun h=>?_))))))))
     · refine .seq (rg (gm h8 fun h29=>gm h29 fun h4=>gq (.nsq (.ret ?_))))
       obtain rfl:=oi h
       exact rrA (zl h4) rfl
     refine .skip (.nbk (.nsq (rg (g1 11 (ji (w64 (x6 + 1))) h11 fun h30=>gm h30 fun h11=>gq (.nlp ?_)))))
     exact ih (w64 (x6 + 1)) _ ⟨h0,h1,h4,h9,h10,h11⟩ h
   refine .exit (.esq (.elp (.ebk (.nsq (.seq (.seq (rg (gm h0 fun h31=>gl x1 h31 fun h32=>gm h1 fun h33=>gl x2 h33 fun h34=>g2 32 34 (jb (decide ((x1.length:Int) < (x2.length:Int)))) h32 h34 fun h35=>gq (.nsq (zk h35 h (fun h=>?_) (fun h=>?_)))))))))))
   · refine .seq (rg (g0 (ji (-1)) fun h4=>gq (.nsq (.ret ?_))))
     obtain rfl:=oi h
     exact rrA (zl h4) rfl
   refine .skip (.nsq (.seq (rg (g0 (ji 0) fun h4=>gq (.nsq (.ret ?_))))))
   obtain rfl:=oi h
   exact rrA (zl h4) rfl
def w4 (F:Nat) (x1:LI) (x2:LI):Option Int:=
 vw F x1 x2 F 0
theorem t38 (H:H38 D σ F) (x1:LI) (x2:LI) (s:Nat→V) (hs:zr [(0,eL x1),(1,eL x2)] s) (h:w4 F x1 x2=some r):Run D σ (R38 r) (.run A38 []) s:=by
 unfold w4 at h
 obtain ⟨h0,h1⟩:=hs
 refine .seq (rg (g0 (ji 0) fun h4=>gq (.nsq (.seq (.seq (rg (gm h0 fun h9=>gl x1 h9 fun h10=>g0 (ji 0) fun h11=>gq (.nsq (.block (.loop ?_))))))))))
 exact zgX H x1 x2 F 0 _ ⟨h0,h1,h4,h9,h10,h11⟩ h
end
def e38 (F:Nat):Ent:=ent 38 (fun (x:(LI×LI×Unit))=>w4 F x.1 x.2.1) (fun (r:Int)=>(Enc.enc (r:Int))) 0 false []
abbrev C38 (D:List V→Option V) (F:Nat):Prop:=∀ (x0:LI) (x1:LI) r,w4 F x0 x1=some r→D [Enc.enc x0,Enc.enc x1]=some (Enc.enc (r:Int))
theorem p38 {F:Nat}:C38 (e38 F).den F:=fun x0 x1 _ h=>zR (x0,x1,()) h
theorem o38 (hF:zw Try.prog D σ) (H:H38 D σ F):(e38 F).Ok Try.prog:=okZ (f:=38) Try.func38 fun ⟨x0,x1,_⟩ y hy=>cR hF Try.func38 c38 (t38 H x0 x1 _ ⟨rfl,rfl⟩ hy)
def zkW:AC:=(.cond (.t 48) (.seq (rr [jv 2 (.mov kf)]) .ret) .skip)
def zov:AC:=(.seq (rr [jv 17 (.idxA (.t 4) (jn 0) 2 1),jl 18 17,jv 19 (.bin .lss (.t 18) (jn 0)),jm 20 19,jg 21 20 false (.idxA (.t 4) (jn 0) 2 1),jg 22 20 false (.load .s (.t 21)),jg 23 20 false (.idxA (.t 4) (jn 1) 2 1),jg 24 20 false (.load .s (.t 23)),jg 25 20 false (.bin .geq (.t 22) (.t 24)),jv 26 (.pick (.t 20) kt (.t 25)),jm 27 26,jg 28 27 false (.idxA (.t 4) (jn 1) 2 1),jg 29 27 false (.load .s (.t 28)),jg 30 27 false (.fld (.t 1) 0 0),jg 31 27 false (.load .s (.t 30)),jg 32 27 false (.bin .geq (.t 29) (.t 31)),jv 33 (.pick (.t 27) kt (.t 32)),jm 34 33,jg 35 34 false (.mov (.t 3)),jg 36 34 false (.bin .gtr (.t 35) (jn 0)),jg 37 34 false (.mov (.t 36)),jg 38 37 true (.fld (.t 1) 1 1),jg 39 37 true (.load .p (.t 38)),jg 40 37 true (.mov (.t 3)),jg 41 37 true (.bin .sub (.t 40) (jn 1)),jg 42 37 true (.idx (.t 39) (.t 41) 2),jg 43 37 true (.sliceA (.t 42) 2 .s),jg 44 37 true (.sliceA (.t 4) 2 .s),.mk (some 45) (some (37,true)) false (.call (jf 38) [.t 43,.t 44]),jg 46 37 true (.bin .geq (.t 45) (jn 0)),jg 47 34 false (.pick (.t 37) (.t 46) kf),jv 48 (.pick (.t 34) kt (.t 47))]) zkW)
def zlk:AC:=(rr [jv 49 (.bin .add (.t 12) (jn 1)),jm 12 49])
def zo8:AC:=(.seq (.block 1 (.seq (.reg [.clr [4]] [jm 14 12,jv 15 (.idx (.t 10) (.t 12) 2),jv 16 (.load (.ag [.s,.s]) (.t 15)),jx 4 (.alloc (.agg [i0,i0])),jm 3 14,jz (.store (.ag [.s,.s]) (.t 4) (.t 16))] []) zov)) zlk)
def zrR:AC:=(.seq (.cond (.t 13) .skip (.exit 0)) zo8)
def Nn:AC:=(.seq (rr [jv 13 (.bin .lss (.t 12) (.t 11))]) zrR)
def zdM:AC:=(.seq (rr [jv 2 (.mov kt)]) .ret)
def zpp:AC:=(.cond (.t 8) (.seq (rr [jv 2 (.mov kf)]) .ret) .skip)
def znz:AC:=(.block 0 (.loop Nn))
def zmI:AC:=(.seq (.seq (rr [jv 9 (.fld (.t 1) 1 1),jv 10 (.load .p (.t 9)),jk 11 10,jv 12 (.mov (jn 0))]) znz) zdM)
def zpK:AC:=(.seq (.seq (rr [jv 5 (.fld (.t 1) 0 0),jl 6 5,jx 7 (.call (jf 37) [.t 6,jn 0,jn 8]),jv 8 (.un .not (.t 7))]) zpp) zmI)
def A20:AC:=(.seq (.reg [.clr [1]] [jx 1 (.box (.t 0)),jv 2 (.mov kf)] []) zpK)
def zux:List An:=[⟨0,[.clr [1]],[],[],[]⟩,⟨5,[.clr [4]],[],[],[]⟩]
theorem c20:cq Try.prog Try.f20 zux=some A20:=by kernel_rfl
structure H20 (D:Den) (σ:Sig) (F:Nat):Prop where
 c37:C37 (D 37) F
 g37:σ 37=some (0,false)
 c38:C38 (D 38) F
 g38:σ 38=some (0,false)
abbrev R20 (r:Bool):(Nat→V)→Prop:=RR Try.prog [.tmp 2] 0 false (Enc.enc (r:Bool))
section
variable {r:Bool}
def vB (F:Nat) (x1:GR) (x9:Int) (c1:Int→Option Bool) (x19:Bool):Option Bool:=
 bif x19 then
  some false
 else
  c1 (w64 (x9 + 1))
theorem UN (H:H20 D σ F) (x1:GR) (x9:Int) (c1:Int→Option Bool) (Hc1:∀ (x9:Int) (s:Nat→V),zr [(1,bG 1 x1),(2,jb false),(10,eP x1.2),(11,ji (x1.2.length:Int)),(12,ji x9)] s→c1 x9=some r→Run D σ (R20 r) (.run Nn [.lp Nn,.bk 0,.sq zdM]) s) (x19:Bool) (s:Nat→V) (hs:zr [(1,bG 1 x1),(2,jb false),(10,eP x1.2),(11,ji (x1.2.length:Int)),(12,ji x9),(48,jb x19)] s) (h:vB F x1 x9 c1 x19=some r):Run D σ (R20 r) (.nrm [.sq zkW,.bk 1,.sq zlk,.lp Nn,.bk 0,.sq zdM]) s:=by
 unfold vB at h
 obtain ⟨h1,h2,h10,h11,h12,h48⟩:=hs
 refine .nsq (zk h48 h (fun h=>?_) (fun h=>?_))
 · refine .seq (rg (g0 (jb false) fun h2=>gq (.nsq (.ret ?_))))
   obtain rfl:=oi h
   exact rrA (zl h2) rfl
 refine .skip (.nbk (.nsq (rg (g1 12 (ji (w64 (x9 + 1))) h12 fun h49=>gm h49 fun h12=>gq (.nlp ?_)))))
 exact Hc1 (w64 (x9 + 1)) _ ⟨h1,h2,h10,h11,h12⟩ h
def y2 (F:Nat) (x1:GR) :Nat→Int→Option Bool
 | 0,_=>none
 | k + 1,x9=>
   bif decide (x9 < (x1.2.length:Int)) then
    (idx x1.2 x9).bind fun v16=>
    bif decide (v16.1 < 0) then
     vB F x1 x9 (y2 F x1 k) true
    else
     bif decide (v16.1≥v16.2) then
      vB F x1 x9 (y2 F x1 k) true
     else
      bif decide (v16.2≥x1.1) then
       vB F x1 x9 (y2 F x1 k) true
      else
       bif decide (x9 > 0) then
        (idx x1.2 (w64 (x9 - 1))).bind fun v20=>
        (w4 F [v20.1,v20.2] [v16.1,v16.2]).bind fun r21=>
        vB F x1 x9 (y2 F x1 k) (decide (r21≥0))
       else
        vB F x1 x9 (y2 F x1 k) false
   else
    some true
theorem zh4 (H:H20 D σ F) (x1:GR) :∀ (k:Nat) (x9:Int) (s:Nat→V),zr [(1,bG 1 x1),(2,jb false),(10,eP x1.2),(11,ji (x1.2.length:Int)),(12,ji x9)] s→y2 F x1 k x9=some r→Run D σ (R20 r) (.run Nn [.lp Nn,.bk 0,.sq zdM]) s:=by
 intro k
 induction k with
 | zero=>intro x9 s _ h;exact nm h
 | succ k ih=>
   intro x9 s hs h
   rw [y2] at h
   obtain ⟨h1,h2,h10,h11,h12⟩:=hs
   refine .seq (rg (g2 12 11 (jb (decide (x9 < (x1.2.length:Int)))) h12 h11 fun h13=>gq (.nsq (.seq (zk h13 h (fun h=>?_) (fun h=>?_))))))
   · refine .skip (.nsq (.seq (.block (.seq (zC (ye ?_))))))
     refine ez [(1,_),(2,_),(4,_),(10,_),(11,_),(12,_)] ⟨za h1 rfl (zi rfl mIE),za h2 rfl mb,ze rfl,za h10 rfl me,za h11 rfl mi,za h12 rfl mi⟩ ?_
     rintro s ⟨h1,h2,h4,h10,h11,h12⟩
     refine gm h12 fun h14=>?_
     obtain ⟨v16,Ev16,h⟩:=zb h
     refine gv (.ref .sh 0 [] (.agg [ji v16.1,ji v16.2])) (yn (t:=.sh) (lo:=0) (xs:=x1.2) h10 h12 Ev16 rfl rfl) fun h15=>g1 15 (.agg [ji v16.1,ji v16.2]) h15 fun h16=>xN h4 (gm h14 fun h3=>yo (.agg [ji v16.1,ji v16.2]) (zI rfl rfl) (zI h16 rfl) (wo (by first | rfl | simp [V.toks,V.tokss,Enc.toks_enc,ym])) (gz [(1,bG 1 x1),(2,jb false),(3,ji x9),(4,.ref (.bx 4) 0 [] (.agg [ji v16.1,ji v16.2])),(10,eP x1.2),(11,ji (x1.2.length:Int)),(12,ji x9)] ⟨zd h1 (zO rfl rfl uIE),zd h2 rfl,zd h3 rfl,zd rfl rfl,zd h10 uE,zd h11 rfl,zd h12 rfl⟩ ?_))
     rintro s ⟨h1,h2,h3,h4,h10,h11,h12⟩
     refine .nsq (.seq (rg (g1 4 (.ref (.bx 4) 0 [0] (ji v16.1)) h4 fun h17=>g1 17 (ji v16.1) h17 fun h18=>g1 18 (jb (decide (v16.1 < 0))) h18 fun h19=>gm h19 fun h20=>z6 h (fun hg4 h=>?_) (fun hg4 h=>?_))))
     · iterate 5 refine yJ (ct h20 hg4) ?_
       refine g2 20 25 (jb true) (ct h20 hg4) (rf (.tup [])) fun h26=>gm h26 fun h27=>yJ h27 ?_
       iterate 4 refine yJ h27 ?_
       refine g2 27 32 (jb true) h27 (rf (.tup [])) fun h33=>gm h33 fun h34=>yJ h34 ?_
       iterate 2 refine yJ h34 ?_
       iterate 9 refine Wf rfl ?_
       refine yJ h34 (g2 34 47 (jb true) h34 (rf (.tup [])) fun h48=>gz [(1,_),(2,_),(10,_),(11,_),(12,_),(48,_)] ⟨h1,h2,h10,h11,h12,h48⟩ ?_)
       rintro s ⟨h1,h2,h10,h11,h12,h48⟩
       exact UN H x1 x9 (y2 F x1 k) ih true _ ⟨h1,h2,h10,h11,h12,h48⟩ h
     refine zo (ct h20 hg4) (g1 4 (.ref (.bx 4) 0 [0] (ji v16.1)) h4 fun h21=>zo (ct h20 hg4) (g1 21 (ji v16.1) h21 fun h22=>zo (ct h20 hg4) (g1 4 (.ref (.bx 4) 0 [1] (ji v16.2)) h4 fun h23=>zo (ct h20 hg4) (g1 23 (ji v16.2) h23 fun h24=>zo (ct h20 hg4) (g2 22 24 (jb (decide (v16.1≥v16.2))) h22 h24 fun h25=>g2 20 25 (jb (decide (v16.1≥v16.2))) (ct h20 hg4) h25 fun h26=>gm h26 fun h27=>z6 h (fun hg11 h=>?_) (fun hg11 h=>?_))))))
     · iterate 5 refine yJ (ct h27 hg11) ?_
       refine g2 27 32 (jb true) (ct h27 hg11) (rf (.tup [])) fun h33=>gm h33 fun h34=>yJ h34 ?_
       iterate 2 refine yJ h34 ?_
       iterate 9 refine Wf rfl ?_
       refine yJ h34 (g2 34 47 (jb true) h34 (rf (.tup [])) fun h48=>gz [(1,_),(2,_),(10,_),(11,_),(12,_),(48,_)] ⟨h1,h2,h10,h11,h12,h48⟩ ?_)
       rintro s ⟨h1,h2,h10,h11,h12,h48⟩
       exact UN H x1 x9 (y2 F x1 k) ih true _ ⟨h1,h2,h10,h11,h12,h48⟩ h
     refine zo (ct h27 hg11) (g1 4 (.ref (.bx 4) 0 [1] (ji v16.2)) h4 fun h28=>zo (ct h27 hg11) (g1 28 (ji v16.2) h28 fun h29=>zo (ct h27 hg11) (g1 1 (.ref (.bx 1) 0 [0] (ji x1.1)) h1 fun h30=>zo (ct h27 hg11) (g1 30 (ji x1.1) h30 fun h31=>zo (ct h27 hg11) (g2 29 31 (jb (decide (v16.2≥x1.1))) h29 h31 fun h32=>g2 27 32 (jb (decide (v16.2≥x1.1))) (ct h27 hg11) h32 fun h33=>gm h33 fun h34=>z6 h (fun hg18 h=>?_) (fun hg18 h=>?_))))))
     · iterate 3 refine yJ (ct h34 hg18) ?_
       iterate 9 refine Wf rfl ?_
       refine yJ (ct h34 hg18) (g2 34 47 (jb true) (ct h34 hg18) (rf (.tup [])) fun h48=>gz [(1,_),(2,_),(10,_),(11,_),(12,_),(48,_)] ⟨h1,h2,h10,h11,h12,h48⟩ ?_)
       rintro s ⟨h1,h2,h10,h11,h12,h48⟩
       exact UN H x1 x9 (y2 F x1 k) ih true _ ⟨h1,h2,h10,h11,h12,h48⟩ h
     refine zo (ct h34 hg18) (gm h3 fun h35=>zo (ct h34 hg18) (g1 35 (jb (decide (x9 > 0))) h35 fun h36=>zo (ct h34 hg18) (gm h36 fun h37=>z6 h (fun hg21 h=>?_) (fun hg21 h=>?_))))
     · refine zo (ct h37 hg21) (g1 1 (.ref (.bx 1) 0 [1] (eP x1.2)) h1 fun h38=>zo (ct h37 hg21) (g1 38 (eP x1.2) h38 fun h39=>zo (ct h37 hg21) (gm h3 fun h40=>zo (ct h37 hg21) (g1 40 (ji (w64 (x9 - 1))) h40 fun h41=>?_))))
       obtain ⟨v20,Ev20,h⟩:=zb h
       refine zo (ct h37 hg21) (gv (.ref .sh 0 [] (.agg [ji v20.1,ji v20.2])) (yn (t:=.sh) (lo:=0) (xs:=x1.2) h39 h41 Ev20 rfl rfl) fun h42=>zo (ct h37 hg21) (g1 42 (eL [v20.1,v20.2]) h42 fun h43=>zo (ct h37 hg21) (g1 4 (zm (.bx 4) (.of ([v16.1,v16.2]:LI))) h4 fun h44=>?_)))
       obtain ⟨r21,Er21,h⟩:=zb h
       refine zo (ct h37 hg21) (gcF [Enc.enc ([v20.1,v20.2]:LI),Enc.enc ([v16.1,v16.2]:LI)] (zg h43 rfl (Enc.erase_enc ([v20.1,v20.2]:LI)) (zg h44 rfl (ZJ (o:=.of [v16.1,v16.2])) zF)) (H.c38 _ _ _ Er21) H.g38 (zo (ct h37 hg21) (g1 45 (jb (decide (r21≥0))) (rf (ji r21)) fun h46=>zo (ct h34 hg18) (g2 37 46 (jb (decide (r21≥0))) (ct h37 hg21) h46 fun h47=>g2 34 47 (jb (decide (r21≥0))) (ct h34 hg18) h47 fun h48=>gz [(1,_),(2,_),(10,_),(11,_),(12,_),(48,_)] ⟨h1,h2,h10,h11,h12,h48⟩ ?_))))
       rintro s ⟨h1,h2,h10,h11,h12,h48⟩
       exact UN H x1 x9 (y2 F x1 k) ih (decide (r21≥0)) _ ⟨h1,h2,h10,h11,h12,h48⟩ h
     iterate 9 refine yJ (ct h37 hg21) ?_
     refine zo (ct h34 hg18) (g2 37 46 (jb false) (ct h37 hg21) (rf (.tup [])) fun h47=>g2 34 47 (jb false) (ct h34 hg18) h47 fun h48=>gz [(1,_),(2,_),(10,_),(11,_),(12,_),(48,_)] ⟨h1,h2,h10,h11,h12,h48⟩ ?_)
     rintro s ⟨h1,h2,h10,h11,h12,h48⟩
     exact UN H x1 x9 (y2 F x1 k) ih false _ ⟨h1,h2,h10,h11,h12,h48⟩ h
   refine .exit (.esq (.elp (.ebk (.nsq (.seq (rg (g0 (jb true) fun h2=>gq (.nsq (.ret ?_)))))))))
   obtain rfl:=oi h
   exact rrA (zl h2) rfl
def wW (F:Nat) (x1:GR):Option Bool:=
 (YP F x1.1 0 8).bind fun r2=>
 bif (!r2) then
  some false
 else
  y2 F x1 F 0
theorem t20 (H:H20 D σ F) (x1:GR) (s:Nat→V) (hs:zr [(0,gV x1)] s) (h:wW F x1=some r):Run D σ (R20 r) (.run A20 []) s:=by
 unfold wW at h
 have h0:=hs
 refine .seq (zC (ye ?_))
 refine ez [(0,_),(1,_)] ⟨za h0 rfl mIE,ze rfl⟩ ?_
 rintro s ⟨h0,h1⟩
 refine wa (gV x1) (zI h0 rfl) h1 rfl (g0 (jb false) fun h2=>gq (.nsq (.seq (.seq (rg (g1 1 (.ref (.bx 1) 0 [0] (ji x1.1)) (rf (bG 1 x1)) fun h5=>g1 5 (ji x1.1) h5 fun h6=>?_))))))
 obtain ⟨r2,Er2,h⟩:=zb h
 refine gcF [Enc.enc (x1.1:Int),Enc.enc (0:Int),Enc.enc (8:Int)] (zg h6 rfl rfl (zg (v:=ji 0) rfl rfl rfl (zg (v:=ji 8) rfl rfl rfl zF))) (H.c37 _ _ _ _ Er2) H.g37 (g1 7 (jb (!r2)) (rf (jb r2)) fun h8=>gq (.nsq (zk h8 h (fun h=>?_) (fun h=>?_))))
 · refine .seq (rg (g0 (jb false) fun h2=>gq (.nsq (.ret ?_))))
   obtain rfl:=oi h
   exact rrA (zl h2) rfl
 refine .skip (.nsq (.seq (.seq (rg (g1 1 (.ref (.bx 1) 0 [1] (eP x1.2)) (rf (bG 1 x1)) fun h9=>g1 9 (eP x1.2) h9 fun h10=>gl x1.2 h10 fun h11=>g0 (ji 0) fun h12=>gq (.nsq (.block (.loop ?_))))))))
 exact zh4 H x1 F 0 _ ⟨rfl,h2,h10,h11,h12⟩ h
end
def e20 (F:Nat):Ent:=ent 20 (fun (x:(GR×Unit))=>wW F x.1) (fun (r:Bool)=>(Enc.enc (r:Bool))) 0 false []
abbrev C20 (D:List V→Option V) (F:Nat):Prop:=∀ (x0:GR) r,wW F x0=some r→D [Enc.enc x0]=some (Enc.enc (r:Bool))
theorem p20 {F:Nat}:C20 (e20 F).den F:=fun x0 _ h=>zR (x0,()) h
theorem o20 (hF:zw Try.prog D σ) (H:H20 D σ F):(e20 F).Ok Try.prog:=okZ (f:=20) Try.func20 fun ⟨x0,_⟩ y hy=>cR hF Try.func20 c20 (t20 H x0 _ rfl hy)
def zoc:AC:=(.cond (.t 19) (.seq (rr [jv 6 (.mov kf)]) .ret) .skip)
def zsJ:AC:=(.seq (rr [jm 15 8,jm 16 1,jm 17 2,jx 18 (.call (jf 37) [.t 15,.t 16,.t 17]),jv 19 (.un .not (.t 18))]) zoc)
def znJ:AC:=(rr [jv 20 (.bin .add (.t 11) (jn 1)),jm 11 20])
def zq5:AC:=(.seq (.block 1 (.seq (rr [jv 13 (.idx (.t 9) (.t 11) 1),jl 14 13,jm 8 14]) zsJ)) znJ)
def zoN:AC:=(.seq (.cond (.t 12) .skip (.exit 0)) zq5)
def zgd:AC:=(.seq (rr [jv 12 (.bin .lss (.t 11) (.t 10))]) zoN)
def zkB:AC:=(.seq (rr [jv 6 (.mov kt)]) .ret)
def zou:AC:=(.block 0 (.loop zgd))
def zpY:AC:=(.seq (.seq (rr [jm 9 0,jk 10 9,jv 11 (.mov (jn 0))]) zou) zkB)
def A39:AC:=(.seq (rr [jv 6 (.mov kf)]) zpY)
def ztP:List An:=[]
theorem c39:cq Try.prog Try.f39 ztP=some A39:=by kernel_rfl
structure H39 (D:Den) (σ:Sig) (F:Nat):Prop where
 c37:C37 (D 37) F
 g37:σ 37=some (0,false)
abbrev R39 (r:Bool):(Nat→V)→Prop:=RR Try.prog [.tmp 6] 0 false (Enc.enc (r:Bool))
section
variable {r:Bool}
def xH (F:Nat) (x2:Int) (x3:Int) (x1:LI) :Nat→Int→Option Bool
 | 0,_=>none
 | k + 1,x6=>
   bif decide (x6 < (x1.length:Int)) then
    (idx x1 x6).bind fun v9=>
    (YP F v9 x2 x3).bind fun r10=>
    bif (!r10) then
     some false
    else
     (xH F x2 x3 x1 k) (w64 (x6 + 1))
   else
    some true
theorem zgf (H:H39 D σ F) (x2:Int) (x3:Int) (x1:LI) :∀ (k:Nat) (x6:Int) (s:Nat→V),zr [(1,ji x2),(2,ji x3),(6,jb false),(9,eL x1),(10,ji (x1.length:Int)),(11,ji x6)] s→xH F x2 x3 x1 k x6=some r→Run D σ (R39 r) (.run zgd [.lp zgd,.bk 0,.sq zkB]) s:=by
 intro k
 induction k with
 | zero=>intro x6 s _ h;exact nm h
 | succ k ih=>
   intro x6 s hs h
   rw [xH] at h
   obtain ⟨h1,h2,h6,h9,h10,h11⟩:=hs
   refine .seq (rg (g2 11 10 (jb (decide (x6 < (x1.length:Int)))) h11 h10 fun h12=>gq (.nsq (.seq (zk h12 h (fun h=>?_) (fun h=>?_))))))
   · refine .skip (.nsq (.seq (.block (.seq (rg ?_)))))
     obtain ⟨v9,Ev9,h⟩:=zb h
     refine gv (.ref .sh 0 [] (ji v9)) (yn (t:=.sh) (lo:=0) (xs:=x1) h9 h11 Ev9 rfl rfl) fun h13=>g1 13 (ji v9) h13 fun h14=>gm h14 fun h8=>gq (.nsq (.seq (rg (gm h8 fun h15=>gm h1 fun h16=>gm h2 fun h17=>?_))))
     obtain ⟨r10,Er10,h⟩:=zb h
     refine gcF [Enc.enc (v9:Int),Enc.enc (x2:Int),Enc.enc (x3:Int)] (zg h15 rfl rfl (zg h16 rfl rfl (zg h17 rfl rfl zF))) (H.c37 _ _ _ _ Er10) H.g37 (g1 18 (jb (!r10)) (rf (jb r10)) fun h19=>gq (.nsq (zk h19 h (fun h=>?_) (fun h=>?_))))
     · refine .seq (rg (g0 (jb false) fun h6=>gq (.nsq (.ret ?_))))
       obtain rfl:=oi h
       exact rrA (zl h6) rfl
     refine .skip (.nbk (.nsq (rg (g1 11 (ji (w64 (x6 + 1))) h11 fun h20=>gm h20 fun h11=>gq (.nlp ?_)))))
     exact ih (w64 (x6 + 1)) _ ⟨h1,h2,h6,h9,h10,h11⟩ h
   refine .exit (.esq (.elp (.ebk (.nsq (.seq (rg (g0 (jb true) fun h6=>gq (.nsq (.ret ?_)))))))))
   obtain rfl:=oi h
   exact rrA (zl h6) rfl
def vp (F:Nat) (x1:LI) (x2:Int) (x3:Int):Option Bool:=
 xH F x2 x3 x1 F 0
theorem t39 (H:H39 D σ F) (x1:LI) (x2:Int) (x3:Int) (s:Nat→V) (hs:zr [(0,eL x1),(1,ji x2),(2,ji x3)] s) (h:vp F x1 x2 x3=some r):Run D σ (R39 r) (.run A39 []) s:=by
 unfold vp at h
 obtain ⟨h0,h1,h2⟩:=hs
 refine .seq (rg (g0 (jb false) fun h6=>gq (.nsq (.seq (.seq (rg (gm h0 fun h9=>gl x1 h9 fun h10=>g0 (ji 0) fun h11=>gq (.nsq (.block (.loop ?_))))))))))
 exact zgf H x2 x3 x1 F 0 _ ⟨h1,h2,h6,h9,h10,h11⟩ h
end
def e39 (F:Nat):Ent:=ent 39 (fun (x:(LI×Int×Int×Unit))=>vp F x.1 x.2.1 x.2.2.1) (fun (r:Bool)=>(Enc.enc (r:Bool))) 0 false []
abbrev C39 (D:List V→Option V) (F:Nat):Prop:=∀ (x0:LI) (x1:Int) (x2:Int) r,vp F x0 x1 x2=some r→D [Enc.enc x0,Enc.enc x1,Enc.enc x2]=some (Enc.enc (r:Bool))
theorem p39 {F:Nat}:C39 (e39 F).den F:=fun x0 x1 x2 _ h=>zR (x0,x1,x2,()) h
theorem o39 (hF:zw Try.prog D σ) (H:H39 D σ F):(e39 F).Ok Try.prog:=okZ (f:=39) Try.func39 fun ⟨x0,x1,x2,_⟩ y hy=>cR hF Try.func39 c39 (t39 H x0 x1 x2 _ ⟨rfl,rfl,rfl⟩ hy)
def zob:AC:=(rr [jm 12 3,jm 13 5,jv 14 (.bin .shl (jn 1) (.t 13)),jv 15 (.bin .or (.t 12) (.t 14)),jm 3 15])
def znG:AC:=(rr [jv 16 (.bin .add (.t 8) (jn 1)),jm 8 16])
def zoC:AC:=(.seq (.block 1 (.seq (rr [jv 10 (.idx (.t 6) (.t 8) 1),jl 11 10,jm 5 11]) zob)) znG)
def zqC:AC:=(.seq (.cond (.t 9) .skip (.exit 0)) zoC)
def zgw:AC:=(.seq (rr [jv 9 (.bin .lss (.t 8) (.t 7))]) zqC)
def zlg:AC:=(.seq (rr [jm 17 3,jm 2 17]) .ret)
def zsr:AC:=(.block 0 (.loop zgw))
def zp2:AC:=(.seq (.seq (rr [jm 6 0,jk 7 6,jv 8 (.mov (jn 0))]) zsr) zlg)
def zoS:AC:=(.seq (rr [jv 3 (.mov (jn 0))]) zp2)
def A40:AC:=(.seq (rr [jv 2 (.mov (jn 0))]) zoS)
def zuH:List An:=[]
theorem c40:cq Try.prog Try.f40 zuH=some A40:=by kernel_rfl
structure H40 (D:Den) (σ:Sig) (F:Nat):Prop where
 mk ::
abbrev R40 (r:Int):(Nat→V)→Prop:=RR Try.prog [.tmp 2] 0 false (Enc.enc (r:Int))
section
variable {r:Int}
def ub (F:Nat) (x1:LI) :Nat→Int→Int→Option Int
 | 0,_,_=>none
 | k + 1,x4,x5=>
   bif decide (x5 < (x1.length:Int)) then
    (idx x1 x5).bind fun v8=>
    (UE .i64 1 v8).bind fun q9=>
    (ub F x1 k) (ior .i64 x4 q9) (w64 (x5 + 1))
   else
    some x4
theorem zhN (H:H40 D σ F) (x1:LI) :∀ (k:Nat) (x4:Int) (x5:Int) (s:Nat→V),zr [(2,ji 0),(3,ji x4),(6,eL x1),(7,ji (x1.length:Int)),(8,ji x5)] s→ub F x1 k x4 x5=some r→Run D σ (R40 r) (.run zgw [.lp zgw,.bk 0,.sq zlg]) s:=by
 intro k
 induction k with
 | zero=>intro x4 x5 s _ h;exact nm h
 | succ k ih=>
   intro x4 x5 s hs h
   rw [ub] at h
   obtain ⟨h2,h3,h6,h7,h8⟩:=hs
   refine .seq (rg (g2 8 7 (jb (decide (x5 < (x1.length:Int)))) h8 h7 fun h9=>gq (.nsq (.seq (zk h9 h (fun h=>?_) (fun h=>?_))))))
   · refine .skip (.nsq (.seq (.block (.seq (rg ?_)))))
     obtain ⟨v8,Ev8,h⟩:=zb h
     refine gv (.ref .sh 0 [] (ji v8)) (yn (t:=.sh) (lo:=0) (xs:=x1) h6 h8 Ev8 rfl rfl) fun h10=>g1 10 (ji v8) h10 fun h11=>gm h11 fun h5=>gq (.nsq (rg (gm h3 fun h12=>gm h5 fun h13=>?_)))
     obtain ⟨q9,Eq9,h⟩:=zb h
     refine gv (ji q9) (XE rfl h13 Eq9) fun h14=>g2 12 14 (ji (ior .i64 x4 q9)) h12 h14 fun h15=>gm h15 fun h3=>gq (.nbk (.nsq (rg (g1 8 (ji (w64 (x5 + 1))) h8 fun h16=>gm h16 fun h8=>gq (.nlp ?_)))))
     exact ih (ior .i64 x4 q9) (w64 (x5 + 1)) _ ⟨h2,h3,h6,h7,h8⟩ h
   refine .exit (.esq (.elp (.ebk (.nsq (.seq (rg (gm h3 fun h17=>gm h17 fun h2=>gq (.nsq (.ret ?_)))))))))
   obtain rfl:=oi h
   exact rrA (zl h2) rfl
def XB (F:Nat) (x1:LI):Option Int:=
 ub F x1 F 0 0
theorem t40 (H:H40 D σ F) (x1:LI) (s:Nat→V) (hs:zr [(0,eL x1)] s) (h:XB F x1=some r):Run D σ (R40 r) (.run A40 []) s:=by
 unfold XB at h
 have h0:=hs
 refine .seq (rg (g0 (ji 0) fun h2=>gq (.nsq (.seq (rg (g0 (ji 0) fun h3=>gq (.nsq (.seq (.seq (rg (gm h0 fun h6=>gl x1 h6 fun h7=>g0 (ji 0) fun h8=>gq (.nsq (.block (.loop ?_))))))))))))))
 exact zhN H x1 F 0 0 _ ⟨h2,h3,h6,h7,h8⟩ h
end
def e40 (F:Nat):Ent:=ent 40 (fun (x:(LI×Unit))=>XB F x.1) (fun (r:Int)=>(Enc.enc (r:Int))) 0 false []
abbrev C40 (D:List V→Option V) (F:Nat):Prop:=∀ (x0:LI) r,XB F x0=some r→D [Enc.enc x0]=some (Enc.enc (r:Int))
theorem p40 {F:Nat}:C40 (e40 F).den F:=fun x0 _ h=>zR (x0,()) h
theorem o40 (hF:zw Try.prog D σ) (H:H40 D σ F):(e40 F).Ok Try.prog:=okZ (f:=40) Try.func40 fun ⟨x0,_⟩ y hy=>cR hF Try.func40 c40 (t40 H x0 _ rfl hy)
def zqy:AC:=(.seq (rr [jm 5 1,jk 6 5,jv 7 (.fld (.t 2) 0 0),jl 8 7,jv 9 (.bin .eql (.t 6) (.t 8)),jm 10 9,jg 11 10 true (.mov (.t 1)),jg 12 10 true (.fld (.t 2) 0 0),jg 13 10 true (.load .s (.t 12)),jg 14 10 true (.bin .sub (.t 13) (jn 1)),.mk (some 15) (some (10,true)) false (.call (jf 39) [.t 11,jn 0,.t 14]),jv 16 (.pick (.t 10) (.t 15) kf),jm 17 16,jg 18 17 true (.mov (.t 1)),.mk (some 19) (some (17,true)) false (.call (jf 40) [.t 18]),jg 20 17 true (.fld (.t 2) 0 0),jg 21 17 true (.load .s (.t 20)),jg 22 17 true (.bin .shl (jn 1) (.t 21)),jg 23 17 true (.bin .sub (.t 22) (jn 1)),jg 24 17 true (.bin .eql (.t 19) (.t 23)),jv 25 (.pick (.t 17) (.t 24) kf),jm 4 25]) .ret)
def A21:AC:=(.seq (.reg [.clr [2]] [jx 2 (.box (.t 0)),jv 4 (.mov kf)] []) zqy)
def ztF:List An:=[⟨0,[.clr [2]],[],[],[]⟩]
theorem c21:cq Try.prog Try.f21 ztF=some A21:=by kernel_rfl
structure H21 (D:Den) (σ:Sig) (F:Nat):Prop where
 c39:C39 (D 39) F
 g39:σ 39=some (0,false)
 c40:C40 (D 40) F
 g40:σ 40=some (0,false)
abbrev R21 (r:Bool):(Nat→V)→Prop:=RR Try.prog [.tmp 4] 0 false (Enc.enc (r:Bool))
section
variable {r:Bool}
def Zg (F:Nat) (x1:GR) (x2:LI):Option Bool:=
 bif ((x2.length:Int) == x1.1) then
  (vp F x2 0 (w64 (x1.1 - 1))).bind fun r3=>
  bif r3 then
   (XB F x2).bind fun r4=>
   (UE .i64 1 x1.1).bind fun q5=>
   some (r4 == (w64 (q5 - 1)))
  else
   some false
 else
  some false
theorem t21 (H:H21 D σ F) (x1:GR) (x2:LI) (s:Nat→V) (hs:zr [(0,gV x1),(1,eL x2)] s) (h:Zg F x1 x2=some r):Run D σ (R21 r) (.run A21 []) s:=by
 unfold Zg at h
 obtain ⟨h0,h1⟩:=hs
 refine .seq (zC (ye ?_))
 refine ez [(0,_),(1,_),(2,_)] ⟨za h0 rfl mIE,za h1 rfl me,ze rfl⟩ ?_
 rintro s ⟨h0,h1,h2⟩
 refine wa (gV x1) (zI h0 rfl) h2 rfl (g0 (jb false) fun h4=>gq (.nsq (.seq (rg (gm h1 fun h5=>gl x2 h5 fun h6=>g1 2 (.ref (.bx 2) 0 [0] (ji x1.1)) (rf (bG 2 x1)) fun h7=>g1 7 (ji x1.1) h7 fun h8=>g2 6 8 (jb ((x2.length:Int) == x1.1)) h6 h8 fun h9=>gm h9 fun h10=>z6 h (fun hg6 h=>?_) (fun hg6 h=>?_))))))
 · refine zo (ct h10 hg6) (gm h1 fun h11=>zo (ct h10 hg6) (g1 2 (.ref (.bx 2) 0 [0] (ji x1.1)) (rf (bG 2 x1)) fun h12=>zo (ct h10 hg6) (g1 12 (ji x1.1) h12 fun h13=>zo (ct h10 hg6) (g1 13 (ji (w64 (x1.1 - 1))) h13 fun h14=>?_))))
   obtain ⟨r3,Er3,h⟩:=zb h
   refine zo (ct h10 hg6) (gcF [eL x2,Enc.enc (0:Int),Enc.enc (w64 (x1.1 - 1):Int)] (zg h11 rfl (Enc.erase_enc (x2:LI)) (zg (v:=ji 0) rfl rfl rfl (zg h14 rfl rfl zF))) (H.c39 _ _ _ _ Er3) H.g39 (g2 10 15 (jb r3) (ct h10 hg6) (rf (jb r3)) fun h16=>gm h16 fun h17=>z6 h (fun hg13 h=>?_) (fun hg13 h=>?_)))
   · refine zo (ct h17 hg13) (gm h1 fun h18=>?_)
     obtain ⟨r4,Er4,h⟩:=zb h
     refine zo (ct h17 hg13) (gcF [eL x2] (zg h18 rfl (Enc.erase_enc (x2:LI)) zF) (H.c40 _ _ Er4) H.g40 (zo (ct h17 hg13) (g1 2 (.ref (.bx 2) 0 [0] (ji x1.1)) (rf (bG 2 x1)) fun h20=>zo (ct h17 hg13) (g1 20 (ji x1.1) h20 fun h21=>?_))))
     obtain ⟨q5,Eq5,h⟩:=zb h
     refine zo (ct h17 hg13) (gv (ji q5) (XE rfl h21 Eq5) fun h22=>zo (ct h17 hg13) (g1 22 (ji (w64 (q5 - 1))) h22 fun h23=>zo (ct h17 hg13) (g2 19 23 (jb (r4 == (w64 (q5 - 1)))) (rf (ji r4)) h23 fun h24=>g2 17 24 (jb (r4 == (w64 (q5 - 1)))) (ct h17 hg13) h24 fun h25=>gm h25 fun h4=>gq (.nsq (.ret ?_)))))
     obtain rfl:=oi h
     exact rrA (zl h4) rfl
   iterate 7 refine yJ (ct h17 hg13) ?_
   refine g2 17 24 (jb false) (ct h17 hg13) (rf (.tup [])) fun h25=>gm h25 fun h4=>gq (.nsq (.ret ?_))
   obtain rfl:=oi h
   exact rrA (zl h4) rfl
 iterate 5 refine yJ (ct h10 hg6) ?_
 refine g2 10 15 (jb false) (ct h10 hg6) (rf (.tup [])) fun h16=>gm h16 fun h17=>yJ h17 ?_
 iterate 6 refine yJ h17 ?_
 refine g2 17 24 (jb false) h17 (rf (.tup [])) fun h25=>gm h25 fun h4=>gq (.nsq (.ret ?_))
 obtain rfl:=oi h
 exact rrA (zl h4) rfl
end
def e21 (F:Nat):Ent:=ent 21 (fun (x:(GR×LI×Unit))=>Zg F x.1 x.2.1) (fun (r:Bool)=>(Enc.enc (r:Bool))) 0 false []
abbrev C21 (D:List V→Option V) (F:Nat):Prop:=∀ (x0:GR) (x1:LI) r,Zg F x0 x1=some r→D [Enc.enc x0,Enc.enc x1]=some (Enc.enc (r:Bool))
theorem p21 {F:Nat}:C21 (e21 F).den F:=fun x0 x1 _ h=>zR (x0,x1,()) h
theorem o21 (hF:zw Try.prog D σ) (H:H21 D σ F):(e21 F).Ok Try.prog:=okZ (f:=21) Try.func21 fun ⟨x0,x1,_⟩ y hy=>cR hF Try.func21 c21 (t21 H x0 x1 _ ⟨rfl,rfl⟩ hy)
def zqU:AC:=(rr [jv 28 (.fld (.t 3) 0 0),jv 29 (.load .p (.t 28)),jv 30 (.idxA (.t 5) (jn 1) 2 1),jl 31 30,jv 32 (.idx (.t 29) (.t 31) 1),jl 33 32,jv 34 (.idxA (.t 5) (jn 0) 2 1),jl 35 34,jv 36 (.bin .shl (jn 1) (.t 35)),jv 37 (.bin .or (.t 33) (.t 36)),jv 38 (.idx (.t 29) (.t 31) 1),jz (.store .s (.t 38) (.t 37))])
def znR:AC:=(.seq (rr [jv 17 (.fld (.t 3) 0 0),jv 18 (.load .p (.t 17)),jv 19 (.idxA (.t 5) (jn 0) 2 1),jl 20 19,jv 21 (.idx (.t 18) (.t 20) 1),jl 22 21,jv 23 (.idxA (.t 5) (jn 1) 2 1),jl 24 23,jv 25 (.bin .shl (jn 1) (.t 24)),jv 26 (.bin .or (.t 22) (.t 25)),jv 27 (.idx (.t 18) (.t 20) 1),jz (.store .s (.t 27) (.t 26))]) zqU)
def zrd:AC:=(rr [jv 39 (.bin .add (.t 13) (jn 1)),jm 13 39])
def zrL:AC:=(.seq (.block 1 (.seq (.reg [.clr [5]] [jv 15 (.idx (.t 11) (.t 13) 2),jv 16 (.load (.ag [.s,.s]) (.t 15)),jx 5 (.alloc (.agg [i0,i0])),jz (.store (.ag [.s,.s]) (.t 5) (.t 16))] []) znR)) zrd)
def zsZ:AC:=(.seq (.cond (.t 14) .skip (.exit 0)) zrL)
def zgF:AC:=(.seq (rr [jv 14 (.bin .lss (.t 13) (.t 12))]) zsZ)
def zlf:AC:=(.seq (rr [jv 40 (.load (.ag [.p]) (.t 3)),jz (.store (.ag [.p]) (.t 2) (.t 40))]) .ret)
def zmZ:AC:=(.block 0 (.loop zgF))
def znO:AC:=(.seq (.seq (rr [jv 10 (.fld (.t 1) 1 1),jv 11 (.load .p (.t 10)),jk 12 11,jv 13 (.mov (jn 0))]) zmZ) zlf)
def zqZ:AC:=(.seq (.reg [.clr [8,3]] [jv 6 (.fld (.t 1) 0 0),jl 7 6,jx 8 (.mk (.t 7) i0 i0),jv 9 (.bld (.agg [.sl .nl .s 0 []]) [(0,0,.t 8)]),jx 3 (.alloc (.agg [.sl .nl .s 0 []])),jz (.store (.ag [.p]) (.t 3) (.t 9))] []) znO)
def A22:AC:=(.seq (.reg [.clr [1,2]] [jx 1 (.box (.t 0)),jx 2 (.alloc (.agg [.sl .nl .s 0 []]))] []) zqZ)
def ztZ:List An:=[⟨0,[.clr [1,2]],[],[],[]⟩,⟨1,[.clr [8,3]],[],[],[]⟩,⟨4,[.clr [5]],[],[],[]⟩]
theorem c22:cq Try.prog Try.f22 ztZ=some A22:=by kernel_rfl
structure H22 (D:Den) (σ:Sig) (F:Nat):Prop where
 mk ::
abbrev R22 (r:(S1 LI)):(Nat→V)→Prop:=RR Try.prog [.cell 2 49] 0 false (Enc.enc (r:(S1 LI)))
section
variable {r:(S1 LI)}
def ZN (F:Nat) (x1:GR) :Nat→LI→Int→Option (S1 LI)
 | 0,_,_=>none
 | k + 1,x10,x11=>
   bif decide (x11 < (x1.2.length:Int)) then
    (idx x1.2 x11).bind fun v19=>
    (idx x10 v19.1).bind fun v20=>
    (UE .i64 1 v19.2).bind fun q21=>
    (idx x10 v19.1).bind fun v22=>
    (idx (x10.set v19.1.toNat (ior .i64 v20 q21)) v19.2).bind fun v23=>
    (UE .i64 1 v19.1).bind fun q24=>
    (idx (x10.set v19.1.toNat (ior .i64 v20 q21)) v19.2).bind fun v25=>
    (ZN F x1 k) ((x10.set v19.1.toNat (ior .i64 v20 q21)).set v19.2.toNat (ior .i64 v23 q24)) (w64 (x11 + 1))
   else
    some (S1.mk x10)
theorem zgn (H:H22 D σ F) (x1:GR) :∀ (k:Nat) (x10:LI) (x11:Int) (s:Nat→V),zr [(2,.ref (.bx 2) 0 [] (.agg [nI])),(3,.ref (.bx 3) 0 [] (.agg [oI 8 [] (.of x10)])),(11,eP x1.2),(12,ji (x1.2.length:Int)),(13,ji x11)] s→ZN F x1 k x10 x11=some r→Run D σ (R22 r) (.run zgF [.lp zgF,.bk 0,.sq zlf]) s:=by
 intro k
 induction k with
 | zero=>intro x10 x11 s _ h;exact nm h
 | succ k ih=>
   intro x10 x11 s hs h
   rw [ZN] at h
   obtain ⟨h2,h3,h11,h12,h13⟩:=hs
   refine .seq (rg (g2 13 12 (jb (decide (x11 < (x1.2.length:Int)))) h13 h12 fun h14=>gq (.nsq (.seq (zk h14 h (fun h=>?_) (fun h=>?_))))))
   · refine .skip (.nsq (.seq (.block (.seq (zC (ye ?_))))))
     refine ez [(2,_),(3,_),(5,_),(11,_),(12,_),(13,_)] ⟨za h2 rfl (zi rfl (z3 (zh rfl zH))),za h3 rfl (zi rfl (z3 (zh (zp (r:=8) (p:=[]) rfl rfl) zH))),ze rfl,za h11 rfl me,za h12 rfl mi,za h13 rfl mi⟩ ?_
     rintro s ⟨h2,h3,h5,h11,h12,h13⟩
     obtain ⟨v19,Ev19,h⟩:=zb h
     refine gv (.ref .sh 0 [] (.agg [ji v19.1,ji v19.2])) (yn (t:=.sh) (lo:=0) (xs:=x1.2) h11 h13 Ev19 rfl rfl) fun h15=>g1 15 (.agg [ji v19.1,ji v19.2]) h15 fun h16=>xN h5 (yo (.agg [ji v19.1,ji v19.2]) (zI rfl rfl) (zI h16 rfl) (wo (by first | rfl | simp [V.toks,V.tokss,Enc.toks_enc,ym])) ?_)
     refine gz [(2,.ref (.bx 2) 0 [] (.agg [nI])),(3,.ref (.bx 3) 0 [] (.agg [oI 8 [] (.of x10)])),(5,.ref (.bx 5) 0 [] (.agg [ji v19.1,ji v19.2])),(11,eP x1.2),(12,ji (x1.2.length:Int)),(13,ji x11)] ⟨zd h2 (zO rfl rfl (yN (zx rfl rfl))),zd h3 (zO rfl rfl (yN (zx (ug rfl rfl) rfl))),zd rfl rfl,zd h11 uE,zd h12 rfl,zd h13 rfl⟩ ?_
     rintro s ⟨h2,h3,h5,h11,h12,h13⟩
     refine .nsq (.seq (rg (g1 3 (.ref (.bx 3) 0 [0] (oI 8 [] (.of x10))) h3 fun h17=>g1 17 (oI 8 [] (.of x10)) h17 fun h18=>g1 5 (.ref (.bx 5) 0 [0] (ji v19.1)) h5 fun h19=>g1 19 (ji v19.1) h19 fun h20=>?_)))
     obtain ⟨v20,Ev20,h⟩:=zb h
     refine gv (.ref (.at 8 []) v19.1.toNat [] (ji v20)) (vP (o:=.of x10) h18 h20 Ev20 rfl) fun h21=>g1 21 (ji v20) h21 fun h22=>g1 5 (.ref (.bx 5) 0 [1] (ji v19.2)) h5 fun h23=>g1 23 (ji v19.2) h23 fun h24=>?_
     obtain ⟨q21,Eq21,h⟩:=zb h
     refine gv (ji q21) (XE rfl h24 Eq21) fun h25=>g2 22 25 (ji (ior .i64 v20 q21)) h22 h25 fun h26=>?_
     obtain ⟨v22,Ev22,h⟩:=zb h
     refine gv (.ref (.at 8 []) v19.1.toNat [] (ji v22)) (vP (o:=.of x10) h18 h20 Ev22 rfl) fun h27=>yo (ji (ior .i64 v20 q21)) (zI h27 rfl) (zI h26 rfl) (wo (by first | rfl | simp [V.toks,V.tokss,Enc.toks_enc,ym])) (gz [(2,.ref (.bx 2) 0 [] (.agg [nI])),(3,.ref (.bx 3) 0 [] (.agg [oI 8 [] (.of (x10.set v19.1.toNat (ior .i64 v20 q21)))])),(5,.ref (.bx 5) 0 [] (.agg [ji v19.1,ji v19.2])),(11,eP x1.2),(12,ji (x1.2.length:Int)),(13,ji x11)] ⟨zd h2 (zO rfl rfl (yN (zx rfl rfl))),zd h3 (zO rfl rfl (yN (zx W5 rfl))),zd h5 rfl,zd h11 uE,zd h12 rfl,zd h13 rfl⟩ ?_)
     rintro s ⟨h2,h3,h5,h11,h12,h13⟩
     refine .nsq (rg (g1 3 (.ref (.bx 3) 0 [0] (oI 8 [] (.of (x10.set v19.1.toNat (ior .i64 v20 q21))))) h3 fun h28=>g1 28 (oI 8 [] (.of (x10.set v19.1.toNat (ior .i64 v20 q21)))) h28 fun h29=>g1 5 (.ref (.bx 5) 0 [1] (ji v19.2)) h5 fun h30=>g1 30 (ji v19.2) h30 fun h31=>?_))
     obtain ⟨v23,Ev23,h⟩:=zb h
     refine gv (.ref (.at 8 []) v19.2.toNat [] (ji v23)) (vP (o:=.of (x10.set v19.1.toNat (ior .i64 v20 q21))) h29 h31 Ev23 rfl) fun h32=>g1 32 (ji v23) h32 fun h33=>g1 5 (.ref (.bx 5) 0 [0] (ji v19.1)) h5 fun h34=>g1 34 (ji v19.1) h34 fun h35=>?_
     obtain ⟨q24,Eq24,h⟩:=zb h
     refine gv (ji q24) (XE rfl h35 Eq24) fun h36=>g2 33 36 (ji (ior .i64 v23 q24)) h33 h36 fun h37=>?_
     obtain ⟨v25,Ev25,h⟩:=zb h
     refine gv (.ref (.at 8 []) v19.2.toNat [] (ji v25)) (vP (o:=.of (x10.set v19.1.toNat (ior .i64 v20 q21))) h29 h31 Ev25 rfl) fun h38=>yo (ji (ior .i64 v23 q24)) (zI h38 rfl) (zI h37 rfl) (wo (by first | rfl | simp [V.toks,V.tokss,Enc.toks_enc,ym])) ?_
     refine gz [(2,.ref (.bx 2) 0 [] (.agg [nI])),(3,.ref (.bx 3) 0 [] (.agg [oI 8 [] (.of ((x10.set v19.1.toNat (ior .i64 v20 q21)).set v19.2.toNat (ior .i64 v23 q24)))])),(11,eP x1.2),(12,ji (x1.2.length:Int)),(13,ji x11)] ⟨zd h2 (zO rfl rfl (yN (zx rfl rfl))),zd h3 (zO rfl rfl (yN (zx W5 rfl))),zd h11 uE,zd h12 rfl,zd h13 rfl⟩ ?_
     rintro s ⟨h2,h3,h11,h12,h13⟩
     refine .nbk (.nsq (rg (g1 13 (ji (w64 (x11 + 1))) h13 fun h39=>gm h39 fun h13=>gq (.nlp ?_))))
     exact ih ((x10.set v19.1.toNat (ior .i64 v20 q21)).set v19.2.toNat (ior .i64 v23 q24)) (w64 (x11 + 1)) _ ⟨h2,h3,h11,h12,h13⟩ h
   refine .exit (.esq (.elp (.ebk (.nsq (.seq (rg (g1 3 (.agg [oI 8 [] (.of x10)]) h3 fun h40=>yo (.agg [oI 8 [] (.of x10)]) (zI h2 rfl) (zI h40 rfl) (wo (by first | rfl | simp [V.toks,V.tokss,Enc.toks_enc,ym])) (gz [(2,.ref (.bx 2) 0 [] (.agg [oI 8 [] (.of x10)]))] (zd h2 rfl) ?_))))))))
   rintro s h2
   refine .nsq (.ret ?_)
   obtain rfl:=oi h
   exact rrA (vE h2 (by kernel_rfl)) (ZA (zjD (yG (ui (o:=.of x10)) vt)) (Ke (xc (uo rfl) ut)))
def YD (F:Nat) (x1:GR):Option (S1 LI):=
 (mkN x1.1 (0:Int)).bind fun mk2=>
 ZN F x1 F mk2 0
theorem t22 (H:H22 D σ F) (x1:GR) (s:Nat→V) (hs:zr [(0,gV x1)] s) (h:YD F x1=some r):Run D σ (R22 r) (.run A22 []) s:=by
 unfold YD at h
 have h0:=hs
 refine .seq (zC (ye ?_))
 refine ez [(0,_),(1,_),(2,_)] ⟨za h0 rfl mIE,ze rfl,ze rfl⟩ ?_
 rintro s ⟨h0,h1,h2⟩
 refine wa (gV x1) (zI h0 rfl) h1 rfl (xN h2 (gq (.nsq (.seq (zC (ye ?_))))))
 refine ez [(1,_),(2,_),(3,_),(8,_)] ⟨za rfl rfl (zi rfl mIE),za rfl rfl (zi rfl (z3 (zh rfl zH))),ze rfl,ze rfl⟩ ?_
 rintro s ⟨h1,h2,h3,h8⟩
 refine g1 1 (.ref (.bx 1) 0 [0] (ji x1.1)) h1 fun h6=>g1 6 (ji x1.1) h6 fun h7=>?_
 obtain ⟨mk2,Emk2,h⟩:=zb h
 refine zlF (0:Int) h7 rfl h8 Emk2 (g1 8 (.agg [oI 8 [] (.of mk2)]) (rf (oI 8 [] (.of mk2))) fun h9=>xN h3 (yo (.agg [oI 8 [] (.of mk2)]) (zI rfl rfl) (zI h9 rfl) (wo (by first | rfl | simp [V.toks,V.tokss,Enc.toks_enc,ym])) (gz [(1,bG 1 x1),(2,.ref (.bx 2) 0 [] (.agg [nI])),(3,.ref (.bx 3) 0 [] (.agg [oI 8 [] (.of mk2)]))] ⟨zd h1 (zO rfl rfl uIE),zd h2 (zO rfl rfl (yN (zx rfl rfl))),zd rfl rfl⟩ ?_)))
 rintro s ⟨h1,h2,h3⟩
 refine .nsq (.seq (.seq (rg (g1 1 (.ref (.bx 1) 0 [1] (eP x1.2)) h1 fun h10=>g1 10 (eP x1.2) h10 fun h11=>gl x1.2 h11 fun h12=>g0 (ji 0) fun h13=>gq (.nsq (.block (.loop ?_)))))))
 exact zgn H x1 F mk2 0 _ ⟨h2,h3,h11,h12,h13⟩ h
end
def e22 (F:Nat):Ent:=ent 22 (fun (x:(GR×Unit))=>YD F x.1) (fun (r:(S1 LI))=>(Enc.enc (r:(S1 LI)))) 0 false []
abbrev C22 (D:List V→Option V) (F:Nat):Prop:=∀ (x0:GR) r,YD F x0=some r→D [Enc.enc x0]=some (Enc.enc (r:(S1 LI)))
theorem p22 {F:Nat}:C22 (e22 F).den F:=fun x0 _ h=>zR (x0,()) h
theorem o22 (hF:zw Try.prog D σ) (H:H22 D σ F):(e22 F).Ok Try.prog:=okZ (f:=22) Try.func22 fun ⟨x0,_⟩ y hy=>cR hF Try.func22 c22 (t22 H x0 _ rfl hy)
def zrh:AC:=(.cond (.t 8) .skip (.exit 0))
def zrt:AC:=(.cond (.t 15) (.reg [.clr [18,19]] [jm 16 3,jm 17 4,jx 18 (.lit i0 1 [(0,0,.t 17)]),jx 19 (.app .s (.t 16) (.t 18)),jm 3 19] [.home 19 3]) .skip)
def zkv:AC:=(rr [jm 9 4,jv 10 (.bin .add (.t 9) (jn 1)),jm 4 10])
def zo4:AC:=(.seq (.block 1 (.seq (rr [jm 11 0,jm 12 4,jv 13 (.bin .shr (.t 11) (.t 12)),jv 14 (.bin .and (.t 13) (jn 1)),jv 15 (.bin .eql (.t 14) (jn 1))]) zrt)) zkv)
def ND:AC:=(.seq (.seq (rr [jm 5 0,jm 6 4,jv 7 (.bin .shr (.t 5) (.t 6)),jv 8 (.bin .neq (.t 7) (jn 0))]) zrh) zo4)
def zek:AC:=(.seq (.reg [] [jm 20 3,jm 2 20] [.home 3 2]) .ret)
def zqt:AC:=(.block 0 (.loop ND))
def zsR:AC:=(.seq (.seq (rr [jv 4 (.mov (jn 0))]) zqt) zek)
def zoB:AC:=(.seq (rr [jv 3 (.mov (.k (.sl .nl .s 0 [])))]) zsR)
def A23:AC:=(.seq (rr [jv 2 (.mov (.k (.sl .nl .s 0 [])))]) zoB)
def zuM:List An:=[⟨6,[.clr [18,19]],[],[],[.home 19 3]⟩,⟨7,[],[],[],[.home 3 2]⟩]
theorem c23:cq Try.prog Try.f23 zuM=some A23:=by kernel_rfl
structure H23 (D:Den) (σ:Sig) (F:Nat):Prop where
 mk ::
abbrev R23 (r:LI):(Nat→V)→Prop:=RR Try.prog [.tmp 2] 0 false (eL r)
section
variable {r:LI}
def XG (F:Nat) (x1:Int) (x8:Int) (c1:(NL Int)→Int→Option LI) (x17:(NL Int)):Option LI:=
 c1 x17 (w64 (x8 + 1))
theorem za2 (H:H23 D σ F) (x1:Int) (x8:Int) (c1:(NL Int)→Int→Option LI) (Hc1:∀ (x7:(NL Int)) (x8:Int) (s:Nat→V),zr [(0,ji x1),(2,nI),(3,oI 3 [] x7),(4,ji x8)] s→c1 x7 x8=some r→Run D σ (R23 r) (.run ND [.lp ND,.bk 0,.sq zek]) s) (x17:(NL Int)) (s:Nat→V) (hs:zr [(0,ji x1),(2,nI),(3,oI 3 [] x17),(4,ji x8)] s) (h:XG F x1 x8 c1 x17=some r):Run D σ (R23 r) (.nrm [.bk 1,.sq zkv,.lp ND,.bk 0,.sq zek]) s:=by
 unfold XG at h
 obtain ⟨h0,h2,h3,h4⟩:=hs
 refine .nbk (.nsq (rg (gm h4 fun h9=>g1 9 (ji (w64 (x8 + 1))) h9 fun h10=>gm h10 fun h4=>gq (.nlp ?_))))
 exact Hc1 x17 (w64 (x8 + 1)) _ ⟨h0,h2,h3,h4⟩ h
def vL (F:Nat) (x1:Int) :Nat→(NL Int)→Int→Option LI
 | 0,_,_=>none
 | k + 1,x7,x8=>
   (Jy .i64 x1 x8).bind fun q14=>
   bif (q14 != 0) then
    (Jy .i64 x1 x8).bind fun q15=>
    bif ((yU .i64 q15 1) == 1) then
     (vW x7.list [x8]).bind fun ap18=>
     XG F x1 x8 (vL F x1 k) (.of ap18)
    else
     XG F x1 x8 (vL F x1 k) x7
   else
    some x7.list
theorem zhx (H:H23 D σ F) (x1:Int) :∀ (k:Nat) (x7:(NL Int)) (x8:Int) (s:Nat→V),zr [(0,ji x1),(2,nI),(3,oI 3 [] x7),(4,ji x8)] s→vL F x1 k x7 x8=some r→Run D σ (R23 r) (.run ND [.lp ND,.bk 0,.sq zek]) s:=by
 intro k
 induction k with
 | zero=>intro x7 x8 s _ h;exact nm h
 | succ k ih=>
   intro x7 x8 s hs h
   rw [vL] at h
   obtain ⟨h0,h2,h3,h4⟩:=hs
   refine .seq (.seq (rg (gm h0 fun h5=>gm h4 fun h6=>?_)))
   obtain ⟨q14,Eq14,h⟩:=zb h
   refine gv (ji q14) (W0 h5 h6 Eq14) fun h7=>g1 7 (jb (q14 != 0)) h7 fun h8=>gq (.nsq (zk h8 h (fun h=>?_) (fun h=>?_)))
   · refine .skip (.nsq (.seq (.block (.seq (rg (gm h0 fun h11=>gm h4 fun h12=>?_))))))
     obtain ⟨q15,Eq15,h⟩:=zb h
     refine gv (ji q15) (W0 h11 h12 Eq15) fun h13=>g1 13 (ji (yU .i64 q15 1)) h13 fun h14=>g1 14 (jb ((yU .i64 q15 1) == 1)) h14 fun h15=>gq (.nsq (zk h15 h (fun h=>?_) (fun h=>?_)))
     · refine zC (ye ?_)
       refine ez [(0,_),(2,_),(3,_),(4,_),(18,_),(19,_)] ⟨za h0 rfl mi,za h2 rfl rfl,za h3 rfl (zp (r:=3) (p:=[]) rfl rfl),za h4 rfl mi,ze rfl,ze rfl⟩ ?_
       rintro s ⟨h0,h2,h3,h4,h18,h19⟩
       refine gv (oI 3 [] x7) (XA h3 Zd) fun h16=>gm h4 fun h17=>wm [(17,ji x8)] [Enc.enc (x8:Int)] h17 rfl rfl h18 ?_
       obtain ⟨ap18,Eap18,h⟩:=zb h
       refine X4 (q:=3) (p:=[]) (o:=(x7:NL Int)) (ys:=([x8]:LI)) (t2:=.at 18 []) (lo2:=0) h16 rfl rfl h19 (Ya (o:=(x7:NL Int)) Eap18 (by split <;> simp)) (fun s17 ha17=>gm (rf (oI 19 [] (.of ap18))) fun h3=>yS (yF (r:=19) (x:=3) (v:=_) h3 rfl (fun s18 hz18=>?_)))
       refine ez [(0,ji x1),(2,nI),(3,oI 3 [] (.of ap18)),(4,ji x8)] ⟨hz18 0 _ _ (show s17 0=(ji x1) from yc ha17 h0 mi) mi,hz18 2 _ nI (show s17 2=nI from yc ha17 h2 rfl) rfl,hz18 3 _ _ h3 (zp (r:=19) (p:=[]) rfl rfl),hz18 4 _ _ (show s17 4=(ji x8) from yc ha17 h4 mi) mi⟩ ?_
       rintro s ⟨h0,h2,h3,h4⟩
       exact za2 H x1 x8 (vL F x1 k) ih (.of ap18) _ ⟨h0,h2,h3,h4⟩ h
     refine .skip ?_
     exact za2 H x1 x8 (vL F x1 k) ih x7 _ ⟨h0,h2,h3,h4⟩ h
   refine .exit (.esq (.elp (.ebk (.nsq (.seq (rg (gv (oI 3 [] x7) (XA h3 Zd) fun h20=>gv (oI 3 [] x7) (XA h20 Zd) fun h2=>yS (yF (r:=3) (x:=2) (v:=_) h2 Zd (fun s19 hz19=>?_)))))))))
   refine ez [(2,oI 2 [] x7)] (hz19 2 _ _ h2 (zp (r:=3) (p:=[]) rfl rfl)) ?_
   rintro s h2
   refine .nsq (.ret ?_)
   obtain rfl:=oi h
   exact rrA (zl h2) (ZA (ui (o:=x7)) (uo rfl))
def Xc (F:Nat) (x1:Int):Option LI:=
 vL F x1 F .nil 0
theorem t23 (H:H23 D σ F) (x1:Int) (s:Nat→V) (hs:zr [(0,ji x1)] s) (h:Xc F x1=some r):Run D σ (R23 r) (.run A23 []) s:=by
 unfold Xc at h
 have h0:=hs
 refine .seq (rg (g0 nI fun h2=>gq (.nsq (.seq (rg (g0 nI fun h3=>gq (.nsq (.seq (.seq (rg (g0 (ji 0) fun h4=>gq (.nsq (.block (.loop ?_))))))))))))))
 exact zhx H x1 F .nil 0 _ ⟨h0,h2,h3,h4⟩ h
end
def e23 (F:Nat):Ent:=ent 23 (fun (x:(Int×Unit))=>Xc F x.1) (fun (r:LI)=>(eL r)) 0 false []
abbrev C23 (D:List V→Option V) (F:Nat):Prop:=∀ (x0:Int) r,Xc F x0=some r→D [Enc.enc x0]=some (eL r)
theorem p23 {F:Nat}:C23 (e23 F).den F:=fun x0 _ h=>zR (x0,()) h
theorem o23 (hF:zw Try.prog D σ) (H:H23 D σ F):(e23 F).Ok Try.prog:=okZ (f:=23) Try.func23 fun ⟨x0,_⟩ y hy=>cR hF Try.func23 c23 (t23 H x0 _ rfl hy)
def zsf:AC:=(.cond (.t 22) (rr [jm 23 5,jm 24 7,jv 25 (.bin .shl (jn 1) (.t 24)),jv 26 (.bin .or (.t 23) (.t 25)),jm 5 26]) .skip)
def zqT:AC:=(.seq (rr [jv 15 (.fld (.t 2) 0 0),jv 16 (.load .p (.t 15)),jm 17 7,jv 18 (.idx (.t 16) (.t 17) 1),jl 19 18,jm 20 1,jv 21 (.bin .andNot (.t 19) (.t 20)),jv 22 (.bin .neq (.t 21) (jn 0))]) zsf)
def zk7:AC:=(rr [jv 27 (.bin .add (.t 11) (jn 1)),jm 11 27])
def zn9:AC:=(.seq (.block 1 (.seq (rr [jv 13 (.idx (.t 9) (.t 11) 1),jl 14 13,jm 7 14]) zqT)) zk7)
def zsu:AC:=(.seq (.cond (.t 12) .skip (.exit 0)) zn9)
def Ns:AC:=(.seq (rr [jv 12 (.bin .lss (.t 11) (.t 10))]) zsu)
def zeM:AC:=(.seq (rr [jm 28 5,jm 4 28]) .ret)
def zmm:AC:=(.block 0 (.loop Ns))
def znZ:AC:=(.seq (.seq (rr [jm 8 1,jx 9 (.call (jf 23) [.t 8]),jk 10 9,jv 11 (.mov (jn 0))]) zmm) zeM)
def zsn:AC:=(.seq (rr [jv 5 (.mov (jn 0))]) znZ)
def A24:AC:=(.seq (.reg [.clr [2]] [jx 2 (.box (.t 0)),jv 4 (.mov (jn 0))] []) zsn)
def zuD:List An:=[⟨0,[.clr [2]],[],[],[]⟩]
theorem c24:cq Try.prog Try.f24 zuD=some A24:=by kernel_rfl
structure H24 (D:Den) (σ:Sig) (F:Nat):Prop where
 c23:C23 (D 23) F
 g23:σ 23=some (0,false)
abbrev R24 (r:Int):(Nat→V)→Prop:=RR Try.prog [.tmp 4] 0 false (Enc.enc (r:Int))
section
variable {r:Int}
def uD (F:Nat) (x2:Int) (x1:(S1 LI)) (r3:LI) (x10:Int) (c1:Int→Int→Option Int) (x19:Int):Option Int:=
 c1 x19 (w64 (x10 + 1))
theorem zb2 (H:H24 D σ F) (x2:Int) (x1:(S1 LI)) (r3:LI) (x10:Int) (c1:Int→Int→Option Int) (Hc1:∀ (x9:Int) (x10:Int) (s:Nat→V),zr [(1,ji x2),(2,.ref (.bx 2) 0 [] (.agg [eL x1.a])),(4,ji 0),(5,ji x9),(9,eL r3),(10,ji (r3.length:Int)),(11,ji x10)] s→c1 x9 x10=some r→Run D σ (R24 r) (.run Ns [.lp Ns,.bk 0,.sq zeM]) s) (x19:Int) (s:Nat→V) (hs:zr [(1,ji x2),(2,.ref (.bx 2) 0 [] (.agg [eL x1.a])),(4,ji 0),(5,ji x19),(9,eL r3),(10,ji (r3.length:Int)),(11,ji x10)] s) (h:uD F x2 x1 r3 x10 c1 x19=some r):Run D σ (R24 r) (.nrm [.bk 1,.sq zk7,.lp Ns,.bk 0,.sq zeM]) s:=by
 unfold uD at h
 obtain ⟨h1,h2,h4,h5,h9,h10,h11⟩:=hs
 refine .nbk (.nsq (rg (g1 11 (ji (w64 (x10 + 1))) h11 fun h27=>gm h27 fun h11=>gq (.nlp ?_))))
 exact Hc1 x19 (w64 (x10 + 1)) _ ⟨h1,h2,h4,h5,h9,h10,h11⟩ h
def xF (F:Nat) (x2:Int) (x1:(S1 LI)) (r3:LI) :Nat→Int→Int→Option Int
 | 0,_,_=>none
 | k + 1,x9,x10=>
   bif decide (x10 < (r3.length:Int)) then
    (idx r3 x10).bind fun v16=>
    (idx x1.a v16).bind fun v17=>
    bif ((Xa .i64 v17 x2) != 0) then
     (UE .i64 1 v16).bind fun q20=>
     uD F x2 x1 r3 x10 (xF F x2 x1 r3 k) (ior .i64 x9 q20)
    else
     uD F x2 x1 r3 x10 (xF F x2 x1 r3 k) x9
   else
    some x9
theorem zho (H:H24 D σ F) (x2:Int) (x1:(S1 LI)) (r3:LI) :∀ (k:Nat) (x9:Int) (x10:Int) (s:Nat→V),zr [(1,ji x2),(2,.ref (.bx 2) 0 [] (.agg [eL x1.a])),(4,ji 0),(5,ji x9),(9,eL r3),(10,ji (r3.length:Int)),(11,ji x10)] s→xF F x2 x1 r3 k x9 x10=some r→Run D σ (R24 r) (.run Ns [.lp Ns,.bk 0,.sq zeM]) s:=by
 intro k
 induction k with
 | zero=>intro x9 x10 s _ h;exact nm h
 | succ k ih=>
   intro x9 x10 s hs h
   rw [xF] at h
   obtain ⟨h1,h2,h4,h5,h9,h10,h11⟩:=hs
   refine .seq (rg (g2 11 10 (jb (decide (x10 < (r3.length:Int)))) h11 h10 fun h12=>gq (.nsq (.seq (zk h12 h (fun h=>?_) (fun h=>?_))))))
   · refine .skip (.nsq (.seq (.block (.seq (rg ?_)))))
     obtain ⟨v16,Ev16,h⟩:=zb h
     refine gv (.ref .sh 0 [] (ji v16)) (yn (t:=.sh) (lo:=0) (xs:=r3) h9 h11 Ev16 rfl rfl) fun h13=>g1 13 (ji v16) h13 fun h14=>gm h14 fun h7=>gq (.nsq (.seq (rg (g1 2 (.ref (.bx 2) 0 [0] (eL x1.a)) h2 fun h15=>g1 15 (eL x1.a) h15 fun h16=>gm h7 fun h17=>?_))))
     obtain ⟨v17,Ev17,h⟩:=zb h
     refine gv (.ref .sh 0 [] (ji v17)) (yn (t:=.sh) (lo:=0) (xs:=x1.a) h16 h17 Ev17 rfl rfl) fun h18=>g1 18 (ji v17) h18 fun h19=>gm h1 fun h20=>g2 19 20 (ji (Xa .i64 v17 x2)) h19 h20 fun h21=>g1 21 (jb ((Xa .i64 v17 x2) != 0)) h21 fun h22=>gq (.nsq (zk h22 h (fun h=>?_) (fun h=>?_)))
     · refine rg (gm h5 fun h23=>gm h7 fun h24=>?_)
       obtain ⟨q20,Eq20,h⟩:=zb h
       refine gv (ji q20) (XE rfl h24 Eq20) fun h25=>g2 23 25 (ji (ior .i64 x9 q20)) h23 h25 fun h26=>gm h26 fun h5=>gq ?_
       exact zb2 H x2 x1 r3 x10 (xF F x2 x1 r3 k) ih (ior .i64 x9 q20) _ ⟨h1,h2,h4,h5,h9,h10,h11⟩ h
     refine .skip ?_
     exact zb2 H x2 x1 r3 x10 (xF F x2 x1 r3 k) ih x9 _ ⟨h1,h2,h4,h5,h9,h10,h11⟩ h
   refine .exit (.esq (.elp (.ebk (.nsq (.seq (rg (gm h5 fun h28=>gm h28 fun h4=>gq (.nsq (.ret ?_)))))))))
   obtain rfl:=oi h
   exact rrA (zl h4) rfl
def vZ (F:Nat) (x1:(S1 LI)) (x2:Int):Option Int:=
 (Xc F x2).bind fun r3=>
 xF F x2 x1 r3 F 0 0
theorem t24 (H:H24 D σ F) (x1:(S1 LI)) (x2:Int) (s:Nat→V) (hs:zr [(0,.agg [eL x1.a]),(1,ji x2)] s) (h:vZ F x1 x2=some r):Run D σ (R24 r) (.run A24 []) s:=by
 unfold vZ at h
 obtain ⟨h0,h1⟩:=hs
 refine .seq (zC (ye ?_))
 refine ez [(0,_),(1,_),(2,_)] ⟨za h0 rfl (z3 (zh me zH)),za h1 rfl mi,ze rfl⟩ ?_
 rintro s ⟨h0,h1,h2⟩
 refine wa (.agg [eL x1.a]) (zI h0 rfl) h2 rfl (g0 (ji 0) fun h4=>gq (.nsq (.seq (rg (g0 (ji 0) fun h5=>gq (.nsq (.seq (.seq (rg (gm h1 fun h8=>?_))))))))))
 obtain ⟨r3,Er3,h⟩:=zb h
 refine gcF [Enc.enc (x2:Int)] (zg h8 rfl rfl zF) (H.c23 _ _ Er3) H.g23 (gl r3 rfl fun h10=>g0 (ji 0) fun h11=>gq (.nsq (.block (.loop ?_))))
 exact zho H x2 x1 r3 F 0 0 _ ⟨h1,rfl,h4,h5,rfl,h10,h11⟩ h
end
def e24 (F:Nat):Ent:=ent 24 (fun (x:((S1 LI)×Int×Unit))=>vZ F x.1 x.2.1) (fun (r:Int)=>(Enc.enc (r:Int))) 0 false []
abbrev C24 (D:List V→Option V) (F:Nat):Prop:=∀ (x0:(S1 LI)) (x1:Int) r,vZ F x0 x1=some r→D [Enc.enc x0,Enc.enc x1]=some (Enc.enc (r:Int))
theorem p24 {F:Nat}:C24 (e24 F).den F:=fun x0 x1 _ h=>zR (x0,x1,()) h
theorem o24 (hF:zw Try.prog D σ) (H:H24 D σ F):(e24 F).Ok Try.prog:=okZ (f:=24) Try.func24 fun ⟨x0,x1,_⟩ y hy=>cR hF Try.func24 c24 (t24 H x0 x1 _ ⟨rfl,rfl⟩ hy)
def zs7:AC:=(rr [jm 38 8,jm 39 10,jv 40 (.bin .shl (jn 1) (.t 39)),jv 41 (.bin .or (.t 38) (.t 40)),jm 8 41])
def zuC:AC:=(.seq (.reg [.clr [36,37]] [jm 28 7,jv 29 (.load (.ag [.p]) (.t 6)),jm 30 8,jx 31 (.call (jf 24) [.t 29,.t 30]),jm 32 10,jv 33 (.bin .shl (jn 1) (.t 32)),jv 34 (.bin .or (.t 31) (.t 33)),jx 35 (.call (jf 23) [.t 34]),jx 36 (.lit (.sl .nl .s 0 []) 1 [(0,0,.t 35)]),jx 37 (.app .p (.t 28) (.t 36)),jm 7 37] [.home 37 7]) zs7)
def ztL:AC:=(rr [jv 42 (.bin .add (.t 24) (jn 1)),jm 24 42])
def ztQ:AC:=(.seq (.block 1 (.seq (rr [jv 26 (.idx (.t 22) (.t 24) 1),jl 27 26,jm 10 27]) zuC)) ztL)
def ztz:AC:=(.seq (.cond (.t 25) .skip (.exit 0)) ztQ)
def znj:AC:=(.seq (rr [jv 25 (.bin .lss (.t 24) (.t 23))]) ztz)
def zox:AC:=(.seq (.reg [] [jm 43 7,jm 4 43,jv 5 (.mov kt)] [.home 7 4]) .ret)
def zqr:AC:=(.cond (.t 19) (.seq (rr [jv 4 (.mov (.k (.sl .nl .p 0 []))),jv 5 (.mov kf)]) .ret) .skip)
def zsN:AC:=(.block 0 (.loop znj))
def zqw:AC:=(.seq (.seq (rr [jm 22 1,jk 23 22,jv 24 (.mov (jn 0))]) zsN) zox)
def zpB:AC:=(.seq (rr [jv 8 (.mov (jn 0))]) zqw)
def znK:AC:=(.seq (rr [jv 7 (.mov (.k (.sl .nl .p 0 [])))]) zpB)
def zsq:AC:=(.seq (.reg [.clr [6]] [jv 20 (.load (.ag [.s,.p]) (.t 2)),jx 21 (.call (jf 22) [.t 20]),jx 6 (.alloc (.agg [.sl .nl .s 0 []])),jz (.store (.ag [.p]) (.t 6) (.t 21))] []) znK)
def zrF:AC:=(.seq (.seq (rr [jv 11 (.load (.ag [.s,.p]) (.t 2)),jx 12 (.call (jf 20) [.t 11]),jv 13 (.un .not (.t 12)),jm 14 13,jg 15 14 false (.load (.ag [.s,.p]) (.t 2)),jg 16 14 false (.mov (.t 1)),.mk (some 17) (some (14,false)) false (.call (jf 21) [.t 15,.t 16]),jg 18 14 false (.un .not (.t 17)),jv 19 (.pick (.t 14) kt (.t 18))]) zqr) zsq)
def A6:AC:=(.seq (.reg [.clr [2]] [jx 2 (.box (.t 0)),jv 4 (.mov (.k (.sl .nl .p 0 []))),jv 5 (.mov kf)] []) zrF)
def an6:List An:=[⟨0,[.clr [2]],[],[],[]⟩,⟨3,[.clr [6]],[],[],[]⟩,⟨9,[.clr [36,37]],[],[],[.home 37 7]⟩,⟨12,[],[],[],[.home 7 4]⟩]
theorem c6:cq Try.prog Try.f6 an6=some A6:=by kernel_rfl
structure H6 (D:Den) (σ:Sig) (F:Nat):Prop where
 c20:C20 (D 20) F
 g20:σ 20=some (0,false)
 c21:C21 (D 21) F
 g21:σ 21=some (0,false)
 c22:C22 (D 22) F
 g22:σ 22=some (0,false)
 c24:C24 (D 24) F
 g24:σ 24=some (0,false)
 c23:C23 (D 23) F
 g23:σ 23=some (0,false)
abbrev R6 (r:((List LI)×Bool)):(Nat→V)→Prop:=RR Try.prog [.tmp 4,.tmp 5] 0 true (.tup [Enc.enc (r.1:(List LI)),Enc.enc (r.2:Bool)])
section
variable {r:((List LI)×Bool)}
def wg (F:Nat) (r6:(S1 LI)) (x2:LI) :Nat→(NL LI)→Int→Int→Option ((List LI)×Bool)
 | 0,_,_,_=>none
 | k + 1,x13,x14,x15=>
   bif decide (x15 < (x2.length:Int)) then
    (idx x2 x15).bind fun v22=>
    (vZ F r6 x14).bind fun r23=>
    (UE .i64 1 v22).bind fun q24=>
    (Xc F (ior .i64 r23 q24)).bind fun r25=>
    (vW x13.list [r25]).bind fun ap26=>
    (UE .i64 1 v22).bind fun q27=>
    (wg F r6 x2 k) (.of ap26) (ior .i64 x14 q27) (w64 (x15 + 1))
   else
    some (x13.list,true)
theorem zjY (H:H6 D σ F) (r6:(S1 LI)) (x2:LI) :∀ (k:Nat) (x13:(NL LI)) (x14:Int) (x15:Int) (s:Nat→V),zr [(4,.sl .nl (Enc.shp LI) 0 []),(5,jb false),(6,.ref (.bx 6) 0 [] (.agg [eL r6.a])),(7,zm (.at 7 []) (x13:NL LI)),(8,ji x14),(22,eL x2),(23,ji (x2.length:Int)),(24,ji x15)] s→wg F r6 x2 k x13 x14 x15=some r→Run D σ (R6 r) (.run znj [.lp znj,.bk 0,.sq zox]) s:=by
 intro k
 induction k with
 | zero=>intro x13 x14 x15 s _ h;exact nm h
 | succ k ih=>
   intro x13 x14 x15 s hs h
   rw [wg] at h
   obtain ⟨h4,h5,h6,h7,h8,h22,h23,h24⟩:=hs
   refine .seq (rg (g2 24 23 (jb (decide (x15 < (x2.length:Int)))) h24 h23 fun h25=>gq (.nsq (.seq (zk h25 h (fun h=>?_) (fun h=>?_))))))
   · refine .skip (.nsq (.seq (.block (.seq (rg ?_)))))
     obtain ⟨v22,Ev22,h⟩:=zb h
     refine gv (.ref .sh 0 [] (ji v22)) (yn (t:=.sh) (lo:=0) (xs:=x2) h22 h24 Ev22 rfl rfl) fun h26=>g1 26 (ji v22) h26 fun h27=>gm h27 fun h10=>gq (.nsq (.seq (zC (ye ?_))))
     refine ez [(4,_),(5,_),(6,_),(7,_),(8,_),(10,_),(22,_),(23,_),(24,_),(36,_),(37,_)] ⟨za h4 rfl rfl,za h5 rfl mb,za h6 rfl (zi rfl (z3 (zh me zH))),za h7 rfl (zp (r:=7) (p:=[]) rfl rfl),za h8 rfl mi,za h10 rfl mi,za h22 rfl me,za h23 rfl mi,za h24 rfl mi,ze rfl,ze rfl⟩ ?_
     rintro s ⟨h4,h5,h6,h7,h8,h10,h22,h23,h24,h36,h37⟩
     refine gv (zm (.at 7 []) (x13:NL LI)) (XA h7 Zd) fun h28=>g1 6 (.agg [eL r6.a]) h6 fun h29=>gm h8 fun h30=>?_
     obtain ⟨r23,Er23,h⟩:=zb h
     refine gcF [Enc.enc (r6:(S1 LI)),Enc.enc (x14:Int)] (zg h29 rfl (Enc.erase_enc (r6:(S1 LI))) (zg h30 rfl rfl zF)) (H.c24 _ _ _ Er23) H.g24 (gm h10 fun h32=>?_)
     obtain ⟨q24,Eq24,h⟩:=zb h
     refine gv (ji q24) (XE rfl h32 Eq24) fun h33=>g2 31 33 (ji (ior .i64 r23 q24)) (rf (ji r23)) h33 fun h34=>?_
     obtain ⟨r25,Er25,h⟩:=zb h
     refine gcF [Enc.enc (ior .i64 r23 q24:Int)] (zg h34 rfl rfl zF) (H.c23 _ _ Er25) H.g23 (wm [(35,eL r25)] [eL r25] rfl rfl rfl h36 ?_)
     obtain ⟨ap26,Eap26,h⟩:=zb h
     refine X4 (q:=7) (p:=[]) (o:=(x13:NL LI)) (ys:=([r25]:List LI)) (t2:=.at 36 []) (lo2:=0) h28 rfl rfl h37 (Ya (o:=(x13:NL LI)) Eap26 (by split <;> simp)) (fun s10 ha10=>gm (rf (zm (.at 37 []) (.of (ap26:List LI)))) fun h7=>yS (yF (r:=37) (x:=7) (v:=_) h7 rfl (fun s11 hz11=>?_)))
     refine ez [(4,.sl .nl (Enc.shp LI) 0 []),(5,jb false),(6,.ref (.bx 6) 0 [] (.agg [eL r6.a])),(7,zm (.at 7 []) (.of (ap26:List LI))),(8,ji x14),(10,ji v22),(22,eL x2),(23,ji (x2.length:Int)),(24,ji x15)] ⟨hz11 4 _ (.sl .nl (Enc.shp LI) 0 []) (show s10 4=(.sl .nl (Enc.shp LI) 0 []) from yc ha10 h4 rfl) rfl,hz11 5 _ _ (show s10 5=(jb false) from yc ha10 h5 mb) mb,hz11 6 _ _ (show s10 6=(.ref (.bx 6) 0 [] (.agg [eL r6.a])) from yc ha10 h6 (zi rfl (z3 (zh me zH)))) (zi rfl (z3 (zh me zH))),hz11 7 _ _ h7 (zp (r:=37) (p:=[]) rfl rfl),hz11 8 _ _ (show s10 8=(ji x14) from yc ha10 h8 mi) mi,hz11 10 _ _ (show s10 10=(ji v22) from yc ha10 h10 mi) mi,hz11 22 _ _ (show s10 22=(eL x2) from yc ha10 h22 me) me,hz11 23 _ _ (show s10 23=(ji (x2.length:Int)) from yc ha10 h23 mi) mi,hz11 24 _ _ (show s10 24=(ji x15) from yc ha10 h24 mi) mi⟩ ?_
     rintro s ⟨h4,h5,h6,h7,h8,h10,h22,h23,h24⟩
     refine .nsq (rg (gm h8 fun h38=>gm h10 fun h39=>?_))
     obtain ⟨q27,Eq27,h⟩:=zb h
     refine gv (ji q27) (XE rfl h39 Eq27) fun h40=>g2 38 40 (ji (ior .i64 x14 q27)) h38 h40 fun h41=>gm h41 fun h8=>gq (.nbk (.nsq (rg (g1 24 (ji (w64 (x15 + 1))) h24 fun h42=>gm h42 fun h24=>gq (.nlp ?_)))))
     exact ih (.of ap26) (ior .i64 x14 q27) (w64 (x15 + 1)) _ ⟨h4,h5,h6,h7,h8,h22,h23,h24⟩ h
   refine .exit (.esq (.elp (.ebk (.nsq (.seq (rg (gv (zm (.at 7 []) (x13:NL LI)) (XA h7 Zd) fun h43=>gv (zm (.at 7 []) (x13:NL LI)) (XA h43 Zd) fun h4=>g0 (jb true) fun h5=>yS (yF (r:=7) (x:=4) (v:=_) h4 Zd (fun s12 hz12=>?_)))))))))
   refine ez [(4,zm (.at 4 []) (x13:NL LI)),(5,jb true)] ⟨hz12 4 _ _ h4 (zp (r:=7) (p:=[]) rfl rfl),hz12 5 _ _ h5 mb⟩ ?_
   rintro s ⟨h4,h5⟩
   refine .nsq (.ret ?_)
   obtain rfl:=oi h
   exact rrB (zl h4) (zl h5) (ZC (Zh (yG (ui (o:=x13)) (yG (w7 (x:=(true:Bool))) vt))))
def vF (F:Nat) (x2:LI) (x1:GR)  (x5:Bool):Option ((List LI)×Bool):=
 bif x5 then
  some ([],false)
 else
  (YD F x1).bind fun r6=>
  wg F r6 x2 F .nil 0 0
theorem zdI (H:H6 D σ F) (x2:LI) (x1:GR)  (x5:Bool) (s:Nat→V) (hs:zr [(1,eL x2),(2,bG 2 x1),(4,.sl .nl (Enc.shp LI) 0 []),(5,jb false),(19,jb x5)] s) (h:vF F x2 x1  x5=some r):Run D σ (R6 r) (.nrm [.sq zqr,.sq zsq]) s:=by
 unfold vF at h
 obtain ⟨h1,h2,h4,h5,h19⟩:=hs
 refine .nsq (zk h19 h (fun h=>?_) (fun h=>?_))
 · refine .seq (rg (g0 (.sl .nl (Enc.shp LI) 0 []) fun h4=>g0 (jb false) fun h5=>gq (.nsq (.ret ?_))))
   obtain rfl:=oi h
   exact rrB (zl h4) (zl h5) (ZC (Zh (yG (ui (o:=(.nil:NL LI)) (t:=.nl)) (yG (w7 (x:=(false:Bool))) vt))))
 refine .skip (.nsq (.seq (zC (ye ?_))))
 refine ez [(1,_),(2,_),(4,_),(5,_),(6,_)] ⟨za h1 rfl me,za h2 rfl (zi rfl mIE),za h4 rfl rfl,za h5 rfl mb,ze rfl⟩ ?_
 rintro s ⟨h1,h2,h4,h5,h6⟩
 refine g1 2 (gV x1) h2 fun h20=>?_
 obtain ⟨r6,Er6,h⟩:=zb h
 refine gcF [Enc.enc (x1:GR)] (zg h20 rfl (Enc.erase_enc (x1:GR)) zF) (H.c22 _ _ Er6) H.g22 (xN h6 (yo (.agg [eL r6.a]) (zI rfl rfl) (zI rfl rfl) (wo (by first | rfl | simp [V.toks,V.tokss,Enc.toks_enc,ym])) (gz [(1,eL x2),(4,.sl .nl (Enc.shp LI) 0 []),(5,jb false),(6,.ref (.bx 6) 0 [] (.agg [eL r6.a]))] ⟨zd h1 uE,zd h4 rfl,zd h5 rfl,zd rfl rfl⟩ ?_)))
 rintro s ⟨h1,h4,h5,h6⟩
 refine .nsq (.seq (rg (g0 (.sl .nl (Enc.shp LI) 0 []) fun h7=>gq (.nsq (.seq (rg (g0 (ji 0) fun h8=>gq (.nsq (.seq (.seq (rg (gm h1 fun h22=>gl x2 h22 fun h23=>g0 (ji 0) fun h24=>gq (.nsq (.block (.loop ?_)))))))))))))))
 exact zjY H r6 x2 F .nil 0 0 _ ⟨h4,h5,h6,h7,h8,h22,h23,h24⟩ h
def wz (F:Nat) (x1:GR) (x2:LI):Option ((List LI)×Bool):=
 (wW F x1).bind fun r28=>
 bif (!r28) then
  vF F x2 x1 true
 else
  (Zg F x1 x2).bind fun r29=>
  vF F x2 x1 (!r29)
theorem t6 (H:H6 D σ F) (x1:GR) (x2:LI) (s:Nat→V) (hs:zr [(0,gV x1),(1,eL x2)] s) (h:wz F x1 x2=some r):Run D σ (R6 r) (.run A6 []) s:=by
 unfold wz at h
 obtain ⟨h0,h1⟩:=hs
 refine .seq (zC (ye ?_))
 refine ez [(0,_),(1,_),(2,_)] ⟨za h0 rfl mIE,za h1 rfl me,ze rfl⟩ ?_
 rintro s ⟨h0,h1,h2⟩
 refine wa (gV x1) (zI h0 rfl) h2 rfl (g0 (.sl .nl (Enc.shp LI) 0 []) fun h4=>g0 (jb false) fun h5=>gq (.nsq (.seq (.seq (rg (g1 2 (gV x1) (rf (bG 2 x1)) fun h11=>?_))))))
 obtain ⟨r28,Er28,h⟩:=zb h
 refine gcF [Enc.enc (x1:GR)] (zg h11 rfl (Enc.erase_enc (x1:GR)) zF) (H.c20 _ _ Er28) H.g20 (g1 12 (jb (!r28)) (rf (jb r28)) fun h13=>gm h13 fun h14=>z6 h (fun hg4 h=>?_) (fun hg4 h=>?_))
 · iterate 4 refine yJ (ct h14 hg4) ?_
   refine g2 14 18 (jb true) (ct h14 hg4) (rf (.tup [])) fun h19=>gq ?_
   exact zdI H x2 x1 true _ ⟨h1,rfl,h4,h5,h19⟩ h
 refine zo (ct h14 hg4) (g1 2 (gV x1) (rf (bG 2 x1)) fun h15=>zo (ct h14 hg4) (gm h1 fun h16=>?_))
 obtain ⟨r29,Er29,h⟩:=zb h
 refine zo (ct h14 hg4) (gcF [Enc.enc (x1:GR),eL x2] (zg h15 rfl (Enc.erase_enc (x1:GR)) (zg h16 rfl (Enc.erase_enc (x2:LI)) zF)) (H.c21 _ _ _ Er29) H.g21 (zo (ct h14 hg4) (g1 17 (jb (!r29)) (rf (jb r29)) fun h18=>g2 14 18 (jb (!r29)) (ct h14 hg4) h18 fun h19=>gq ?_)))
 exact zdI H x2 x1 (!r29) _ ⟨h1,rfl,h4,h5,h19⟩ h
end
def e6 (F:Nat):Ent:=ent 6 (fun (x:(GR×LI×Unit))=>wz F x.1 x.2.1) (fun (r:((List LI)×Bool))=>(.tup [Enc.enc (r.1:(List LI)),Enc.enc (r.2:Bool)])) 0 true []
abbrev C6 (D:List V→Option V) (F:Nat):Prop:=∀ (x0:GR) (x1:LI) r,wz F x0 x1=some r→D [Enc.enc x0,Enc.enc x1]=some (.tup [Enc.enc (r.1:(List LI)),Enc.enc (r.2:Bool)])
theorem p6 {F:Nat}:C6 (e6 F).den F:=fun x0 x1 _ h=>zR (x0,x1,()) h
theorem o6 (hF:zw Try.prog D σ) (H:H6 D σ F):(e6 F).Ok Try.prog:=okZ (f:=6) Try.func6 fun ⟨x0,x1,_⟩ y hy=>cR hF Try.func6 c6 (t6 H x0 x1 _ ⟨rfl,rfl⟩ hy)
def zoo:AC:=(.seq (rr [jm 7 0,jm 8 1,jv 9 (.bin .geq (.t 7) (.t 8)),jm 10 9,jg 11 10 true (.mov (.t 0)),jg 12 10 true (.mov (.t 2)),jg 13 10 true (.bin .leq (.t 11) (.t 12)),jv 14 (.pick (.t 10) (.t 13) kf),jm 6 14]) .ret)
def A41:AC:=(.seq (rr [jv 6 (.mov kf)]) zoo)
def ztR:List An:=[]
theorem c41:cq Try.prog Try.f41 ztR=some A41:=by kernel_rfl
structure H41 (D:Den) (σ:Sig) (F:Nat):Prop where
 mk ::
abbrev R41 (r:Bool):(Nat→V)→Prop:=RR Try.prog [.tmp 6] 0 false (Enc.enc (r:Bool))
section
variable {r:Bool}
def Wb (F:Nat) (x1:Int) (x2:Int) (x3:Int):Option Bool:=
 bif decide (x1≥x2) then
  some (decide (x1≤x3))
 else
  some false
theorem t41 (H:H41 D σ F) (x1:Int) (x2:Int) (x3:Int) (s:Nat→V) (hs:zr [(0,ji x1),(1,ji x2),(2,ji x3)] s) (h:Wb F x1 x2 x3=some r):Run D σ (R41 r) (.run A41 []) s:=by
 unfold Wb at h
 obtain ⟨h0,h1,h2⟩:=hs
 refine .seq (rg (g0 (jb false) fun h6=>gq (.nsq (.seq (rg (gm h0 fun h7=>gm h1 fun h8=>g2 7 8 (jb (decide (x1≥x2))) h7 h8 fun h9=>gm h9 fun h10=>z6 h (fun hg4 h=>?_) (fun hg4 h=>?_)))))))
 · refine zo (ct h10 hg4) (gm h0 fun h11=>zo (ct h10 hg4) (gm h2 fun h12=>zo (ct h10 hg4) (g2 11 12 (jb (decide (x1≤x3))) h11 h12 fun h13=>g2 10 13 (jb (decide (x1≤x3))) (ct h10 hg4) h13 fun h14=>gm h14 fun h6=>gq (.nsq (.ret ?_)))))
   obtain rfl:=oi h
   exact rrA (zl h6) rfl
 iterate 3 refine yJ (ct h10 hg4) ?_
 refine g2 10 13 (jb false) (ct h10 hg4) (rf (.tup [])) fun h14=>gm h14 fun h6=>gq (.nsq (.ret ?_))
 obtain rfl:=oi h
 exact rrA (zl h6) rfl
end
def e41 (F:Nat):Ent:=ent 41 (fun (x:(Int×Int×Int×Unit))=>Wb F x.1 x.2.1 x.2.2.1) (fun (r:Bool)=>(Enc.enc (r:Bool))) 0 false []
abbrev C41 (D:List V→Option V) (F:Nat):Prop:=∀ (x0:Int) (x1:Int) (x2:Int) r,Wb F x0 x1 x2=some r→D [Enc.enc x0,Enc.enc x1,Enc.enc x2]=some (Enc.enc (r:Bool))
theorem p41 {F:Nat}:C41 (e41 F).den F:=fun x0 x1 x2 _ h=>zR (x0,x1,x2,()) h
theorem o41 (hF:zw Try.prog D σ) (H:H41 D σ F):(e41 F).Ok Try.prog:=okZ (f:=41) Try.func41 fun ⟨x0,x1,x2,_⟩ y hy=>cR hF Try.func41 c41 (t41 H x0 x1 x2 _ ⟨rfl,rfl,rfl⟩ hy)
def zoG:AC:=(.cond (.t 9) .skip (.exit 0))
def zks:AC:=(.cond (.t 54) (.seq (rr [jv 2 (.mov kf)]) .ret) .skip)
def zqD:AC:=(.seq (rr [jv 17 (.idxA (.t 4) (jn 0) 2 1),jl 18 17,jv 19 (.fld (.t 1) 0 0),jl 20 19,jv 21 (.bin .sub (.t 20) (jn 1)),jx 22 (.call (jf 41) [.t 18,jn 0,.t 21]),jv 23 (.un .not (.t 22)),jm 24 23,jg 25 24 false (.idxA (.t 4) (jn 1) 2 1),jg 26 24 false (.load .s (.t 25)),jg 27 24 false (.fld (.t 1) 0 0),jg 28 24 false (.load .s (.t 27)),jg 29 24 false (.bin .sub (.t 28) (jn 1)),.mk (some 30) (some (24,false)) false (.call (jf 41) [.t 26,jn 0,.t 29]),jg 31 24 false (.un .not (.t 30)),jv 32 (.pick (.t 24) kt (.t 31)),jm 33 32,jg 34 33 false (.idxA (.t 4) (jn 0) 2 1),jg 35 33 false (.load .s (.t 34)),jg 36 33 false (.idxA (.t 4) (jn 1) 2 1),jg 37 33 false (.load .s (.t 36)),jg 38 33 false (.bin .geq (.t 35) (.t 37)),jv 39 (.pick (.t 33) kt (.t 38)),jm 40 39,jg 41 40 false (.mov (.t 3)),jg 42 40 false (.bin .gtr (.t 41) (jn 0)),jg 43 40 false (.mov (.t 42)),jg 44 43 true (.fld (.t 1) 1 1),jg 45 43 true (.load .p (.t 44)),jg 46 43 true (.mov (.t 3)),jg 47 43 true (.bin .sub (.t 46) (jn 1)),jg 48 43 true (.idx (.t 45) (.t 47) 2),jg 49 43 true (.load (.ag [.s,.s]) (.t 48)),jg 50 43 true (.load (.ag [.s,.s]) (.t 4)),.mk (some 51) (some (43,true)) false (.call (jf 42) [.t 49,.t 50]),jg 52 43 true (.un .not (.t 51)),jg 53 40 false (.pick (.t 43) (.t 52) kf),jv 54 (.pick (.t 40) kt (.t 53))]) zks)
def zkN:AC:=(rr [jm 10 3,jv 11 (.bin .add (.t 10) (jn 1)),jm 3 11])
def zp8:AC:=(.seq (.block 1 (.seq (.reg [.clr [4]] [jv 12 (.fld (.t 1) 1 1),jv 13 (.load .p (.t 12)),jm 14 3,jv 15 (.idx (.t 13) (.t 14) 2),jv 16 (.load (.ag [.s,.s]) (.t 15)),jx 4 (.alloc (.agg [i0,i0])),jz (.store (.ag [.s,.s]) (.t 4) (.t 16))] []) zqD)) zkN)
def NC:AC:=(.seq (.seq (rr [jm 5 3,jv 6 (.fld (.t 1) 1 1),jv 7 (.load .p (.t 6)),jk 8 7,jv 9 (.bin .lss (.t 5) (.t 8))]) zoG) zp8)
def zdq:AC:=(.seq (rr [jv 55 (.fld (.t 1) 0 0),jl 56 55,jx 57 (.call (jf 41) [.t 56,jn 0,jn 8]),jm 2 57]) .ret)
def zrp:AC:=(.block 0 (.loop NC))
def zn4:AC:=(.seq (.seq (rr [jv 3 (.mov (jn 0))]) zrp) zdq)
def A25:AC:=(.seq (.reg [.clr [1]] [jx 1 (.box (.t 0)),jv 2 (.mov kf)] []) zn4)
def ztN:List An:=[⟨0,[.clr [1]],[],[],[]⟩,⟨4,[.clr [4]],[],[],[]⟩]
theorem c25:cq Try.prog Try.f25 ztN=some A25:=by kernel_rfl
structure H25 (D:Den) (σ:Sig) (F:Nat):Prop where
 c41:C41 (D 41) F
 g41:σ 41=some (0,false)
 c42:C42 (D 42) F
 g42:σ 42=some (0,false)
abbrev R25 (r:Bool):(Nat→V)→Prop:=RR Try.prog [.tmp 2] 0 false (Enc.enc (r:Bool))
section
variable {r:Bool}
def vY (F:Nat) (x1:GR) (x12:Int) (c1:Int→Option Bool) (x28:Bool):Option Bool:=
 bif x28 then
  some false
 else
  c1 (w64 (x12 + 1))
theorem UB (H:H25 D σ F) (x1:GR) (x12:Int) (c1:Int→Option Bool) (Hc1:∀ (x12:Int) (s:Nat→V),zr [(1,bG 1 x1),(2,jb false),(3,ji x12)] s→c1 x12=some r→Run D σ (R25 r) (.run NC [.lp NC,.bk 0,.sq zdq]) s) (x28:Bool) (s:Nat→V) (hs:zr [(1,bG 1 x1),(2,jb false),(3,ji x12),(54,jb x28)] s) (h:vY F x1 x12 c1 x28=some r):Run D σ (R25 r) (.nrm [.sq zks,.bk 1,.sq zkN,.lp NC,.bk 0,.sq zdq]) s:=by
 unfold vY at h
 obtain ⟨h1,h2,h3,h54⟩:=hs
 refine .nsq (zk h54 h (fun h=>?_) (fun h=>?_))
 · refine .seq (rg (g0 (jb false) fun h2=>gq (.nsq (.ret ?_))))
   obtain rfl:=oi h
   exact rrA (zl h2) rfl
 refine .skip (.nbk (.nsq (rg (gm h3 fun h10=>g1 10 (ji (w64 (x12 + 1))) h10 fun h11=>gm h11 fun h3=>gq (.nlp ?_)))))
 exact Hc1 (w64 (x12 + 1)) _ ⟨h1,h2,h3⟩ h
def xf (F:Nat) (x1:GR) :Nat→Int→Option Bool
 | 0,_=>none
 | k + 1,x12=>
   bif decide (x12 < (x1.2.length:Int)) then
    (idx x1.2 x12).bind fun v23=>
    (Wb F v23.1 0 (w64 (x1.1 - 1))).bind fun r29=>
    bif (!r29) then
     vY F x1 x12 (xf F x1 k) true
    else
     (Wb F v23.2 0 (w64 (x1.1 - 1))).bind fun r30=>
     bif (!r30) then
      vY F x1 x12 (xf F x1 k) true
     else
      bif decide (v23.1≥v23.2) then
       vY F x1 x12 (xf F x1 k) true
      else
       bif decide (x12 > 0) then
        (idx x1.2 (w64 (x12 - 1))).bind fun v31=>
        (uS F v31 v23).bind fun r32=>
        vY F x1 x12 (xf F x1 k) (!r32)
       else
        vY F x1 x12 (xf F x1 k) false
   else
    (Wb F x1.1 0 8).bind fun r33=>
    some r33
theorem zik (H:H25 D σ F) (x1:GR) :∀ (k:Nat) (x12:Int) (s:Nat→V),zr [(1,bG 1 x1),(2,jb false),(3,ji x12)] s→xf F x1 k x12=some r→Run D σ (R25 r) (.run NC [.lp NC,.bk 0,.sq zdq]) s:=by
 intro k
 induction k with
 | zero=>intro x12 s _ h;exact nm h
 | succ k ih=>
   intro x12 s hs h
   rw [xf] at h
   obtain ⟨h1,h2,h3⟩:=hs
   refine .seq (.seq (rg (gm h3 fun h5=>g1 1 (.ref (.bx 1) 0 [1] (eP x1.2)) h1 fun h6=>g1 6 (eP x1.2) h6 fun h7=>gl x1.2 h7 fun h8=>g2 5 8 (jb (decide (x12 < (x1.2.length:Int)))) h5 h8 fun h9=>gq (.nsq (zk h9 h (fun h=>?_) (fun h=>?_))))))
   · refine .skip (.nsq (.seq (.block (.seq (zC (ye ?_))))))
     refine ez [(1,_),(2,_),(3,_),(4,_)] ⟨za h1 rfl (zi rfl mIE),za h2 rfl mb,za h3 rfl mi,ze rfl⟩ ?_
     rintro s ⟨h1,h2,h3,h4⟩
     refine g1 1 (.ref (.bx 1) 0 [1] (eP x1.2)) h1 fun h12=>g1 12 (eP x1.2) h12 fun h13=>gm h3 fun h14=>?_
     obtain ⟨v23,Ev23,h⟩:=zb h
     refine gv (.ref .sh 0 [] (.agg [ji v23.1,ji v23.2])) (yn (t:=.sh) (lo:=0) (xs:=x1.2) h13 h14 Ev23 rfl rfl) fun h15=>g1 15 (.agg [ji v23.1,ji v23.2]) h15 fun h16=>xN h4 (yo (.agg [ji v23.1,ji v23.2]) (zI rfl rfl) (zI h16 rfl) (wo (by first | rfl | simp [V.toks,V.tokss,Enc.toks_enc,ym])) (gz [(1,bG 1 x1),(2,jb false),(3,ji x12),(4,.ref (.bx 4) 0 [] (.agg [ji v23.1,ji v23.2]))] ⟨zd h1 (zO rfl rfl uIE),zd h2 rfl,zd h3 rfl,zd rfl rfl⟩ ?_))
     rintro s ⟨h1,h2,h3,h4⟩
     refine .nsq (.seq (rg (g1 4 (.ref (.bx 4) 0 [0] (ji v23.1)) h4 fun h17=>g1 17 (ji v23.1) h17 fun h18=>g1 1 (.ref (.bx 1) 0 [0] (ji x1.1)) h1 fun h19=>g1 19 (ji x1.1) h19 fun h20=>g1 20 (ji (w64 (x1.1 - 1))) h20 fun h21=>?_)))
     obtain ⟨r29,Er29,h⟩:=zb h
     refine gcF [Enc.enc (v23.1:Int),Enc.enc (0:Int),Enc.enc (w64 (x1.1 - 1):Int)] (zg h18 rfl rfl (zg (v:=ji 0) rfl rfl rfl (zg h21 rfl rfl zF))) (H.c41 _ _ _ _ Er29) H.g41 (g1 22 (jb (!r29)) (rf (jb r29)) fun h23=>gm h23 fun h24=>z6 h (fun hg8 h=>?_) (fun hg8 h=>?_))
     · iterate 7 refine yJ (ct h24 hg8) ?_
       refine g2 24 31 (jb true) (ct h24 hg8) (rf (.tup [])) fun h32=>gm h32 fun h33=>yJ h33 ?_
       iterate 4 refine yJ h33 ?_
       refine g2 33 38 (jb true) h33 (rf (.tup [])) fun h39=>gm h39 fun h40=>yJ h40 ?_
       iterate 2 refine yJ h40 ?_
       iterate 9 refine Wf rfl ?_
       refine yJ h40 (g2 40 53 (jb true) h40 (rf (.tup [])) fun h54=>gz [(1,_),(2,_),(3,_),(54,_)] ⟨h1,h2,h3,h54⟩ ?_)
       rintro s ⟨h1,h2,h3,h54⟩
       exact UB H x1 x12 (xf F x1 k) ih true _ ⟨h1,h2,h3,h54⟩ h
     refine zo (ct h24 hg8) (g1 4 (.ref (.bx 4) 0 [1] (ji v23.2)) h4 fun h25=>zo (ct h24 hg8) (g1 25 (ji v23.2) h25 fun h26=>zo (ct h24 hg8) (g1 1 (.ref (.bx 1) 0 [0] (ji x1.1)) h1 fun h27=>zo (ct h24 hg8) (g1 27 (ji x1.1) h27 fun h28=>zo (ct h24 hg8) (g1 28 (ji (w64 (x1.1 - 1))) h28 fun h29=>?_)))))
     obtain ⟨r30,Er30,h⟩:=zb h
     refine zo (ct h24 hg8) (gcF [Enc.enc (v23.2:Int),Enc.enc (0:Int),Enc.enc (w64 (x1.1 - 1):Int)] (zg h26 rfl rfl (zg (v:=ji 0) rfl rfl rfl (zg h29 rfl rfl zF))) (H.c41 _ _ _ _ Er30) H.g41 (zo (ct h24 hg8) (g1 30 (jb (!r30)) (rf (jb r30)) fun h31=>g2 24 31 (jb (!r30)) (ct h24 hg8) h31 fun h32=>gm h32 fun h33=>z6 h (fun hg17 h=>?_) (fun hg17 h=>?_))))
     · iterate 5 refine yJ (ct h33 hg17) ?_
       refine g2 33 38 (jb true) (ct h33 hg17) (rf (.tup [])) fun h39=>gm h39 fun h40=>yJ h40 ?_
       iterate 2 refine yJ h40 ?_
       iterate 9 refine Wf rfl ?_
       refine yJ h40 (g2 40 53 (jb true) h40 (rf (.tup [])) fun h54=>gz [(1,_),(2,_),(3,_),(54,_)] ⟨h1,h2,h3,h54⟩ ?_)
       rintro s ⟨h1,h2,h3,h54⟩
       exact UB H x1 x12 (xf F x1 k) ih true _ ⟨h1,h2,h3,h54⟩ h
     refine zo (ct h33 hg17) (g1 4 (.ref (.bx 4) 0 [0] (ji v23.1)) h4 fun h34=>zo (ct h33 hg17) (g1 34 (ji v23.1) h34 fun h35=>zo (ct h33 hg17) (g1 4 (.ref (.bx 4) 0 [1] (ji v23.2)) h4 fun h36=>zo (ct h33 hg17) (g1 36 (ji v23.2) h36 fun h37=>zo (ct h33 hg17) (g2 35 37 (jb (decide (v23.1≥v23.2))) h35 h37 fun h38=>g2 33 38 (jb (decide (v23.1≥v23.2))) (ct h33 hg17) h38 fun h39=>gm h39 fun h40=>z6 h (fun hg24 h=>?_) (fun hg24 h=>?_))))))
     · iterate 3 refine yJ (ct h40 hg24) ?_
       iterate 9 refine Wf rfl ?_
       refine yJ (ct h40 hg24) (g2 40 53 (jb true) (ct h40 hg24) (rf (.tup [])) fun h54=>gz [(1,_),(2,_),(3,_),(54,_)] ⟨h1,h2,h3,h54⟩ ?_)
       rintro s ⟨h1,h2,h3,h54⟩
       exact UB H x1 x12 (xf F x1 k) ih true _ ⟨h1,h2,h3,h54⟩ h
     refine zo (ct h40 hg24) (gm h3 fun h41=>zo (ct h40 hg24) (g1 41 (jb (decide (x12 > 0))) h41 fun h42=>zo (ct h40 hg24) (gm h42 fun h43=>z6 h (fun hg27 h=>?_) (fun hg27 h=>?_))))
     · refine zo (ct h43 hg27) (g1 1 (.ref (.bx 1) 0 [1] (eP x1.2)) h1 fun h44=>zo (ct h43 hg27) (g1 44 (eP x1.2) h44 fun h45=>zo (ct h43 hg27) (gm h3 fun h46=>zo (ct h43 hg27) (g1 46 (ji (w64 (x12 - 1))) h46 fun h47=>?_))))
       obtain ⟨v31,Ev31,h⟩:=zb h
       refine zo (ct h43 hg27) (gv (.ref .sh 0 [] (.agg [ji v31.1,ji v31.2])) (yn (t:=.sh) (lo:=0) (xs:=x1.2) h45 h47 Ev31 rfl rfl) fun h48=>zo (ct h43 hg27) (g1 48 (.agg [ji v31.1,ji v31.2]) h48 fun h49=>zo (ct h43 hg27) (g1 4 (.agg [ji v23.1,ji v23.2]) h4 fun h50=>?_)))
       obtain ⟨r32,Er32,h⟩:=zb h
       refine zo (ct h43 hg27) (gcF [Enc.enc (v31:(Int×Int)),Enc.enc (v23:(Int×Int))] (zg h49 rfl (Enc.erase_enc (v31:(Int×Int))) (zg h50 rfl (Enc.erase_enc (v23:(Int×Int))) zF)) (H.c42 _ _ _ Er32) H.g42 (zo (ct h43 hg27) (g1 51 (jb (!r32)) (rf (jb r32)) fun h52=>zo (ct h40 hg24) (g2 43 52 (jb (!r32)) (ct h43 hg27) h52 fun h53=>g2 40 53 (jb (!r32)) (ct h40 hg24) h53 fun h54=>gz [(1,_),(2,_),(3,_),(54,_)] ⟨h1,h2,h3,h54⟩ ?_))))
       rintro s ⟨h1,h2,h3,h54⟩
       exact UB H x1 x12 (xf F x1 k) ih (!r32) _ ⟨h1,h2,h3,h54⟩ h
     iterate 9 refine yJ (ct h43 hg27) ?_
     refine zo (ct h40 hg24) (g2 43 52 (jb false) (ct h43 hg27) (rf (.tup [])) fun h53=>g2 40 53 (jb false) (ct h40 hg24) h53 fun h54=>gz [(1,_),(2,_),(3,_),(54,_)] ⟨h1,h2,h3,h54⟩ ?_)
     rintro s ⟨h1,h2,h3,h54⟩
     exact UB H x1 x12 (xf F x1 k) ih false _ ⟨h1,h2,h3,h54⟩ h
   refine .exit (.esq (.elp (.ebk (.nsq (.seq (rg (g1 1 (.ref (.bx 1) 0 [0] (ji x1.1)) h1 fun h55=>g1 55 (ji x1.1) h55 fun h56=>?_)))))))
   obtain ⟨r33,Er33,h⟩:=zb h
   refine gcF [Enc.enc (x1.1:Int),Enc.enc (0:Int),Enc.enc (8:Int)] (zg h56 rfl rfl (zg (v:=ji 0) rfl rfl rfl (zg (v:=ji 8) rfl rfl rfl zF))) (H.c41 _ _ _ _ Er33) H.g41 (gm (rf (jb r33)) fun h2=>gq (.nsq (.ret ?_)))
   obtain rfl:=oi h
   exact rrA (zl h2) rfl
def uG (F:Nat) (x1:GR):Option Bool:=
 xf F x1 F 0
theorem t25 (H:H25 D σ F) (x1:GR) (s:Nat→V) (hs:zr [(0,gV x1)] s) (h:uG F x1=some r):Run D σ (R25 r) (.run A25 []) s:=by
 unfold uG at h
 have h0:=hs
 refine .seq (zC (ye ?_))
 refine ez [(0,_),(1,_)] ⟨za h0 rfl mIE,ze rfl⟩ ?_
 rintro s ⟨h0,h1⟩
 refine wa (gV x1) (zI h0 rfl) h1 rfl (g0 (jb false) fun h2=>gq (.nsq (.seq (.seq (rg (g0 (ji 0) fun h3=>gq (.nsq (.block (.loop ?_)))))))))
 exact zik H x1 F 0 _ ⟨rfl,h2,h3⟩ h
end
def e25 (F:Nat):Ent:=ent 25 (fun (x:(GR×Unit))=>uG F x.1) (fun (r:Bool)=>(Enc.enc (r:Bool))) 0 false []
abbrev C25 (D:List V→Option V) (F:Nat):Prop:=∀ (x0:GR) r,uG F x0=some r→D [Enc.enc x0]=some (Enc.enc (r:Bool))
theorem p25 {F:Nat}:C25 (e25 F).den F:=fun x0 _ h=>zR (x0,()) h
theorem o25 (hF:zw Try.prog D σ) (H:H25 D σ F):(e25 F).Ok Try.prog:=okZ (f:=25) Try.func25 fun ⟨x0,_⟩ y hy=>cR hF Try.func25 c25 (t25 H x0 _ rfl hy)
def zom:AC:=(.cond (.t 9) .skip (.exit 0))
def zrB:AC:=(.cond (.t 17) (.seq (rr [jv 4 (.mov kt)]) .ret) .skip)
def zrD:AC:=(rr [jm 10 5,jv 11 (.bin .add (.t 10) (jn 1)),jm 5 11])
def zoT:AC:=(.seq (.block 1 (.seq (rr [jm 12 0,jm 13 5,jv 14 (.idx (.t 12) (.t 13) 1),jl 15 14,jm 16 1,jv 17 (.bin .eql (.t 15) (.t 16))]) zrB)) zrD)
def zhz:AC:=(.seq (.seq (rr [jm 6 5,jm 7 0,jk 8 7,jv 9 (.bin .lss (.t 6) (.t 8))]) zom) zoT)
def zkp:AC:=(.seq (rr [jv 4 (.mov kf)]) .ret)
def zoI:AC:=(.block 0 (.loop zhz))
def zra:AC:=(.seq (.seq (rr [jv 5 (.mov (jn 0))]) zoI) zkp)
def A33:AC:=(.seq (rr [jv 4 (.mov kf)]) zra)
def zuO:List An:=[]
theorem c33:cq Try.prog Try.f33 zuO=some A33:=by kernel_rfl
structure H33 (D:Den) (σ:Sig) (F:Nat):Prop where
 mk ::
abbrev R33 (r:Bool):(Nat→V)→Prop:=RR Try.prog [.tmp 4] 0 false (Enc.enc (r:Bool))
section
variable {r:Bool}
def ZP (F:Nat) (x1:LI) (x2:Int) :Nat→Int→Option Bool
 | 0,_=>none
 | k + 1,x4=>
   bif decide (x4 < (x1.length:Int)) then
    (idx x1 x4).bind fun v6=>
    bif (v6 == x2) then
     some true
    else
     (ZP F x1 x2 k) (w64 (x4 + 1))
   else
    some false
theorem zgT (H:H33 D σ F) (x1:LI) (x2:Int) :∀ (k:Nat) (x4:Int) (s:Nat→V),zr [(0,eL x1),(1,ji x2),(4,jb false),(5,ji x4)] s→ZP F x1 x2 k x4=some r→Run D σ (R33 r) (.run zhz [.lp zhz,.bk 0,.sq zkp]) s:=by
 intro k
 induction k with
 | zero=>intro x4 s _ h;exact nm h
 | succ k ih=>
   intro x4 s hs h
   rw [ZP] at h
   obtain ⟨h0,h1,h4,h5⟩:=hs
   refine .seq (.seq (rg (gm h5 fun h6=>gm h0 fun h7=>gl x1 h7 fun h8=>g2 6 8 (jb (decide (x4 < (x1.length:Int)))) h6 h8 fun h9=>gq (.nsq (zk h9 h (fun h=>?_) (fun h=>?_))))))
   · refine .skip (.nsq (.seq (.block (.seq (rg (gm h0 fun h12=>gm h5 fun h13=>?_))))))
     obtain ⟨v6,Ev6,h⟩:=zb h
     refine gv (.ref .sh 0 [] (ji v6)) (yn (t:=.sh) (lo:=0) (xs:=x1) h12 h13 Ev6 rfl rfl) fun h14=>g1 14 (ji v6) h14 fun h15=>gm h1 fun h16=>g2 15 16 (jb (v6 == x2)) h15 h16 fun h17=>gq (.nsq (zk h17 h (fun h=>?_) (fun h=>?_)))
     · refine .seq (rg (g0 (jb true) fun h4=>gq (.nsq (.ret ?_))))
       obtain rfl:=oi h
       exact rrA (zl h4) rfl
     refine .skip (.nbk (.nsq (rg (gm h5 fun h10=>g1 10 (ji (w64 (x4 + 1))) h10 fun h11=>gm h11 fun h5=>gq (.nlp ?_)))))
     exact ih (w64 (x4 + 1)) _ ⟨h0,h1,h4,h5⟩ h
   refine .exit (.esq (.elp (.ebk (.nsq (.seq (rg (g0 (jb false) fun h4=>gq (.nsq (.ret ?_)))))))))
   obtain rfl:=oi h
   exact rrA (zl h4) rfl
def uB (F:Nat) (x1:LI) (x2:Int):Option Bool:=
 ZP F x1 x2 F 0
theorem t33 (H:H33 D σ F) (x1:LI) (x2:Int) (s:Nat→V) (hs:zr [(0,eL x1),(1,ji x2)] s) (h:uB F x1 x2=some r):Run D σ (R33 r) (.run A33 []) s:=by
 unfold uB at h
 obtain ⟨h0,h1⟩:=hs
 refine .seq (rg (g0 (jb false) fun h4=>gq (.nsq (.seq (.seq (rg (g0 (ji 0) fun h5=>gq (.nsq (.block (.loop ?_))))))))))
 exact zgT H x1 x2 F 0 _ ⟨h0,h1,h4,h5⟩ h
end
def e33 (F:Nat):Ent:=ent 33 (fun (x:(LI×Int×Unit))=>uB F x.1 x.2.1) (fun (r:Bool)=>(Enc.enc (r:Bool))) 0 false []
abbrev C33 (D:List V→Option V) (F:Nat):Prop:=∀ (x0:LI) (x1:Int) r,uB F x0 x1=some r→D [Enc.enc x0,Enc.enc x1]=some (Enc.enc (r:Bool))
theorem p33 {F:Nat}:C33 (e33 F).den F:=fun x0 x1 _ h=>zR (x0,x1,()) h
theorem o33 (hF:zw Try.prog D σ) (H:H33 D σ F):(e33 F).Ok Try.prog:=okZ (f:=33) Try.func33 fun ⟨x0,x1,_⟩ y hy=>cR hF Try.func33 c33 (t33 H x0 x1 _ ⟨rfl,rfl⟩ hy)
def zpv:AC:=(.cond (.t 9) .skip (.exit 0))
def zrj:AC:=(.cond (.t 15) (.seq (rr [jv 4 (.mov kf)]) .ret) .skip)
def zqs:AC:=(rr [jm 10 5,jv 11 (.bin .add (.t 10) (jn 1)),jm 5 11])
def zo7:AC:=(.seq (.block 1 (.seq (rr [jm 12 1,jm 13 5,jx 14 (.call (jf 33) [.t 12,.t 13]),jv 15 (.un .not (.t 14))]) zrj)) zqs)
def zgB:AC:=(.seq (.seq (rr [jm 6 5,jv 7 (.fld (.t 2) 0 0),jl 8 7,jv 9 (.bin .lss (.t 6) (.t 8))]) zpv) zo7)
def zkt:AC:=(.seq (rr [jm 16 1,jk 17 16,jv 18 (.fld (.t 2) 0 0),jl 19 18,jv 20 (.bin .eql (.t 17) (.t 19)),jm 4 20]) .ret)
def zqR:AC:=(.block 0 (.loop zgB))
def znV:AC:=(.seq (.seq (rr [jv 5 (.mov (jn 0))]) zqR) zkt)
def A43:AC:=(.seq (.reg [.clr [2]] [jx 2 (.box (.t 0)),jv 4 (.mov kf)] []) znV)
def ztM:List An:=[⟨0,[.clr [2]],[],[],[]⟩]
theorem c43:cq Try.prog Try.f43 ztM=some A43:=by kernel_rfl
structure H43 (D:Den) (σ:Sig) (F:Nat):Prop where
 c33:C33 (D 33) F
 g33:σ 33=some (0,false)
abbrev R43 (r:Bool):(Nat→V)→Prop:=RR Try.prog [.tmp 4] 0 false (Enc.enc (r:Bool))
section
variable {r:Bool}
def uN (F:Nat) (x2:LI) (x1:GR) :Nat→Int→Option Bool
 | 0,_=>none
 | k + 1,x4=>
   bif decide (x4 < x1.1) then
    (uB F x2 x4).bind fun r6=>
    bif (!r6) then
     some false
    else
     (uN F x2 x1 k) (w64 (x4 + 1))
   else
    some ((x2.length:Int) == x1.1)
theorem zhL (H:H43 D σ F) (x2:LI) (x1:GR) :∀ (k:Nat) (x4:Int) (s:Nat→V),zr [(1,eL x2),(2,bG 2 x1),(4,jb false),(5,ji x4)] s→uN F x2 x1 k x4=some r→Run D σ (R43 r) (.run zgB [.lp zgB,.bk 0,.sq zkt]) s:=by
 intro k
 induction k with
 | zero=>intro x4 s _ h;exact nm h
 | succ k ih=>
   intro x4 s hs h
   rw [uN] at h
   obtain ⟨h1,h2,h4,h5⟩:=hs
   refine .seq (.seq (rg (gm h5 fun h6=>g1 2 (.ref (.bx 2) 0 [0] (ji x1.1)) h2 fun h7=>g1 7 (ji x1.1) h7 fun h8=>g2 6 8 (jb (decide (x4 < x1.1))) h6 h8 fun h9=>gq (.nsq (zk h9 h (fun h=>?_) (fun h=>?_))))))
   · refine .skip (.nsq (.seq (.block (.seq (rg (gm h1 fun h12=>gm h5 fun h13=>?_))))))
     obtain ⟨r6,Er6,h⟩:=zb h
     refine gcF [eL x2,Enc.enc (x4:Int)] (zg h12 rfl (Enc.erase_enc (x2:LI)) (zg h13 rfl rfl zF)) (H.c33 _ _ _ Er6) H.g33 (g1 14 (jb (!r6)) (rf (jb r6)) fun h15=>gq (.nsq (zk h15 h (fun h=>?_) (fun h=>?_))))
     · refine .seq (rg (g0 (jb false) fun h4=>gq (.nsq (.ret ?_))))
       obtain rfl:=oi h
       exact rrA (zl h4) rfl
     refine .skip (.nbk (.nsq (rg (gm h5 fun h10=>g1 10 (ji (w64 (x4 + 1))) h10 fun h11=>gm h11 fun h5=>gq (.nlp ?_)))))
     exact ih (w64 (x4 + 1)) _ ⟨h1,h2,h4,h5⟩ h
   refine .exit (.esq (.elp (.ebk (.nsq (.seq (rg (gm h1 fun h16=>gl x2 h16 fun h17=>g1 2 (.ref (.bx 2) 0 [0] (ji x1.1)) h2 fun h18=>g1 18 (ji x1.1) h18 fun h19=>g2 17 19 (jb ((x2.length:Int) == x1.1)) h17 h19 fun h20=>gm h20 fun h4=>gq (.nsq (.ret ?_)))))))))
   obtain rfl:=oi h
   exact rrA (zl h4) rfl
def YN (F:Nat) (x1:GR) (x2:LI):Option Bool:=
 uN F x2 x1 F 0
theorem t43 (H:H43 D σ F) (x1:GR) (x2:LI) (s:Nat→V) (hs:zr [(0,gV x1),(1,eL x2)] s) (h:YN F x1 x2=some r):Run D σ (R43 r) (.run A43 []) s:=by
 unfold YN at h
 obtain ⟨h0,h1⟩:=hs
 refine .seq (zC (ye ?_))
 refine ez [(0,_),(1,_),(2,_)] ⟨za h0 rfl mIE,za h1 rfl me,ze rfl⟩ ?_
 rintro s ⟨h0,h1,h2⟩
 refine wa (gV x1) (zI h0 rfl) h2 rfl (g0 (jb false) fun h4=>gq (.nsq (.seq (.seq (rg (g0 (ji 0) fun h5=>gq (.nsq (.block (.loop ?_)))))))))
 exact zhL H x2 x1 F 0 _ ⟨h1,rfl,h4,h5⟩ h
end
def e43 (F:Nat):Ent:=ent 43 (fun (x:(GR×LI×Unit))=>YN F x.1 x.2.1) (fun (r:Bool)=>(Enc.enc (r:Bool))) 0 false []
abbrev C43 (D:List V→Option V) (F:Nat):Prop:=∀ (x0:GR) (x1:LI) r,YN F x0 x1=some r→D [Enc.enc x0,Enc.enc x1]=some (Enc.enc (r:Bool))
theorem p43 {F:Nat}:C43 (e43 F).den F:=fun x0 x1 _ h=>zR (x0,x1,()) h
theorem o43 (hF:zw Try.prog D σ) (H:H43 D σ F):(e43 F).Ok Try.prog:=okZ (f:=43) Try.func43 fun ⟨x0,x1,_⟩ y hy=>cR hF Try.func43 c43 (t43 H x0 x1 _ ⟨rfl,rfl⟩ hy)
def zpd:AC:=(.seq (rr [jv 5 (.load (.ag [.s,.p]) (.t 2)),jm 6 1,jx 7 (.call (jf 43) [.t 5,.t 6]),jm 4 7]) .ret)
def A26:AC:=(.seq (.reg [.clr [2]] [jx 2 (.box (.t 0)),jv 4 (.mov kf)] []) zpd)
def zui:List An:=[⟨0,[.clr [2]],[],[],[]⟩]
theorem c26:cq Try.prog Try.f26 zui=some A26:=by kernel_rfl
structure H26 (D:Den) (σ:Sig) (F:Nat):Prop where
 c43:C43 (D 43) F
 g43:σ 43=some (0,false)
abbrev R26 (r:Bool):(Nat→V)→Prop:=RR Try.prog [.tmp 4] 0 false (Enc.enc (r:Bool))
section
variable {r:Bool}
def vI (F:Nat) (x1:GR) (x2:LI):Option Bool:=
 (YN F x1 x2).bind fun r3=>
 some r3
theorem t26 (H:H26 D σ F) (x1:GR) (x2:LI) (s:Nat→V) (hs:zr [(0,gV x1),(1,eL x2)] s) (h:vI F x1 x2=some r):Run D σ (R26 r) (.run A26 []) s:=by
 unfold vI at h
 obtain ⟨h0,h1⟩:=hs
 refine .seq (zC (ye ?_))
 refine ez [(0,_),(1,_),(2,_)] ⟨za h0 rfl mIE,za h1 rfl me,ze rfl⟩ ?_
 rintro s ⟨h0,h1,h2⟩
 refine wa (gV x1) (zI h0 rfl) h2 rfl (g0 (jb false) fun h4=>gq (.nsq (.seq (rg (g1 2 (gV x1) (rf (bG 2 x1)) fun h5=>gm h1 fun h6=>?_)))))
 obtain ⟨r3,Er3,h⟩:=zb h
 refine gcF [Enc.enc (x1:GR),eL x2] (zg h5 rfl (Enc.erase_enc (x1:GR)) (zg h6 rfl (Enc.erase_enc (x2:LI)) zF)) (H.c43 _ _ _ Er3) H.g43 (gm (rf (jb r3)) fun h4=>gq (.nsq (.ret ?_)))
 obtain rfl:=oi h
 exact rrA (zl h4) rfl
end
def e26 (F:Nat):Ent:=ent 26 (fun (x:(GR×LI×Unit))=>vI F x.1 x.2.1) (fun (r:Bool)=>(Enc.enc (r:Bool))) 0 false []
abbrev C26 (D:List V→Option V) (F:Nat):Prop:=∀ (x0:GR) (x1:LI) r,vI F x0 x1=some r→D [Enc.enc x0,Enc.enc x1]=some (Enc.enc (r:Bool))
theorem p26 {F:Nat}:C26 (e26 F).den F:=fun x0 x1 _ h=>zR (x0,x1,()) h
theorem o26 (hF:zw Try.prog D σ) (H:H26 D σ F):(e26 F).Ok Try.prog:=okZ (f:=26) Try.func26 fun ⟨x0,x1,_⟩ y hy=>cR hF Try.func26 c26 (t26 H x0 x1 _ ⟨rfl,rfl⟩ hy)
def zld:AC:=(.cond (.t 31) (.seq (rr [jm 32 0,jm 4 32]) .ret) .skip)
def zkx:AC:=(.seq (.reg [.clr [33,37,39,40,44]] [jy 33 (.lit i0 0 []),jm 34 0,jm 35 5,jv 36 (.slice (.t 34) none (some (.t 35)) 1),jy 37 (.appS .s (.t 33) (.t 36)),jm 38 1,jx 39 (.lit i0 1 [(0,0,.t 38)]),jy 40 (.appS .s (.t 37) (.t 39)),jm 41 0,jm 42 5,jv 43 (.slice (.t 41) (some (.t 42)) none 1),jx 44 (.appS .s (.t 40) (.t 43)),jm 4 44] [.home 44 4]) .ret)
def zk5:AC:=(.cond (.t 17) .skip (.exit 0))
def zkT:AC:=(.block 1 (rr [jm 18 5,jv 19 (.bin .add (.t 18) (jn 1)),jm 5 19]))
def Nl:AC:=(.seq (.seq (rr [jm 6 5,jm 7 0,jk 8 7,jv 9 (.bin .lss (.t 6) (.t 8)),jm 10 9,jg 11 10 true (.mov (.t 0)),jg 12 10 true (.mov (.t 5)),jg 13 10 true (.idx (.t 11) (.t 12) 1),jg 14 10 true (.load .s (.t 13)),jg 15 10 true (.mov (.t 1)),jg 16 10 true (.bin .lss (.t 14) (.t 15)),jv 17 (.pick (.t 10) (.t 16) kf)]) zk5) zkT)
def zez:AC:=(.seq (.seq (rr [jm 20 5,jm 21 0,jk 22 21,jv 23 (.bin .lss (.t 20) (.t 22)),jm 24 23,jg 25 24 true (.mov (.t 0)),jg 26 24 true (.mov (.t 5)),jg 27 24 true (.idx (.t 25) (.t 26) 1),jg 28 24 true (.load .s (.t 27)),jg 29 24 true (.mov (.t 1)),jg 30 24 true (.bin .eql (.t 28) (.t 29)),jv 31 (.pick (.t 24) (.t 30) kf)]) zld) zkx)
def zo9:AC:=(.seq (.block 0 (.loop Nl)) zez)
def zp5:AC:=(.seq (rr [jv 5 (.mov (jn 0))]) zo9)
def A45:AC:=(.seq (rr [jv 4 (.mov (.k (.sl .nl .s 0 [])))]) zp5)
def ztc:List An:=[⟨6,[.clr [33,37,39,40,44]],[0,4,7],[4,7,11],[.home 44 4]⟩]
theorem c45:cq Try.prog Try.f45 ztc=some A45:=by kernel_rfl
structure H45 (D:Den) (σ:Sig) (F:Nat):Prop where
 mk ::
abbrev R45 (r:LI):(Nat→V)→Prop:=RR Try.prog [.tmp 4] 0 true (eL r)
section
variable {r:LI}
def Yu (F:Nat) (x1:LI) (x2:Int) (x6:Int)  (x13:Bool):Option LI:=
 bif x13 then
  some x1
 else
  (sub x1 0 x6).bind fun sub14=>
  (vW [] sub14).bind fun ap15=>
  (vW ap15 [x2]).bind fun ap16=>
  (sub x1 x6 (x1.length:Int)).bind fun sub17=>
  (vW ap16 sub17).bind fun ap18=>
  some ap18
theorem zbi (H:H45 D σ F) (x1:LI) (x2:Int) (x6:Int)  (x13:Bool) (s:Nat→V) (hs:zr [(0,eL x1),(1,ji x2),(4,nI),(5,ji x6),(31,jb x13)] s) (h:Yu F x1 x2 x6  x13=some r):Run D σ (R45 r) (.nrm [.sq zld,.sq zkx]) s:=by
 unfold Yu at h
 obtain ⟨h0,h1,h4,h5,h31⟩:=hs
 refine .nsq (zk h31 h (fun h=>?_) (fun h=>?_))
 · refine .seq (rg (gm h0 fun h32=>gm h32 fun h4=>gq (.nsq (.ret ?_))))
   obtain rfl:=oi h
   exact rrA (zl h4) (ZC (w7 (x:=(x1:LI))))
 refine .skip (.nsq (.seq (zC (ye ?_))))
 refine ez [(0,_),(1,_),(4,_),(5,_),(33,_),(37,_),(39,_),(40,_),(44,_)] ⟨za h0 rfl me,za h1 rfl mi,za h4 rfl rfl,za h5 rfl mi,ze rfl,ze rfl,ze rfl,ze rfl,ze rfl⟩ ?_
 rintro s ⟨h0,h1,h4,h5,h33,h37,h39,h40,h44⟩
 refine Lu [] [] trivial rfl rfl h33 (gm h0 fun h34=>gm h5 fun h35=>?_)
 obtain ⟨sub14,Esub14,h⟩:=zb h
 refine gv (eL sub14) (Uu (xs:=x1) h34 (Ze) (Zs h35) Esub14 rfl) fun h36=>?_
 obtain ⟨ap15,Eap15,h⟩:=zb h
 refine XU (p:=[]) (xs:=[]) (ys:=(sub14:LI)) (t2:=.sh) (lo2:=0) rfl h36 rfl h37 rfl Eap15 (gm h1 fun h38=>wm [(38,ji x2)] [Enc.enc (x2:Int)] h38 rfl rfl h39 ?_)
 obtain ⟨ap16,Eap16,h⟩:=zb h
 refine XU (p:=[]) (xs:=ap15) (ys:=([x2]:LI)) (t2:=.at 39 []) (lo2:=0) rfl rfl rfl h40 rfl Eap16 (gm h0 fun h41=>gm h5 fun h42=>?_)
 obtain ⟨sub17,Esub17,h⟩:=zb h
 refine gv (eL sub17) (Uu (xs:=x1) h41 (Zs h42) (Ze) Esub17 rfl) fun h43=>?_
 obtain ⟨ap18,Eap18,h⟩:=zb h
 refine XU (p:=[]) (xs:=ap16) (ys:=(sub17:LI)) (t2:=.sh) (lo2:=0) rfl h43 rfl h44 rfl Eap18 (gm (rf (oI 44 [] (.of ap18))) fun h4=>yS (yF (r:=44) (x:=4) (v:=_) h4 rfl (fun s2 hz2=>?_)))
 refine ez [(4,oI 4 [] (.of ap18))] (hz2 4 _ _ h4 (zp (r:=44) (p:=[]) rfl rfl)) ?_
 rintro s h4
 refine .nsq (.ret ?_)
 obtain rfl:=oi h
 exact rrA (zl h4) (ZC (ui (o:=.of ap18)))
def Yr (F:Nat) (x1:LI) (x2:Int) (x6:Int) (c1:Int→Option LI) (x11:Bool):Option LI:=
 bif x11 then
  c1 (w64 (x6 + 1))
 else
  bif decide (x6 < (x1.length:Int)) then
   (idx x1 x6).bind fun v19=>
   Yu F x1 x2 x6 (v19 == x2)
  else
   Yu F x1 x2 x6 false
theorem zbu (H:H45 D σ F) (x1:LI) (x2:Int) (x6:Int) (c1:Int→Option LI) (Hc1:∀ (x6:Int) (s:Nat→V),zr [(0,eL x1),(1,ji x2),(4,nI),(5,ji x6)] s→c1 x6=some r→Run D σ (R45 r) (.run Nl [.lp Nl,.bk 0,.sq zez]) s) (x11:Bool) (s:Nat→V) (hs:zr [(0,eL x1),(1,ji x2),(4,nI),(5,ji x6),(17,jb x11)] s) (h:Yr F x1 x2 x6 c1 x11=some r):Run D σ (R45 r) (.nrm [.sq zk5,.sq zkT,.lp Nl,.bk 0,.sq zez]) s:=by
 unfold Yr at h
 obtain ⟨h0,h1,h4,h5,h17⟩:=hs
 refine .nsq (zk h17 h (fun h=>?_) (fun h=>?_))
 · refine .skip (.nsq (.block (rg (gm h5 fun h18=>g1 18 (ji (w64 (x6 + 1))) h18 fun h19=>gm h19 fun h5=>gq (.nbk (.nlp ?_))))))
   exact Hc1 (w64 (x6 + 1)) _ ⟨h0,h1,h4,h5⟩ h
 refine .exit (.esq (.elp (.ebk (.nsq (.seq (.seq (rg (gm h5 fun h20=>gm h0 fun h21=>gl x1 h21 fun h22=>g2 20 22 (jb (decide (x6 < (x1.length:Int)))) h20 h22 fun h23=>gm h23 fun h24=>z6 h (fun hg5 h=>?_) (fun hg5 h=>?_)))))))))
 · refine zo (ct h24 hg5) (gm h0 fun h25=>zo (ct h24 hg5) (gm h5 fun h26=>?_))
   obtain ⟨v19,Ev19,h⟩:=zb h
   refine zo (ct h24 hg5) (gv (.ref .sh 0 [] (ji v19)) (yn (t:=.sh) (lo:=0) (xs:=x1) h25 h26 Ev19 rfl rfl) fun h27=>zo (ct h24 hg5) (g1 27 (ji v19) h27 fun h28=>zo (ct h24 hg5) (gm h1 fun h29=>zo (ct h24 hg5) (g2 28 29 (jb (v19 == x2)) h28 h29 fun h30=>g2 24 30 (jb (v19 == x2)) (ct h24 hg5) h30 fun h31=>gq ?_))))
   exact zbi H x1 x2 x6 (v19 == x2) _ ⟨h0,h1,h4,h5,h31⟩ h
 iterate 6 refine yJ (ct h24 hg5) ?_
 refine g2 24 30 (jb false) (ct h24 hg5) (rf (.tup [])) fun h31=>gq ?_
 exact zbi H x1 x2 x6 false _ ⟨h0,h1,h4,h5,h31⟩ h
def vH (F:Nat) (x1:LI) (x2:Int) :Nat→Int→Option LI
 | 0,_=>none
 | k + 1,x6=>
   bif decide (x6 < (x1.length:Int)) then
    (idx x1 x6).bind fun v20=>
    Yr F x1 x2 x6 (vH F x1 x2 k) (decide (v20 < x2))
   else
    Yr F x1 x2 x6 (vH F x1 x2 k) false
theorem zix (H:H45 D σ F) (x1:LI) (x2:Int) :∀ (k:Nat) (x6:Int) (s:Nat→V),zr [(0,eL x1),(1,ji x2),(4,nI),(5,ji x6)] s→vH F x1 x2 k x6=some r→Run D σ (R45 r) (.run Nl [.lp Nl,.bk 0,.sq zez]) s:=by
 intro k
 induction k with
 | zero=>intro x6 s _ h;exact nm h
 | succ k ih=>
   intro x6 s hs h
   rw [vH] at h
   obtain ⟨h0,h1,h4,h5⟩:=hs
   refine .seq (.seq (rg (gm h5 fun h6=>gm h0 fun h7=>gl x1 h7 fun h8=>g2 6 8 (jb (decide (x6 < (x1.length:Int)))) h6 h8 fun h9=>gm h9 fun h10=>z6 h (fun hg5 h=>?_) (fun hg5 h=>?_))))
   · refine zo (ct h10 hg5) (gm h0 fun h11=>zo (ct h10 hg5) (gm h5 fun h12=>?_))
     obtain ⟨v20,Ev20,h⟩:=zb h
     refine zo (ct h10 hg5) (gv (.ref .sh 0 [] (ji v20)) (yn (t:=.sh) (lo:=0) (xs:=x1) h11 h12 Ev20 rfl rfl) fun h13=>zo (ct h10 hg5) (g1 13 (ji v20) h13 fun h14=>zo (ct h10 hg5) (gm h1 fun h15=>zo (ct h10 hg5) (g2 14 15 (jb (decide (v20 < x2))) h14 h15 fun h16=>g2 10 16 (jb (decide (v20 < x2))) (ct h10 hg5) h16 fun h17=>gq ?_))))
     exact zbu H x1 x2 x6 (vH F x1 x2 k) ih (decide (v20 < x2)) _ ⟨h0,h1,h4,h5,h17⟩ h
   iterate 6 refine yJ (ct h10 hg5) ?_
   refine g2 10 16 (jb false) (ct h10 hg5) (rf (.tup [])) fun h17=>gq ?_
   exact zbu H x1 x2 x6 (vH F x1 x2 k) ih false _ ⟨h0,h1,h4,h5,h17⟩ h
def ZH (F:Nat) (x1:LI) (x2:Int):Option LI:=
 vH F x1 x2 F 0
theorem t45 (H:H45 D σ F) (x1:LI) (x2:Int) (s:Nat→V) (hs:zr [(0,eL x1),(1,ji x2)] s) (h:ZH F x1 x2=some r):Run D σ (R45 r) (.run A45 []) s:=by
 unfold ZH at h
 obtain ⟨h0,h1⟩:=hs
 refine .seq (rg (g0 nI fun h4=>gq (.nsq (.seq (rg (g0 (ji 0) fun h5=>gq (.nsq (.seq (.block (.loop ?_))))))))))
 exact zix H x1 x2 F 0 _ ⟨h0,h1,h4,h5⟩ h
end
def e45 (F:Nat):Ent:=ent 45 (fun (x:(LI×Int×Unit))=>ZH F x.1 x.2.1) (fun (r:LI)=>(eL r)) 0 true []
abbrev C45 (D:List V→Option V) (F:Nat):Prop:=∀ (x0:LI) (x1:Int) r,ZH F x0 x1=some r→D [Enc.enc x0,Enc.enc x1]=some (eL r)
theorem p45 {F:Nat}:C45 (e45 F).den F:=fun x0 x1 _ h=>zR (x0,x1,()) h
theorem o45 (hF:zw Try.prog D σ) (H:H45 D σ F):(e45 F).Ok Try.prog:=okZ (f:=45) Try.func45 fun ⟨x0,x1,_⟩ y hy=>cR hF Try.func45 c45 (t45 H x0 x1 _ ⟨rfl,rfl⟩ hy)
def zq9:AC:=(.cond (.t 14) .skip (.exit 0))
def zoH:AC:=(.cond (.t 24) .skip (.exit 2))
def zm8:AC:=(.cond (.t 31) .skip (.exit 4))
def zmb:AC:=(.cond (.t 43) (.reg [.frz 7] [jm 44 7,jm 45 1,jm 46 8,jv 47 (.idx (.t 45) (.t 46) 1),jl 48 47,jx 49 (.call (jf 45) [.t 44,.t 48]),jm 7 49] []) .skip)
def zic:AC:=(rr [jm 32 9,jv 33 (.bin .add (.t 32) (jn 1)),jm 9 33])
def zng:AC:=(.seq (.block 5 (.seq (rr [jv 34 (.load (.ag [.s,.p]) (.t 2)),jm 35 1,jm 36 8,jv 37 (.idx (.t 35) (.t 36) 1),jl 38 37,jm 39 1,jm 40 9,jv 41 (.idx (.t 39) (.t 40) 1),jl 42 41,jx 43 (.call (jf 44) [.t 34,.t 38,.t 42])]) zmb)) zic)
def Kq:AC:=(.seq (.seq (rr [jm 28 9,jm 29 1,jk 30 29,jv 31 (.bin .lss (.t 28) (.t 30))]) zm8) zng)
def zoM:AC:=(.block 4 (.loop Kq))
def zaR:AC:=(rr [jm 25 8,jv 26 (.bin .add (.t 25) (jn 1)),jm 8 26])
def zoE:AC:=(.seq (.block 3 (.seq (rr [jm 27 6,jm 9 27]) zoM)) zaR)
def Jj:AC:=(.seq (.seq (rr [jm 22 8,jm 23 6,jv 24 (.bin .lss (.t 22) (.t 23))]) zoH) zoE)
def zru:AC:=(.block 2 (.loop Jj))
def JB:AC:=(.reg [.clr [52,53]] [jm 50 5,jm 51 7,jx 52 (.lit (.sl .nl .s 0 []) 1 [(0,0,.t 51)]),jx 53 (.app .p (.t 50) (.t 52)),jm 5 53] [.home 53 5])
def zqN:AC:=(.seq (.seq (rr [jv 8 (.mov (jn 0))]) zru) JB)
def JG:AC:=(rr [jm 15 6,jv 16 (.bin .add (.t 15) (jn 1)),jm 6 16])
def zrs:AC:=(.seq (.block 1 (.seq (.reg [.clr [21]] [jm 17 1,jm 18 6,jv 19 (.idx (.t 17) (.t 18) 1),jl 20 19,jx 21 (.lit i0 1 [(0,0,.t 20)]),jm 7 21] [.home 21 7,.frz 7]) zqN)) JG)
def XZ:AC:=(.seq (.seq (rr [jm 11 6,jm 12 1,jk 13 12,jv 14 (.bin .lss (.t 11) (.t 13))]) zq9) zrs)
def Xw:AC:=(.seq (.reg [] [jm 54 5,jm 4 54] [.home 5 4]) .ret)
def zlM:AC:=(.block 0 (.loop XZ))
def zmu:AC:=(.seq (.seq (rr [jv 6 (.mov (jn 0))]) zlM) Xw)
def zmO:AC:=(.seq (.reg [.clr [10]] [jx 10 (.lit (.sl .nl .s 0 []) 0 []),jm 5 10] [.home 10 5]) zmu)
def A27:AC:=(.seq (.reg [.clr [2]] [jx 2 (.box (.t 0)),jv 4 (.mov (.k (.sl .nl .p 0 [])))] []) zmO)
def zuk:List An:=[⟨0,[.clr [2]],[],[],[]⟩,⟨1,[.clr [10]],[],[],[.home 10 5]⟩,⟨5,[.clr [21]],[],[],[.home 21 7,.frz 7]⟩,⟨13,[.frz 7],[],[],[]⟩,⟨14,[.clr [52,53]],[],[],[.home 53 5]⟩,⟨15,[],[],[],[.home 5 4]⟩]
theorem c27:cq Try.prog Try.f27 zuk=some A27:=by kernel_rfl
structure H27 (D:Den) (σ:Sig) (F:Nat):Prop where
 c44:C44 (D 44) F
 g44:σ 44=some (0,false)
 c45:C45 (D 45) F
 g45:σ 45=some (0,true)
abbrev R27 (r:(List LI)):(Nat→V)→Prop:=RR Try.prog [.tmp 4] 0 true (Enc.enc (r:(List LI)))
section
variable {r:(List LI)}
def ur (F:Nat) (x2:LI) (x1:GR) (x85:(List LI)) (x86:Int) (x197:Int) (x233:Int) (c1:(List LI)→Int→Option (List LI)) (c10:LI→Int→Option (List LI)) (c13:LI→Int→Option (List LI)) (x247:LI):Option (List LI):=
 c13 x247 (w64 (x233 + 1))
theorem zb0 (H:H27 D σ F) (x2:LI) (x1:GR) (x85:(List LI)) (x86:Int) (x197:Int) (x233:Int) (c1:(List LI)→Int→Option (List LI)) (Hc1:∀ (x85:(List LI)) (x86:Int) (s:Nat→V),zr [(1,eL x2),(2,bG 2 x1),(4,.sl .nl (Enc.shp LI) 0 []),(5,zm (.at 5 []) (.of (x85:List LI))),(6,ji x86)] s→c1 x85 x86=some r→Run D σ (R27 r) (.run XZ [.lp XZ,.bk 0,.sq Xw]) s) (c10:LI→Int→Option (List LI)) (Hc10:∀ (x196:LI) (x197:Int) (s:Nat→V),zr [(1,eL x2),(2,bG 2 x1),(4,.sl .nl (Enc.shp LI) 0 []),(5,zm (.at 5 []) (.of (x85:List LI))),(6,ji x86),(7,eL x196),(8,ji x197)] s→c10 x196 x197=some r→Run D σ (R27 r) (.run Jj [.lp Jj,.bk 2,.sq JB,.bk 1,.sq JG,.lp XZ,.bk 0,.sq Xw]) s) (c13:LI→Int→Option (List LI)) (Hc13:∀ (x232:LI) (x233:Int) (s:Nat→V),zr [(1,eL x2),(2,bG 2 x1),(4,.sl .nl (Enc.shp LI) 0 []),(5,zm (.at 5 []) (.of (x85:List LI))),(6,ji x86),(7,eL x232),(8,ji x197),(9,ji x233)] s→c13 x232 x233=some r→Run D σ (R27 r) (.run Kq [.lp Kq,.bk 4,.bk 3,.sq zaR,.lp Jj,.bk 2,.sq JB,.bk 1,.sq JG,.lp XZ,.bk 0,.sq Xw]) s) (x247:LI) (s:Nat→V) (hs:zr [(1,eL x2),(2,bG 2 x1),(4,.sl .nl (Enc.shp LI) 0 []),(5,zm (.at 5 []) (.of (x85:List LI))),(6,ji x86),(7,eL x247),(8,ji x197),(9,ji x233)] s) (h:ur F x2 x1 x85 x86 x197 x233 c1 c10 c13 x247=some r):Run D σ (R27 r) (.nrm [.bk 5,.sq zic,.lp Kq,.bk 4,.bk 3,.sq zaR,.lp Jj,.bk 2,.sq JB,.bk 1,.sq JG,.lp XZ,.bk 0,.sq Xw]) s:=by
 unfold ur at h
 obtain ⟨h1,h2,h4,h5,h6,h7,h8,h9⟩:=hs
 refine .nbk (.nsq (rg (gm h9 fun h32=>g1 32 (ji (w64 (x233 + 1))) h32 fun h33=>gm h33 fun h9=>gq (.nlp ?_))))
 exact Hc13 x247 (w64 (x233 + 1)) _ ⟨h1,h2,h4,h5,h6,h7,h8,h9⟩ h
def xu (F:Nat) (x2:LI) (x1:GR) (x85:(List LI)) (x86:Int) (x197:Int) (c1:(List LI)→Int→Option (List LI)) (c10:LI→Int→Option (List LI)):Nat→LI→Int→Option (List LI)
 | 0,_,_=>none
 | k + 1,x232,x233=>
   bif decide (x233 < (x2.length:Int)) then
    (idx x2 x197).bind fun v242=>
    (idx x2 x233).bind fun v243=>
    (uV F x1 v242 v243).bind fun r244=>
    bif r244 then
     (idx x2 x197).bind fun v248=>
     (ZH F x232 v248).bind fun r249=>
     ur F x2 x1 x85 x86 x197 x233 c1 c10 (xu F x2 x1 x85 x86 x197 c1 c10 k) r249
    else
     ur F x2 x1 x85 x86 x197 x233 c1 c10 (xu F x2 x1 x85 x86 x197 c1 c10 k) x232
   else
    c10 x232 (w64 (x197 + 1))
theorem ziH (H:H27 D σ F) (x2:LI) (x1:GR) (x85:(List LI)) (x86:Int) (x197:Int) (c1:(List LI)→Int→Option (List LI)) (Hc1:∀ (x85:(List LI)) (x86:Int) (s:Nat→V),zr [(1,eL x2),(2,bG 2 x1),(4,.sl .nl (Enc.shp LI) 0 []),(5,zm (.at 5 []) (.of (x85:List LI))),(6,ji x86)] s→c1 x85 x86=some r→Run D σ (R27 r) (.run XZ [.lp XZ,.bk 0,.sq Xw]) s) (c10:LI→Int→Option (List LI)) (Hc10:∀ (x196:LI) (x197:Int) (s:Nat→V),zr [(1,eL x2),(2,bG 2 x1),(4,.sl .nl (Enc.shp LI) 0 []),(5,zm (.at 5 []) (.of (x85:List LI))),(6,ji x86),(7,eL x196),(8,ji x197)] s→c10 x196 x197=some r→Run D σ (R27 r) (.run Jj [.lp Jj,.bk 2,.sq JB,.bk 1,.sq JG,.lp XZ,.bk 0,.sq Xw]) s):∀ (k:Nat) (x232:LI) (x233:Int) (s:Nat→V),zr [(1,eL x2),(2,bG 2 x1),(4,.sl .nl (Enc.shp LI) 0 []),(5,zm (.at 5 []) (.of (x85:List LI))),(6,ji x86),(7,eL x232),(8,ji x197),(9,ji x233)] s→xu F x2 x1 x85 x86 x197 c1 c10 k x232 x233=some r→Run D σ (R27 r) (.run Kq [.lp Kq,.bk 4,.bk 3,.sq zaR,.lp Jj,.bk 2,.sq JB,.bk 1,.sq JG,.lp XZ,.bk 0,.sq Xw]) s:=by
 intro k
 induction k with
 | zero=>intro x232 x233 s _ h;exact nm h
 | succ k ih=>
   intro x232 x233 s hs h
   rw [xu] at h
   obtain ⟨h1,h2,h4,h5,h6,h7,h8,h9⟩:=hs
   refine .seq (.seq (rg (gm h9 fun h28=>gm h1 fun h29=>gl x2 h29 fun h30=>g2 28 30 (jb (decide (x233 < (x2.length:Int)))) h28 h30 fun h31=>gq (.nsq (zk h31 h (fun h=>?_) (fun h=>?_))))))
   · refine .skip (.nsq (.seq (.block (.seq (rg (g1 2 (gV x1) h2 fun h34=>gm h1 fun h35=>gm h8 fun h36=>?_))))))
     obtain ⟨v242,Ev242,h⟩:=zb h
     refine gv (.ref .sh 0 [] (ji v242)) (yn (t:=.sh) (lo:=0) (xs:=x2) h35 h36 Ev242 rfl rfl) fun h37=>g1 37 (ji v242) h37 fun h38=>gm h1 fun h39=>gm h9 fun h40=>?_
     obtain ⟨v243,Ev243,h⟩:=zb h
     refine gv (.ref .sh 0 [] (ji v243)) (yn (t:=.sh) (lo:=0) (xs:=x2) h39 h40 Ev243 rfl rfl) fun h41=>g1 41 (ji v243) h41 fun h42=>?_
     obtain ⟨r244,Er244,h⟩:=zb h
     refine gcF [Enc.enc (x1:GR),Enc.enc (v242:Int),Enc.enc (v243:Int)] (zg h34 rfl (Enc.erase_enc (x1:GR)) (zg h38 rfl rfl (zg h42 rfl rfl zF))) (H.c44 _ _ _ _ Er244) H.g44 (gq (.nsq (zk rfl h (fun h=>?_) (fun h=>?_))))
     · refine zC (Yb (x:=7) (v:=eL x232) [] (by exact h7) (Enc.toks_enc (x232:LI)) (fun s72 hz72=>?_))
       refine ez [(1,_),(2,_),(4,_),(5,_),(6,_),(7,_),(8,_),(9,_)] ⟨hz72 1 _ _ h1 (wc _),hz72 2 _ _ h2 (wc _),hz72 4 _ _ h4 (wc _),hz72 5 _ _ h5 (wc _),hz72 6 _ _ h6 (wc _),hz72 7 _ _ h7 (wc _),hz72 8 _ _ h8 (wc _),hz72 9 _ _ h9 (wc _)⟩ ?_
       rintro s ⟨h1,h2,h4,h5,h6,h7,h8,h9⟩
       refine gm h7 fun h44=>gm h1 fun h45=>gm h8 fun h46=>?_
       obtain ⟨v248,Ev248,h⟩:=zb h
       refine gv (.ref .sh 0 [] (ji v248)) (yn (t:=.sh) (lo:=0) (xs:=x2) h45 h46 Ev248 rfl rfl) fun h47=>g1 47 (ji v248) h47 fun h48=>?_
       obtain ⟨r249,Er249,h⟩:=zb h
       refine Wj (m:=0) (al:=true) (r:=eL r249) [eL x232,Enc.enc (v248:Int)] (zg h44 rfl (Enc.erase_enc (x232:LI)) (zg h48 rfl rfl zF)) (H.c45 _ _ _ Er249) H.g45 (We (vn (v:=eL x232) h44 rfl rfl (vn (v:=ji v248) h48 rfl rfl Wd))) rfl rfl rfl (gm (rf (eL r249)) fun h7=>gq ?_)
       exact zb0 H x2 x1 x85 x86 x197 x233 c1 Hc1 c10 Hc10 (xu F x2 x1 x85 x86 x197 c1 c10 k) ih r249 _ ⟨h1,h2,h4,h5,h6,h7,h8,h9⟩ h
     refine .skip ?_
     exact zb0 H x2 x1 x85 x86 x197 x233 c1 Hc1 c10 Hc10 (xu F x2 x1 x85 x86 x197 c1 c10 k) ih x232 _ ⟨h1,h2,h4,h5,h6,h7,h8,h9⟩ h
   refine .exit (.esq (.elp (.ebk (.nbk (.nsq (rg (gm h8 fun h25=>g1 25 (ji (w64 (x197 + 1))) h25 fun h26=>gm h26 fun h8=>gq (.nlp ?_))))))))
   exact Hc10 x232 (w64 (x197 + 1)) _ ⟨h1,h2,h4,h5,h6,h7,h8⟩ h
def xy (F:Nat) (x2:LI) (x1:GR) (x85:(List LI)) (x86:Int) (c1:(List LI)→Int→Option (List LI)):Nat→LI→Int→Option (List LI)
 | 0,_,_=>none
 | k + 1,x196,x197=>
   bif decide (x197 < x86) then
    xu F x2 x1 x85 x86 x197 c1 (xy F x2 x1 x85 x86 c1 k) F x196 x86
   else
    (vW x85 [x196]).bind fun ap250=>
    c1 ap250 (w64 (x86 + 1))
theorem zhn (H:H27 D σ F) (x2:LI) (x1:GR) (x85:(List LI)) (x86:Int) (c1:(List LI)→Int→Option (List LI)) (Hc1:∀ (x85:(List LI)) (x86:Int) (s:Nat→V),zr [(1,eL x2),(2,bG 2 x1),(4,.sl .nl (Enc.shp LI) 0 []),(5,zm (.at 5 []) (.of (x85:List LI))),(6,ji x86)] s→c1 x85 x86=some r→Run D σ (R27 r) (.run XZ [.lp XZ,.bk 0,.sq Xw]) s):∀ (k:Nat) (x196:LI) (x197:Int) (s:Nat→V),zr [(1,eL x2),(2,bG 2 x1),(4,.sl .nl (Enc.shp LI) 0 []),(5,zm (.at 5 []) (.of (x85:List LI))),(6,ji x86),(7,eL x196),(8,ji x197)] s→xy F x2 x1 x85 x86 c1 k x196 x197=some r→Run D σ (R27 r) (.run Jj [.lp Jj,.bk 2,.sq JB,.bk 1,.sq JG,.lp XZ,.bk 0,.sq Xw]) s:=by
 intro k
 induction k with
 | zero=>intro x196 x197 s _ h;exact nm h
 | succ k ih=>
   intro x196 x197 s hs h
   rw [xy] at h
   obtain ⟨h1,h2,h4,h5,h6,h7,h8⟩:=hs
   refine .seq (.seq (rg (gm h8 fun h22=>gm h6 fun h23=>g2 22 23 (jb (decide (x197 < x86))) h22 h23 fun h24=>gq (.nsq (zk h24 h (fun h=>?_) (fun h=>?_))))))
   · refine .skip (.nsq (.seq (.block (.seq (rg (gm h6 fun h27=>gm h27 fun h9=>gq (.nsq (.block (.loop ?_)))))))))
     exact ziH H x2 x1 x85 x86 x197 c1 Hc1 (xy F x2 x1 x85 x86 c1 k) ih F x196 x86 _ ⟨h1,h2,h4,h5,h6,h7,h8,h9⟩ h
   refine .exit (.esq (.elp (.ebk (.nsq (zC (ye ?_))))))
   refine ez [(1,_),(2,_),(4,_),(5,_),(6,_),(7,_),(52,_),(53,_)] ⟨za h1 rfl me,za h2 rfl (zi rfl mIE),za h4 rfl rfl,za h5 rfl (zp (r:=5) (p:=[]) rfl rfl),za h6 rfl mi,za h7 rfl me,ze rfl,ze rfl⟩ ?_
   rintro s ⟨h1,h2,h4,h5,h6,h7,h52,h53⟩
   refine gm h5 fun h50=>gm h7 fun h51=>wm [(51,eL x196)] [eL x196] h51 rfl rfl h52 ?_
   obtain ⟨ap250,Eap250,h⟩:=zb h
   refine X4 (q:=5) (p:=[]) (o:=.of (x85:List LI)) (ys:=([x196]:List LI)) (t2:=.at 52 []) (lo2:=0) h50 rfl rfl h53 (Ya (o:=.of (x85:List LI)) Eap250 trivial) (fun s74 ha74=>gm (rf (zm (.at 53 []) (.of (ap250:List LI)))) fun h5=>yS (yF (r:=53) (x:=5) (v:=_) h5 rfl (fun s75 hz75=>?_)))
   refine ez [(1,eL x2),(2,bG 2 x1),(4,.sl .nl (Enc.shp LI) 0 []),(5,zm (.at 5 []) (.of (ap250:List LI))),(6,ji x86)] ⟨hz75 1 _ _ (show s74 1=(eL x2) from yc ha74 h1 me) me,hz75 2 _ _ (show s74 2=(bG 2 x1) from yc ha74 h2 (zi rfl mIE)) (zi rfl mIE),hz75 4 _ (.sl .nl (Enc.shp LI) 0 []) (show s74 4=(.sl .nl (Enc.shp LI) 0 []) from yc ha74 h4 rfl) rfl,hz75 5 _ _ h5 (zp (r:=53) (p:=[]) rfl rfl),hz75 6 _ _ (show s74 6=(ji x86) from yc ha74 h6 mi) mi⟩ ?_
   rintro s ⟨h1,h2,h4,h5,h6⟩
   refine .nbk (.nsq (rg (gm h6 fun h15=>g1 15 (ji (w64 (x86 + 1))) h15 fun h16=>gm h16 fun h6=>gq (.nlp ?_))))
   exact Hc1 ap250 (w64 (x86 + 1)) _ ⟨h1,h2,h4,h5,h6⟩ h
def yV (F:Nat) (x2:LI) (x1:GR) :Nat→(List LI)→Int→Option (List LI)
 | 0,_,_=>none
 | k + 1,x85,x86=>
   bif decide (x86 < (x2.length:Int)) then
    (idx x2 x86).bind fun v169=>
    xy F x2 x1 x85 x86 (yV F x2 x1 k) F [v169] 0
   else
    some x85
theorem zgR (H:H27 D σ F) (x2:LI) (x1:GR) :∀ (k:Nat) (x85:(List LI)) (x86:Int) (s:Nat→V),zr [(1,eL x2),(2,bG 2 x1),(4,.sl .nl (Enc.shp LI) 0 []),(5,zm (.at 5 []) (.of (x85:List LI))),(6,ji x86)] s→yV F x2 x1 k x85 x86=some r→Run D σ (R27 r) (.run XZ [.lp XZ,.bk 0,.sq Xw]) s:=by
 intro k
 induction k with
 | zero=>intro x85 x86 s _ h;exact nm h
 | succ k ih=>
   intro x85 x86 s hs h
   rw [yV] at h
   obtain ⟨h1,h2,h4,h5,h6⟩:=hs
   refine .seq (.seq (rg (gm h6 fun h11=>gm h1 fun h12=>gl x2 h12 fun h13=>g2 11 13 (jb (decide (x86 < (x2.length:Int)))) h11 h13 fun h14=>gq (.nsq (zk h14 h (fun h=>?_) (fun h=>?_))))))
   · refine .skip (.nsq (.seq (.block (.seq (zC (ye ?_))))))
     refine ez [(1,_),(2,_),(4,_),(5,_),(6,_),(21,_)] ⟨za h1 rfl me,za h2 rfl (zi rfl mIE),za h4 rfl rfl,za h5 rfl (zp (r:=5) (p:=[]) rfl rfl),za h6 rfl mi,ze rfl⟩ ?_
     rintro s ⟨h1,h2,h4,h5,h6,h21⟩
     refine gm h1 fun h17=>gm h6 fun h18=>?_
     obtain ⟨v169,Ev169,h⟩:=zb h
     refine gv (.ref .sh 0 [] (ji v169)) (yn (t:=.sh) (lo:=0) (xs:=x2) h17 h18 Ev169 rfl rfl) fun h19=>g1 19 (ji v169) h19 fun h20=>wm [(20,ji v169)] [Enc.enc (v169:Int)] h20 rfl rfl h21 (gm (rf (oI 21 [] (.of [v169]))) fun h7=>yS (yF (r:=21) (x:=7) (v:=_) h7 rfl (fun s53 hz53=>Yb (x:=7) (v:=oI 7 [] (.of [v169])) [.at 7 []] (by exact (hz53 7 _ _ h7 (zp (r:=21) (p:=[]) rfl rfl))) z2 (fun s54 hz54=>?_))))
     refine ez [(1,eL x2),(2,bG 2 x1),(4,.sl .nl (Enc.shp LI) 0 []),(5,zm (.at 5 []) (.of (x85:List LI))),(6,ji x86),(7,eL [v169])] ⟨hz54 1 (eL x2) (eL x2) (hz53 1 _ _ h1 me) zE,hz54 2 (bG 2 x1) (bG 2 x1) (hz53 2 _ _ h2 (zi rfl mIE)) (yO rfl zIE rfl),hz54 4 (.sl .nl (Enc.shp LI) 0 []) (.sl .nl (Enc.shp LI) 0 []) (hz53 4 _ (.sl .nl (Enc.shp LI) 0 []) h4 rfl) rfl,hz54 5 (zm (.at 5 []) (.of (x85:List LI))) (zm (.at 5 []) (.of (x85:List LI))) (hz53 5 _ _ h5 (zp (r:=5) (p:=[]) rfl rfl)) (L5 rfl rfl),hz54 6 (ji x86) (ji x86) (hz53 6 _ _ h6 mi) rfl,hz54 7 (oI 7 [] (.of [v169])) (eL [v169]) (hz53 7 _ _ h7 (zp (r:=21) (p:=[]) rfl rfl)) w8⟩ ?_
     rintro s ⟨h1,h2,h4,h5,h6,h7⟩
     refine .nsq (.seq (.seq (rg (g0 (ji 0) fun h8=>gq (.nsq (.block (.loop ?_)))))))
     exact zhn H x2 x1 x85 x86 (yV F x2 x1 k) ih F [v169] 0 _ ⟨h1,h2,h4,h5,h6,h7,h8⟩ h
   refine .exit (.esq (.elp (.ebk (.nsq (.seq (rg (gm h5 fun h54=>gm h54 fun h4=>yS (yF (r:=5) (x:=4) (v:=_) h4 rfl (fun s76 hz76=>?_)))))))))
   refine ez [(4,zm (.at 4 []) (.of (x85:List LI)))] (hz76 4 _ _ h4 (zp (r:=5) (p:=[]) rfl rfl)) ?_
   rintro s h4
   refine .nsq (.ret ?_)
   obtain rfl:=oi h
   exact rrA (zl h4) (ZC (ui (o:=.of x85)))
def ZK (F:Nat) (x1:GR) (x2:LI):Option (List LI):=
 yV F x2 x1 F [] 0
theorem t27 (H:H27 D σ F) (x1:GR) (x2:LI) (s:Nat→V) (hs:zr [(0,gV x1),(1,eL x2)] s) (h:ZK F x1 x2=some r):Run D σ (R27 r) (.run A27 []) s:=by
 unfold ZK at h
 obtain ⟨h0,h1⟩:=hs
 refine .seq (zC (ye ?_))
 refine ez [(0,_),(1,_),(2,_)] ⟨za h0 rfl mIE,za h1 rfl me,ze rfl⟩ ?_
 rintro s ⟨h0,h1,h2⟩
 refine wa (gV x1) (zI h0 rfl) h2 rfl (g0 (.sl .nl (Enc.shp LI) 0 []) fun h4=>gq (.nsq (.seq (zC (ye ?_)))))
 refine ez [(1,_),(2,_),(4,_),(10,_)] ⟨za h1 rfl me,za rfl rfl (zi rfl mIE),za h4 rfl rfl,ze rfl⟩ ?_
 rintro s ⟨h1,h2,h4,h10⟩
 refine wm [] [] trivial rfl rfl h10 (gm (rf (zm (.at 10 []) (.of ([]:List LI)))) fun h5=>yS (yF (r:=10) (x:=5) (v:=_) h5 rfl (fun s3 hz3=>?_)))
 refine ez [(1,eL x2),(2,bG 2 x1),(4,.sl .nl (Enc.shp LI) 0 []),(5,zm (.at 5 []) (.of ([]:List LI)))] ⟨hz3 1 _ _ h1 me,hz3 2 _ _ h2 (zi rfl mIE),hz3 4 _ _ h4 rfl,hz3 5 _ _ h5 (zp (r:=10) (p:=[]) rfl rfl)⟩ ?_
 rintro s ⟨h1,h2,h4,h5⟩
 refine .nsq (.seq (.seq (rg (g0 (ji 0) fun h6=>gq (.nsq (.block (.loop ?_)))))))
 exact zgR H x2 x1 F [] 0 _ ⟨h1,h2,h4,h5,h6⟩ h
end
def e27 (F:Nat):Ent:=ent 27 (fun (x:(GR×LI×Unit))=>ZK F x.1 x.2.1) (fun (r:(List LI))=>(Enc.enc (r:(List LI)))) 0 true []
abbrev C27 (D:List V→Option V) (F:Nat):Prop:=∀ (x0:GR) (x1:LI) r,ZK F x0 x1=some r→D [Enc.enc x0,Enc.enc x1]=some (Enc.enc (r:(List LI)))
theorem p27 {F:Nat}:C27 (e27 F).den F:=fun x0 x1 _ h=>zR (x0,x1,()) h
theorem o27 (hF:zw Try.prog D σ) (H:H27 D σ F):(e27 F).Ok Try.prog:=okZ (f:=27) Try.func27 fun ⟨x0,x1,_⟩ y hy=>cR hF Try.func27 c27 (t27 H x0 x1 _ ⟨rfl,rfl⟩ hy)
end Go.Zq
