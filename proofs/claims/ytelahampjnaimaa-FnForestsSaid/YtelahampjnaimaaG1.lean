/- Functions of the program as typed functions, and that the machine runs as they say (part 1). No further condition. -/
import Derived.Test.YtelahampjnaimaaK4
import Derived.Test.YtelahampjnaimaaProg
import Derived.Test.YtelahampjnaimaaChecked
import Derived.KernelRfl
set_option linter.unusedVariables false
set_option linter.unusedSimpArgs false
namespace Go.Zq
open Go.Proofs
variable {D:Den} {σ:Sig} {F:Nat}
def zwd:AC:=(.seq (rr [jm 3 0,jk 4 3,jv 5 (.bin .gtr (.t 4) (jn 65536)),jm 2 5]) .ret)
def A4:AC:=(.seq (rr [jv 2 (.mov kf)]) zwd)
def an4:List An:=[]
theorem c4:cq Try.prog Try.f4 an4=some A4:=by kernel_rfl
structure H4 (D:Den) (σ:Sig) (F:Nat):Prop where
 mk ::
abbrev R4 (r:Bool):(Nat→V)→Prop:=RR Try.prog [.tmp 2] 0 false (Enc.enc (r:Bool))
section
variable {r:Bool}
def L7 (F:Nat) (x1:LB):Option Bool:=
 some (decide ((x1.length:Int) > 65536))
theorem t4 (H:H4 D σ F) (x1:LB) (s:Nat→V) (hs:zr [(0,eB x1)] s) (h:L7 F x1=some r):Run D σ (R4 r) (.run A4 []) s:=by
 unfold L7 at h
 have h0:=hs
 refine .seq (rg (g0 (jb false) fun h2=>gq (.nsq (.seq (rg (gm h0 fun h3=>gl x1 h3 fun h4=>g1 4 (jb (decide ((x1.length:Int) > 65536))) h4 fun h5=>gm h5 fun h2=>gq (.nsq (.ret ?_))))))))
 obtain rfl:=oi h
 exact rrA (zo h2) rfl
end
def e4 (F:Nat):Ent:=ent 4 (fun (x:(LB×Unit))=>L7 F x.1) (fun (r:Bool)=>(Enc.enc (r:Bool))) 0 false []
abbrev C4 (D:List V→Option V) (F:Nat):Prop:=∀ (x0:LB) r,L7 F x0=some r→D [Enc.enc x0]=some (Enc.enc (r:Bool))
theorem p4 {F:Nat}:C4 (e4 F).den F:=fun x0 _ h=>zU (x0,()) h
theorem o4 (hF:zG Try.prog D σ) (H:H4 D σ F):(e4 F).Ok Try.prog:=okZ (f:=4) Try.func4 fun ⟨x0,_⟩ y hy=>cR hF Try.func4 c4 (t4 H x0 _ rfl hy)
def zsI:AC:=(.cond (.t 53) (.seq (rr [jm 54 3,jm 2 54]) .ret) .skip)
def zsu:AC:=(.seq (rr [jm 55 0,jv 56 (.nilc (.t 55)),jv 57 (.fld (.t 56) 2 2),jl 58 57,jv 59 (.bin .shr (.t 58) (.k (.int .u64 (.ofNat 40)))),jv 60 (.bin .and (.t 59) (.k (.int .u64 (.ofNat 255)))),jv 61 (.conv .i64 (.t 60)),jm 2 61]) .ret)
def zt0:AC:=(.seq (.seq (rr [jm 44 0,jv 45 (.nilc (.t 44)),jv 46 (.fld (.t 45) 1 1),jl 47 46,jm 48 0,jv 49 (.nilc (.t 48)),jv 50 (.fld (.t 49) 0 0),jv 51 (.load .p (.t 50)),jk 52 51,jv 53 (.bin .leq (.t 47) (.t 52))]) zsI) zsu)
def zqA:AC:=(.seq (rr [jm 32 0,jm 33 0,jv 34 (.nilc (.t 33)),jv 35 (.fld (.t 34) 2 2),jl 36 35,jv 37 (.bin .mul (.t 36) (.k (.int .u64 (.ofNat 6364136223846793005)))),jm 38 3,jv 39 (.conv .u64 (.t 38)),jv 40 (.bin .add (.t 37) (.t 39)),jv 41 (.bin .add (.t 40) (.k (.int .u64 (.ofNat 462197)))),jv 42 (.nilc (.t 32)),jv 43 (.fld (.t 42) 2 2),jz (.store .s (.t 43) (.t 41))]) zt0)
def znd:AC:=(.seq (rr [jm 25 0,jv 26 (.nilc (.t 25)),jv 27 (.fld (.t 26) 1 1),jl 28 27,jv 29 (.bin .add (.t 28) (jn 1)),jv 30 (.nilc (.t 25)),jv 31 (.fld (.t 30) 1 1),jz (.store .s (.t 31) (.t 29))]) zqA)
def zsS:AC:=(.cond (.t 13) (rr [jm 14 0,jv 15 (.nilc (.t 14)),jv 16 (.fld (.t 15) 0 0),jv 17 (.load .p (.t 16)),jm 18 0,jv 19 (.nilc (.t 18)),jv 20 (.fld (.t 19) 1 1),jl 21 20,jv 22 (.idx (.t 17) (.t 21) 1),jl 23 22,jv 24 (.conv .i64 (.t 23)),jm 3 24]) .skip)
def zty:AC:=(.seq (.seq (rr [jm 4 0,jv 5 (.nilc (.t 4)),jv 6 (.fld (.t 5) 1 1),jl 7 6,jm 8 0,jv 9 (.nilc (.t 8)),jv 10 (.fld (.t 9) 0 0),jv 11 (.load .p (.t 10)),jk 12 11,jv 13 (.bin .lss (.t 7) (.t 12))]) zsS) znd)
def zsF:AC:=(.seq (rr [jv 3 (.mov (jn 0))]) zty)
def A49:AC:=(.seq (rr [jv 2 (.mov (jn 0))]) zsF)
def zwS:List An:=[]
theorem c49:cq Try.prog Try.f49 zwS=some A49:=by kernel_rfl
structure H49 (D:Den) (σ:Sig) (F:Nat):Prop where
 mk ::
abbrev R49 (r:(Int×CU)):(Nat→V)→Prop:=RT Try.prog [.tmp 2] (Enc.enc (r.1:Int)) [cuV zD r.2]
section
variable {r:(Int×CU)}
def vU (F:Nat) (x1:CC)  (x3:Int):Option (Int×CU):=
 bif decide ((w64 (x1.v.b + 1))≤(x1.v.a.length:Int)) then
  some (x3,S3.mk x1.v.a (w64 (x1.v.b + 1)) (Kd.mk (IntKind.u64.wrap ((IntKind.u64.wrap ((IntKind.u64.wrap (x1.v.c.v * 6364136223846793005)) + (IntKind.u64.wrap x3))) + 462197)):Kd .u64))
 else
  (UD .u64 (IntKind.u64.wrap ((IntKind.u64.wrap ((IntKind.u64.wrap (x1.v.c.v * 6364136223846793005)) + (IntKind.u64.wrap x3))) + 462197)) 40).bind fun q4=>
  some (w64 (yx .u64 q4 255),S3.mk x1.v.a (w64 (x1.v.b + 1)) (Kd.mk (IntKind.u64.wrap ((IntKind.u64.wrap ((IntKind.u64.wrap (x1.v.c.v * 6364136223846793005)) + (IntKind.u64.wrap x3))) + 462197)):Kd .u64))
theorem zcQ (H:H49 D σ F) (x1:CC)  (x3:Int) (s:Nat→V) (hs:zr [(0,bC x1.v),(2,ji 0),(3,ji x3)] s) (h:vU F x1  x3=some r):Run D σ (R49 r) (.nrm [.sq znd]) s:=by
 unfold vU at h
 obtain ⟨h0,h2,h3⟩:=hs
 refine .nsq (.seq (rg (gm h0 fun h25=>g1 25 (bC x1.v) h25 fun h26=>g1 26 (.ref (.bx zD) 0 [1] (ji x1.v.b)) h26 fun h27=>g1 27 (ji x1.v.b) h27 fun h28=>g1 28 (ji (w64 (x1.v.b + 1))) h28 fun h29=>g1 25 (bC x1.v) h25 fun h30=>g1 30 (.ref (.bx zD) 0 [1] (ji x1.v.b)) h30 fun h31=>ye (ji (w64 (x1.v.b + 1))) (zF h31 rfl) (zF h29 rfl) (xN (by first | rfl | simp [V.toks,V.tokss,Enc.toks_enc,yd])) (gz [(0,.ref (.bx zD) 0 [] (.agg [eB x1.v.a,ji (w64 (x1.v.b + 1)),.int .u64 x1.v.c.v])),(2,ji 0),(3,ji x3)] ⟨zd h0 rfl,zd h2 rfl,zd h3 rfl⟩ ?_))))
 rintro s ⟨h0,h2,h3⟩
 refine .nsq (.seq (rg (gm h0 fun h32=>gm h0 fun h33=>g1 33 (.ref (.bx zD) 0 [] (.agg [eB x1.v.a,ji (w64 (x1.v.b + 1)),.int .u64 x1.v.c.v])) h33 fun h34=>g1 34 (.ref (.bx zD) 0 [2] (.int .u64 x1.v.c.v)) h34 fun h35=>g1 35 (.int .u64 x1.v.c.v) h35 fun h36=>g1 36 (.int .u64 (IntKind.u64.wrap (x1.v.c.v * 6364136223846793005))) h36 fun h37=>gm h3 fun h38=>g1 38 (.int .u64 (IntKind.u64.wrap x3)) h38 fun h39=>g2 37 39 (.int .u64 (IntKind.u64.wrap ((IntKind.u64.wrap (x1.v.c.v * 6364136223846793005)) + (IntKind.u64.wrap x3)))) h37 h39 fun h40=>?_)))
 refine g1 40 (.int .u64 (IntKind.u64.wrap ((IntKind.u64.wrap ((IntKind.u64.wrap (x1.v.c.v * 6364136223846793005)) + (IntKind.u64.wrap x3))) + 462197))) h40 fun h41=>g1 32 (.ref (.bx zD) 0 [] (.agg [eB x1.v.a,ji (w64 (x1.v.b + 1)),.int .u64 x1.v.c.v])) h32 fun h42=>g1 42 (.ref (.bx zD) 0 [2] (.int .u64 x1.v.c.v)) h42 fun h43=>ye (.int .u64 (IntKind.u64.wrap ((IntKind.u64.wrap ((IntKind.u64.wrap (x1.v.c.v * 6364136223846793005)) + (IntKind.u64.wrap x3))) + 462197))) (zF h43 rfl) (zF h41 rfl) (xN (by first | rfl | simp [V.toks,V.tokss,Enc.toks_enc,yd])) ?_
 refine gz [(0,.ref (.bx zD) 0 [] (.agg [eB x1.v.a,ji (w64 (x1.v.b + 1)),.int .u64 (IntKind.u64.wrap ((IntKind.u64.wrap ((IntKind.u64.wrap (x1.v.c.v * 6364136223846793005)) + (IntKind.u64.wrap x3))) + 462197))])),(2,ji 0),(3,ji x3)] ⟨zd h0 rfl,zd h2 rfl,zd h3 rfl⟩ ?_
 rintro s ⟨h0,h2,h3⟩
 refine .nsq (.seq (.seq (rg (gm h0 fun h44=>g1 44 (.ref (.bx zD) 0 [] (.agg [eB x1.v.a,ji (w64 (x1.v.b + 1)),.int .u64 (IntKind.u64.wrap ((IntKind.u64.wrap ((IntKind.u64.wrap (x1.v.c.v * 6364136223846793005)) + (IntKind.u64.wrap x3))) + 462197))])) h44 fun h45=>g1 45 (.ref (.bx zD) 0 [1] (ji (w64 (x1.v.b + 1)))) h45 fun h46=>g1 46 (ji (w64 (x1.v.b + 1))) h46 fun h47=>gm h0 fun h48=>g1 48 (.ref (.bx zD) 0 [] (.agg [eB x1.v.a,ji (w64 (x1.v.b + 1)),.int .u64 (IntKind.u64.wrap ((IntKind.u64.wrap ((IntKind.u64.wrap (x1.v.c.v * 6364136223846793005)) + (IntKind.u64.wrap x3))) + 462197))])) h48 fun h49=>g1 49 (.ref (.bx zD) 0 [0] (eB x1.v.a)) h49 fun h50=>?_))))
 refine g1 50 (eB x1.v.a) h50 fun h51=>gl x1.v.a h51 fun h52=>g2 47 52 (jb (decide ((w64 (x1.v.b + 1))≤(x1.v.a.length:Int)))) h47 h52 fun h53=>gq (.nsq (zn h53 h (fun h=>?_) (fun h=>?_)))
 · refine .seq (rg (gm h3 fun h54=>gm h54 fun h2=>gq (.nsq (.ret ?_))))
   obtain rfl:=oi h
   exact rt1 (t:=0) (zo h2) h0
 refine .skip (.nsq (.seq (rg (gm h0 fun h55=>g1 55 (.ref (.bx zD) 0 [] (.agg [eB x1.v.a,ji (w64 (x1.v.b + 1)),.int .u64 (IntKind.u64.wrap ((IntKind.u64.wrap ((IntKind.u64.wrap (x1.v.c.v * 6364136223846793005)) + (IntKind.u64.wrap x3))) + 462197))])) h55 fun h56=>g1 56 (.ref (.bx zD) 0 [2] (.int .u64 (IntKind.u64.wrap ((IntKind.u64.wrap ((IntKind.u64.wrap (x1.v.c.v * 6364136223846793005)) + (IntKind.u64.wrap x3))) + 462197)))) h56 fun h57=>g1 57 (.int .u64 (IntKind.u64.wrap ((IntKind.u64.wrap ((IntKind.u64.wrap (x1.v.c.v * 6364136223846793005)) + (IntKind.u64.wrap x3))) + 462197))) h57 fun h58=>?_))))
 obtain ⟨q4,Eq4,h⟩:=zb h
 refine gv (.int .u64 q4) (Xh h58 rfl Eq4) fun h59=>g1 59 (.int .u64 (yx .u64 q4 255)) h59 fun h60=>g1 60 (ji (w64 (yx .u64 q4 255))) h60 fun h61=>gm h61 fun h2=>gq (.nsq (.ret ?_))
 obtain rfl:=oi h
 exact rt1 (t:=0) (zo h2) h0
def vp (F:Nat) (x1:CC):Option (Int×CU):=
 bif decide (x1.v.b < (x1.v.a.length:Int)) then
  (idx x1.v.a x1.v.b).bind fun v5=>
  vU F x1 (w64 v5.v)
 else
  vU F x1 0
theorem t49 (H:H49 D σ F) (x1:CC) (s:Nat→V) (hs:zr [(0,bC x1.v)] s) (h:vp F x1=some r):Run D σ (R49 r) (.run A49 []) s:=by
 unfold vp at h
 have h0:=hs
 refine .seq (rg (g0 (ji 0) fun h2=>gq (.nsq (.seq (rg (g0 (ji 0) fun h3=>gq (.nsq (.seq (.seq (rg (gm h0 fun h4=>g1 4 (bC x1.v) h4 fun h5=>g1 5 (.ref (.bx zD) 0 [1] (ji x1.v.b)) h5 fun h6=>g1 6 (ji x1.v.b) h6 fun h7=>gm h0 fun h8=>g1 8 (bC x1.v) h8 fun h9=>g1 9 (.ref (.bx zD) 0 [0] (eB x1.v.a)) h9 fun h10=>g1 10 (eB x1.v.a) h10 fun h11=>gl x1.v.a h11 fun h12=>g2 7 12 (jb (decide (x1.v.b < (x1.v.a.length:Int)))) h7 h12 fun h13=>gq (.nsq (zn h13 h (fun h=>?_) (fun h=>?_))))))))))))))
 · refine rg (gm h0 fun h14=>g1 14 (bC x1.v) h14 fun h15=>g1 15 (.ref (.bx zD) 0 [0] (eB x1.v.a)) h15 fun h16=>g1 16 (eB x1.v.a) h16 fun h17=>gm h0 fun h18=>g1 18 (bC x1.v) h18 fun h19=>g1 19 (.ref (.bx zD) 0 [1] (ji x1.v.b)) h19 fun h20=>g1 20 (ji x1.v.b) h20 fun h21=>?_)
   obtain ⟨v5,Ev5,h⟩:=zb h
   refine gv (.ref .sh 0 [] (.int .u8 v5.v)) (yn (t:=.sh) (lo:=0) (xs:=x1.v.a) h17 h21 Ev5 rfl rfl) fun h22=>g1 22 (.int .u8 v5.v) h22 fun h23=>g1 23 (ji (w64 v5.v)) h23 fun h24=>gm h24 fun h3=>gq ?_
   exact zcQ H x1 (w64 v5.v) _ ⟨h0,h2,h3⟩ h
 refine .skip ?_
 exact zcQ H x1 0 _ ⟨h0,h2,h3⟩ h
end
def e49 (F:Nat):Ent:=ent 49 (fun (x:(CC×Unit))=>vp F x.1) (fun (r:(Int×CU))=>(.tup [Enc.enc (r.1:Int),.tup [cuV zD r.2]])) uA false []
abbrev C49 (D:List V→Option V) (F:Nat):Prop:=∀ (x0:CC) r,vp F x0=some r→D [Arg.arg x0]=some (.tup [Enc.enc (r.1:Int),.tup [cuV zD r.2]])
theorem p49 {F:Nat}:C49 (e49 F).den F:=fun x0 _ h=>zU (x0,()) h
theorem o49 (hF:zG Try.prog D σ) (H:H49 D σ F):(e49 F).Ok Try.prog:=okZ (f:=49) Try.func49 fun ⟨x0,_⟩ y hy=>cT hF Try.func49 c49 (t49 H x0 _ rfl hy)
def zmF:AC:=(.seq (rr [jm 17 5,jm 18 1,jv 19 (.bin .rem (.t 17) (.t 18)),jm 4 19]) .ret)
def zuQ:AC:=(.cond (.t 7) (.seq (rr [jv 4 (.mov (jn 0))]) .ret) .skip)
def zpT:AC:=(.cond (.t 11) (rr [jm 12 5,jv 13 (.bin .mul (.t 12) (jn 256)),jm 14 0,jx 15 (.callT (jf 49) [.t 14] [0] []),jv 16 (.bin .add (.t 13) (.t 15)),jm 5 16]) .skip)
def zsL:AC:=(.seq (.seq (rr [jm 10 1,jv 11 (.bin .gtr (.t 10) (jn 200))]) zpT) zmF)
def zsM:AC:=(.seq (rr [jm 8 0,jx 9 (.callT (jf 49) [.t 8] [0] []),jm 5 9]) zsL)
def zpX:AC:=(.seq (.seq (rr [jm 6 1,jv 7 (.bin .leq (.t 6) (jn 1))]) zuQ) zsM)
def A24:AC:=(.seq (rr [jv 4 (.mov (jn 0))]) zpX)
def zxB:List An:=[⟨3,[],[],[2000000],[]⟩,⟨5,[],[],[4000000],[]⟩]
theorem c24:cq Try.prog Try.f24 zxB=some A24:=by kernel_rfl
structure H24 (D:Den) (σ:Sig) (F:Nat):Prop where
 c49:C49 (D 49) F
 g49:σ 49=some (uA,false)
abbrev R24 (r:(Int×CU)):(Nat→V)→Prop:=RT Try.prog [.tmp 4] (Enc.enc (r.1:Int)) [cuV zD r.2]
section
variable {r:(Int×CU)}
def vT (F:Nat) (x2:Int)  (x5:LB) (x6:Int) (x7:Int) (x8:Int):Option (Int×CU):=
 (zjh .i64 x8 x2).bind fun q9=>
 some (q9,S3.mk x5 x6 (Kd.mk x7:Kd .u64))
theorem zdS (H:H24 D σ F) (x2:Int)  (x5:LB) (x6:Int) (x7:Int) (x8:Int) (s:Nat→V) (hs:zr [(0,.ref (.bx zD) 0 [] (.agg [eB x5,ji x6,.int .u64 x7])),(1,ji x2),(4,ji 0),(5,ji x8)] s) (h:vT F x2  x5 x6 x7 x8=some r):Run D σ (R24 r) (.nrm [.sq zmF]) s:=by
 unfold vT at h
 obtain ⟨h0,h1,h4,h5⟩:=hs
 refine .nsq (.seq (rg (gm h5 fun h17=>gm h1 fun h18=>?_)))
 obtain ⟨q9,Eq9,h⟩:=zb h
 refine gv (ji q9) (zpN h17 h18 Eq9) fun h19=>gm h19 fun h4=>gq (.nsq (.ret ?_))
 obtain rfl:=oi h
 exact rt1 (t:=0) (zo h4) h0
def yc (F:Nat) (x1:CC) (x2:Int):Option (Int×CU):=
 bif decide (x2≤1) then
  some (0,x1.v)
 else
  (vp F (Cu.mk x1.v)).bind fun r3=>
  bif decide (x2 > 200) then
   (vp F (Cu.mk r3.2)).bind fun r10=>
   vT F x2 r10.2.a r10.2.b r10.2.c.v (w64 ((w64 (r3.1 * 256)) + r10.1))
  else
   vT F x2 r3.2.a r3.2.b r3.2.c.v r3.1
theorem t24 (H:H24 D σ F) (x1:CC) (x2:Int) (s:Nat→V) (hs:zr [(0,bC x1.v),(1,ji x2)] s) (h:yc F x1 x2=some r):Run D σ (R24 r) (.run A24 []) s:=by
 unfold yc at h
 obtain ⟨h0,h1⟩:=hs
 refine .seq (rg (g0 (ji 0) fun h4=>gq (.nsq (.seq (.seq (rg (gm h1 fun h6=>g1 6 (jb (decide (x2≤1))) h6 fun h7=>gq (.nsq (zn h7 h (fun h=>?_) (fun h=>?_))))))))))
 · refine .seq (rg (g0 (ji 0) fun h4=>gq (.nsq (.ret ?_))))
   obtain rfl:=oi h
   exact rt1 (t:=0) (zo h4) h0
 refine .skip (.nsq (.seq (rg (gm h0 fun h8=>?_))))
 obtain ⟨r3,Er3,h⟩:=zb h
 refine vM (r:=zD) (b:=0) (x:=x1.v) (x':=r3.2) (vs:=[]) (res:=Enc.enc (r3.1:Int)) h0 (by exact (zJ (v:=cuV zD x1.v) h8 rfl yw)) yr (fun f=>zB) (H.c49 _ _ Er3) H.g49 te rfl (fun s1 hb1 ha1=>gm (rf (ji r3.1)) fun h5=>gz [(0,_),(1,ji x2),(4,ji 0),(5,_)] ⟨(show s1 0=(bC r3.2) from hb1 0 h0),(show s1 1=(ji x2) from ha1 1 _ _ h1 rfl mi),(show s1 4=(ji 0) from ha1 4 _ _ h4 rfl mi),h5⟩ ?_)
 rintro s ⟨h0,h1,h4,h5⟩
 refine .nsq (.seq (.seq (rg (gm h1 fun h10=>g1 10 (jb (decide (x2 > 200))) h10 fun h11=>gq (.nsq (zn h11 h (fun h=>?_) (fun h=>?_)))))))
 · refine rg (gm h5 fun h12=>g1 12 (ji (w64 (r3.1 * 256))) h12 fun h13=>gm h0 fun h14=>?_)
   obtain ⟨r10,Er10,h⟩:=zb h
   refine vM (r:=zD) (b:=0) (x:=r3.2) (x':=r10.2) (vs:=[]) (res:=Enc.enc (r10.1:Int)) h0 (by exact (zJ (v:=cuV zD r3.2) h14 rfl yw)) yr (fun f=>zB) (H.c49 _ _ Er10) H.g49 te rfl (fun s3 hb3 ha3=>g2 13 15 (ji (w64 ((w64 (r3.1 * 256)) + r10.1))) (show s3 13=(ji (w64 (r3.1 * 256))) from ha3 13 _ _ h13 rfl mi) (rf (ji r10.1)) fun h16=>gm h16 fun h5=>gz [(0,_),(1,ji x2),(4,ji 0),(5,_)] ⟨(show s3 0=(bC r10.2) from hb3 0 h0),(show s3 1=(ji x2) from ha3 1 _ _ h1 rfl mi),(show s3 4=(ji 0) from ha3 4 _ _ h4 rfl mi),h5⟩ ?_)
   rintro s ⟨h0,h1,h4,h5⟩
   exact zdS H x2 r10.2.a r10.2.b r10.2.c.v (w64 ((w64 (r3.1 * 256)) + r10.1)) _ ⟨h0,h1,h4,h5⟩ h
 refine .skip ?_
 exact zdS H x2 r3.2.a r3.2.b r3.2.c.v r3.1 _ ⟨h0,h1,h4,h5⟩ h
end
def e24 (F:Nat):Ent:=ent 24 (fun (x:(CC×Int×Unit))=>yc F x.1 x.2.1) (fun (r:(Int×CU))=>(.tup [Enc.enc (r.1:Int),.tup [cuV zD r.2]])) uA false []
abbrev C24 (D:List V→Option V) (F:Nat):Prop:=∀ (x0:CC) (x1:Int) r,yc F x0 x1=some r→D [Arg.arg x0,Enc.enc x1]=some (.tup [Enc.enc (r.1:Int),.tup [cuV zD r.2]])
theorem p24 {F:Nat}:C24 (e24 F).den F:=fun x0 x1 _ h=>zU (x0,x1,()) h
theorem o24 (hF:zG Try.prog D σ) (H:H24 D σ F):(e24 F).Ok Try.prog:=okZ (f:=24) Try.func24 fun ⟨x0,x1,_⟩ y hy=>cT hF Try.func24 c24 (t24 H x0 x1 _ ⟨rfl,rfl⟩ hy)
def zvo:AC:=(.seq (rr [jm 5 1,jm 6 0,jm 7 1,jk 8 7,jx 9 (.callT (jf 24) [.t 6,.t 8] [0] []),jv 10 (.idx (.t 5) (.t 9) 1),jl 11 10,jm 4 11]) .ret)
def A39:AC:=(.seq (rr [jv 4 (.mov (jn 0))]) zvo)
def zw0:List An:=[⟨1,[],[],[5000000],[]⟩]
theorem c39:cq Try.prog Try.f39 zw0=some A39:=by kernel_rfl
structure H39 (D:Den) (σ:Sig) (F:Nat):Prop where
 c24:C24 (D 24) F
 g24:σ 24=some (uA,false)
abbrev R39 (r:(Int×CU)):(Nat→V)→Prop:=RT Try.prog [.tmp 4] (Enc.enc (r.1:Int)) [cuV zD r.2]
section
variable {r:(Int×CU)}
def y7 (F:Nat) (x1:CC) (x2:LI):Option (Int×CU):=
 (yc F (Cu.mk x1.v) (x2.length:Int)).bind fun r3=>
 (idx x2 r3.1).bind fun v4=>
 some (v4,r3.2)
theorem t39 (H:H39 D σ F) (x1:CC) (x2:LI) (s:Nat→V) (hs:zr [(0,bC x1.v),(1,eL x2)] s) (h:y7 F x1 x2=some r):Run D σ (R39 r) (.run A39 []) s:=by
 unfold y7 at h
 obtain ⟨h0,h1⟩:=hs
 refine .seq (rg (g0 (ji 0) fun h4=>gq (.nsq (.seq (rg (gm h1 fun h5=>gm h0 fun h6=>gm h1 fun h7=>gl x2 h7 fun h8=>?_))))))
 obtain ⟨r3,Er3,h⟩:=zb h
 refine vM (r:=zD) (b:=0) (x:=x1.v) (x':=r3.2) (vs:=[Enc.enc ((x2.length:Int):Int)]) (res:=Enc.enc (r3.1:Int)) h0 (by exact (zJ (v:=cuV zD x1.v) h6 rfl (zJ (v:=Enc.enc ((x2.length:Int):Int)) h8 rfl yw))) (yg te yr) fm1 (H.c24 _ _ _ Er3) H.g24 te rfl (fun s1 hb1 ha1=>?_)
 obtain ⟨v4,Ev4,h⟩:=zb h
 refine gv (.ref .sh 0 [] (ji v4)) (yn (t:=.sh) (lo:=0) (xs:=x2) (show s1 5=(eL x2) from ha1 5 _ _ h5 rfl me) rfl Ev4 rfl rfl) fun h10=>g1 10 (ji v4) h10 fun h11=>gm h11 fun h4=>gz [(0,_),(4,_)] ⟨(show s1 0=(bC r3.2) from hb1 0 h0),h4⟩ ?_
 rintro s ⟨h0,h4⟩
 refine .nsq (.ret ?_)
 obtain rfl:=oi h
 exact rt1 (t:=0) (zo h4) h0
end
def e39 (F:Nat):Ent:=ent 39 (fun (x:(CC×LI×Unit))=>y7 F x.1 x.2.1) (fun (r:(Int×CU))=>(.tup [Enc.enc (r.1:Int),.tup [cuV zD r.2]])) uA false []
abbrev C39 (D:List V→Option V) (F:Nat):Prop:=∀ (x0:CC) (x1:LI) r,y7 F x0 x1=some r→D [Arg.arg x0,Enc.enc x1]=some (.tup [Enc.enc (r.1:Int),.tup [cuV zD r.2]])
theorem p39 {F:Nat}:C39 (e39 F).den F:=fun x0 x1 _ h=>zU (x0,x1,()) h
theorem o39 (hF:zG Try.prog D σ) (H:H39 D σ F):(e39 F).Ok Try.prog:=okZ (f:=39) Try.func39 fun ⟨x0,x1,_⟩ y hy=>cT hF Try.func39 c39 (t39 H x0 x1 _ ⟨rfl,rfl⟩ hy)
def zrd:AC:=(.seq (rr [jm 5 0,jm 6 1,jx 7 (.callT (jf 24) [.t 5,.t 6] [0] []),jv 8 (.bin .eql (.t 7) (jn 0)),jm 4 8]) .ret)
def A22:AC:=(.seq (rr [jv 4 (.mov kf)]) zrd)
def zwE:List An:=[⟨1,[],[],[3000000],[]⟩]
theorem c22:cq Try.prog Try.f22 zwE=some A22:=by kernel_rfl
structure H22 (D:Den) (σ:Sig) (F:Nat):Prop where
 c24:C24 (D 24) F
 g24:σ 24=some (uA,false)
abbrev R22 (r:(Bool×CU)):(Nat→V)→Prop:=RT Try.prog [.tmp 4] (Enc.enc (r.1:Bool)) [cuV zD r.2]
section
variable {r:(Bool×CU)}
def xO (F:Nat) (x1:CC) (x2:Int):Option (Bool×CU):=
 (yc F (Cu.mk x1.v) x2).bind fun r3=>
 some ((r3.1 == 0),r3.2)
theorem t22 (H:H22 D σ F) (x1:CC) (x2:Int) (s:Nat→V) (hs:zr [(0,bC x1.v),(1,ji x2)] s) (h:xO F x1 x2=some r):Run D σ (R22 r) (.run A22 []) s:=by
 unfold xO at h
 obtain ⟨h0,h1⟩:=hs
 refine .seq (rg (g0 (jb false) fun h4=>gq (.nsq (.seq (rg (gm h0 fun h5=>gm h1 fun h6=>?_))))))
 obtain ⟨r3,Er3,h⟩:=zb h
 refine vM (r:=zD) (b:=0) (x:=x1.v) (x':=r3.2) (vs:=[Enc.enc (x2:Int)]) (res:=Enc.enc (r3.1:Int)) h0 (by exact (zJ (v:=cuV zD x1.v) h5 rfl (zJ (v:=Enc.enc (x2:Int)) h6 rfl yw))) (yg te yr) fm1 (H.c24 _ _ _ Er3) H.g24 te rfl (fun s1 hb1 ha1=>g1 7 (jb (r3.1 == 0)) (rf (ji r3.1)) fun h8=>gm h8 fun h4=>gz [(0,_),(4,_)] ⟨(show s1 0=(bC r3.2) from hb1 0 h0),h4⟩ ?_)
 rintro s ⟨h0,h4⟩
 refine .nsq (.ret ?_)
 obtain rfl:=oi h
 exact rt1 (t:=0) (zo h4) h0
end
def e22 (F:Nat):Ent:=ent 22 (fun (x:(CC×Int×Unit))=>xO F x.1 x.2.1) (fun (r:(Bool×CU))=>(.tup [Enc.enc (r.1:Bool),.tup [cuV zD r.2]])) uA false []
abbrev C22 (D:List V→Option V) (F:Nat):Prop:=∀ (x0:CC) (x1:Int) r,xO F x0 x1=some r→D [Arg.arg x0,Enc.enc x1]=some (.tup [Enc.enc (r.1:Bool),.tup [cuV zD r.2]])
theorem p22 {F:Nat}:C22 (e22 F).den F:=fun x0 x1 _ h=>zU (x0,x1,()) h
theorem o22 (hF:zG Try.prog D σ) (H:H22 D σ F):(e22 F).Ok Try.prog:=okZ (f:=22) Try.func22 fun ⟨x0,x1,_⟩ y hy=>cT hF Try.func22 c22 (t22 H x0 x1 _ ⟨rfl,rfl⟩ hy)
def zp4:AC:=(.cond (.t 7) (.seq (rr [jm 8 0,jm 4 8]) .ret) .skip)
def zuF:AC:=(.seq (rr [jm 9 1,jm 4 9]) .ret)
def zqS:AC:=(.seq (.seq (rr [jm 5 0,jm 6 1,jv 7 (.bin .lss (.t 5) (.t 6))]) zp4) zuF)
def A48:AC:=(.seq (rr [jv 4 (.mov (jn 0))]) zqS)
def zwt:List An:=[]
theorem c48:cq Try.prog Try.f48 zwt=some A48:=by kernel_rfl
structure H48 (D:Den) (σ:Sig) (F:Nat):Prop where
 mk ::
abbrev R48 (r:Int):(Nat→V)→Prop:=RR Try.prog [.tmp 4] 0 false (Enc.enc (r:Int))
section
variable {r:Int}
def uO (F:Nat) (x1:Int) (x2:Int):Option Int:=
 bif decide (x1 < x2) then
  some x1
 else
  some x2
theorem t48 (H:H48 D σ F) (x1:Int) (x2:Int) (s:Nat→V) (hs:zr [(0,ji x1),(1,ji x2)] s) (h:uO F x1 x2=some r):Run D σ (R48 r) (.run A48 []) s:=by
 unfold uO at h
 obtain ⟨h0,h1⟩:=hs
 refine .seq (rg (g0 (ji 0) fun h4=>gq (.nsq (.seq (.seq (rg (gm h0 fun h5=>gm h1 fun h6=>g2 5 6 (jb (decide (x1 < x2))) h5 h6 fun h7=>gq (.nsq (zn h7 h (fun h=>?_) (fun h=>?_))))))))))
 · refine .seq (rg (gm h0 fun h8=>gm h8 fun h4=>gq (.nsq (.ret ?_))))
   obtain rfl:=oi h
   exact rrA (zo h4) rfl
 refine .skip (.nsq (.seq (rg (gm h1 fun h9=>gm h9 fun h4=>gq (.nsq (.ret ?_))))))
 obtain rfl:=oi h
 exact rrA (zo h4) rfl
end
def e48 (F:Nat):Ent:=ent 48 (fun (x:(Int×Int×Unit))=>uO F x.1 x.2.1) (fun (r:Int)=>(Enc.enc (r:Int))) 0 false []
abbrev C48 (D:List V→Option V) (F:Nat):Prop:=∀ (x0:Int) (x1:Int) r,uO F x0 x1=some r→D [Enc.enc x0,Enc.enc x1]=some (Enc.enc (r:Int))
theorem p48 {F:Nat}:C48 (e48 F).den F:=fun x0 x1 _ h=>zU (x0,x1,()) h
theorem o48 (hF:zG Try.prog D σ) (H:H48 D σ F):(e48 F).Ok Try.prog:=okZ (f:=48) Try.func48 fun ⟨x0,x1,_⟩ y hy=>cR hF Try.func48 c48 (t48 H x0 x1 _ ⟨rfl,rfl⟩ hy)
def zpo:AC:=(.cond (.t 11) .skip (.exit 0))
def zoy:AC:=(rr [jm 12 4,jv 13 (.bin .add (.t 12) (jn 1)),jm 4 13])
def zo7:AC:=(.seq (.block 1 (.reg [.clr [20,21]] [jv 14 (.fld (.t 3) 1 1),jv 15 (.load .p (.t 14)),jm 16 4,jm 17 4,jv 18 (.bin .add (.t 17) (jn 1)),jv 19 (.bld (.agg [i0,i0]) [(0,0,.t 16),(1,1,.t 18)]),jx 20 (.lit (.agg [i0,i0]) 1 [(0,0,.t 19)]),jx 21 (.app (.ag [.s,.s]) (.t 15) (.t 20)),jv 22 (.fld (.t 3) 1 1),jz (.store .p (.t 22) (.t 21))] [.drp 6,.home 21 6])) zoy)
def zfd:AC:=(.seq (.seq (rr [jm 8 4,jv 9 (.bin .add (.t 8) (jn 1)),jm 10 0,jv 11 (.bin .lss (.t 9) (.t 10))]) zpo) zo7)
def zjt:AC:=(.seq (rr [jv 23 (.load (.ag [.s,.p]) (.t 3)),jz (.store (.ag [.s,.p]) (.t 2) (.t 23))]) .ret)
def zn8:AC:=(.block 0 (.loop zfd))
def znP:AC:=(.seq (.seq (rr [jv 4 (.mov (jn 0))]) zn8) zjt)
def zob:AC:=(.seq (.reg [.clr [6,3]] [jm 5 0,jx 6 (.lit (.agg [i0,i0]) 0 []),jv 7 (.bld (.agg [i0,.sl .nl (.ag [.s,.s]) 0 []]) [(0,0,.t 5),(1,1,.t 6)]),jx 3 (.alloc (.agg [i0,.sl .nl (.ag [.s,.s]) 0 []])),jz (.store (.ag [.s,.p]) (.t 3) (.t 7))] []) znP)
def zqa:AC:=(.seq (.reg [.clr [2]] [jx 2 (.alloc (.agg [i0,.sl .nl (.ag [.s,.s]) 0 []]))] []) zob)
def zrx:List An:=[⟨0,[.clr [2]],[],[],[]⟩,⟨1,[.clr [6,3]],[],[],[]⟩,⟨5,[.clr [20,21]],[],[],[.drp 6,.home 21 6]⟩]
theorem c69o:cq Try.prog Try.f69 zrx=some zqa:=by kernel_rfl
structure zn0 (D:Den) (σ:Sig) (F:Nat):Prop where
 mk ::
abbrev zqs (r:(Int×(NL (Int×Int)))):(Nat→V)→Prop:=RR Try.prog [.cell 2 26] 1 false (.agg [Enc.enc (r.1:Int),zu .sh (r.2:NL (Int×Int))])
section
variable {r:(Int×(NL (Int×Int)))}
def XK (F:Nat) (x1:Int) :Nat→TP→Int→Option (Int×(NL (Int×Int)))
 | 0,_,_=>none
 | k + 1,x3,x4=>
   bif decide ((w64 (x4 + 1)) < x1) then
    (uQ x3 [(x4,w64 (x4 + 1))]).bind fun ap6=>
    (XK F x1 k) ap6 (w64 (x4 + 1))
   else
    some (x1,.of x3)
theorem zhN (H:zn0 D σ F) (x1:Int) :∀ (k:Nat) (x3:TP) (x4:Int) (s:Nat→V),zr [(0,ji x1),(2,bZ 2),(3,.ref (.bx 3) 0 [] (.agg [ji x1,zu (.at 6 []) (.of (x3:TP))])),(4,ji x4)] s→XK F x1 k x3 x4=some r→Run D σ (zqs r) (.run zfd [.lp zfd,.bk 0,.sq zjt]) s:=by
 intro k
 induction k with
 | zero=>intro x3 x4 s _ h;exact nm h
 | succ k ih=>
   intro x3 x4 s hs h
   rw [XK] at h
   obtain ⟨h0,h2,h3,h4⟩:=hs
   refine .seq (.seq (rg (gm h4 fun h8=>g1 8 (ji (w64 (x4 + 1))) h8 fun h9=>gm h0 fun h10=>g2 9 10 (jb (decide ((w64 (x4 + 1)) < x1))) h9 h10 fun h11=>gq (.nsq (zn h11 h (fun h=>?_) (fun h=>?_))))))
   · refine .skip (.nsq (.seq (.block (zw (z3 ?_)))))
     refine ez [(0,_),(2,_),(3,_),(4,_),(20,_),(21,_)] ⟨za h0 rfl mi,za h2 rfl (zj rfl (mIx rfl)),za h3 rfl (zj rfl (zW (zh mi (zh (zq (r:=6) (p:=[]) rfl rfl) zB)))),za h4 rfl mi,ze rfl,ze rfl⟩ ?_
     rintro s ⟨h0,h2,h3,h4,h20,h21⟩
     refine g1 3 (.ref (.bx 3) 0 [1] (zu (.at 6 []) (.of (x3:TP)))) h3 fun h14=>g1 14 (zu (.at 6 []) (.of (x3:TP))) h14 fun h15=>gm h4 fun h16=>gm h4 fun h17=>g1 17 (ji (w64 (x4 + 1))) h17 fun h18=>g2 16 18 (.agg [ji x4,ji (w64 (x4 + 1))]) h16 h18 fun h19=>xI [(19,.agg [ji x4,ji (w64 (x4 + 1))])] [Enc.enc ((x4,w64 (x4 + 1)):(Int×Int))] h19 rfl rfl h20 ?_
     obtain ⟨ap6,Eap6,h⟩:=zb h
     refine XR (q:=6) (p:=[]) (o:=.of (x3:TP)) (ys:=([(x4,w64 (x4 + 1))]:TP)) (t2:=.at 20 []) (lo2:=0) h15 rfl rfl h21 (Z4 (o:=.of (x3:TP)) Eap6 trivial) (fun s12 ha12=>g1 3 (.ref (.bx 3) 0 [1] (kdO ((.of x3):NL (Int×Int)))) (show s12 3=(.ref (.bx 3) 0 [] (.agg [ji x1,kdO ((.of x3):NL (Int×Int))])) from YU ha12 h3 (zj rfl (zW (zh mi (zh Uf zB)))) (by intro h;first | (cases h;done) | (subst h;rfl))) fun h22=>ye (zu (.at 21 []) (.of (ap6:TP))) (zF h22 rfl) (zF rfl rfl) ⟨by decide,by decide,rfl,rfl,MY,WZ rfl rfl⟩ (yS (Jy (x:=6) (fun s13 hx_13 hd_13=>?_))))
     refine yu (r:=21) (x:=6) (v:=_) (by exact hx_13) rfl (fun s14 hz14=>?_)
     refine ez [(0,ji x1),(2,bZ 2),(3,.ref (.bx 3) 0 [] (.agg [ji x1,zu (.at 6 []) (.of (ap6:TP))])),(4,ji x4)] ⟨hz14 0 _ _ (show s13 0=(ji x1) from (hd_13 0 (by decide)).trans (zd (show s12 0=(ji x1) from yh ha12 h0 mi) rfl)) mi,hz14 2 _ _ (show s13 2=(bZ 2) from (hd_13 2 (by decide)).trans (zd (show s12 2=(bZ 2) from yh ha12 h2 (zj rfl (mIx rfl))) (zH rfl rfl (yL (zy rfl (zy rfl rfl)))))) (zj rfl (mIx rfl)),hz14 3 _ (.ref (.bx 3) 0 [] (.agg [ji x1,zu (.at 6 []) (.of (ap6:TP))])) (show s13 3=(.ref (.bx 3) 0 [] (.agg [ji x1,zu (.at 21 []) (.of (ap6:TP))])) from (hd_13 3 (by decide)).trans (zd (show s12 3=(.ref (.bx 3) 0 [] (.agg [ji x1,kdO ((.of x3):NL (Int×Int))])) from YU ha12 h3 (zj rfl (zW (zh mi (zh Uf zB)))) (by intro h;first | (cases h;done) | (subst h;rfl))) (U6 (zy rfl (zy M4 rfl))))) (zj rfl (zW (zh mi (zh (zq (r:=21) (p:=[]) rfl rfl) zB)))),hz14 4 _ _ (show s13 4=(ji x4) from (hd_13 4 (by decide)).trans (zd (show s12 4=(ji x4) from yh ha12 h4 mi) rfl)) mi⟩ ?_
     rintro s ⟨h0,h2,h3,h4⟩
     refine .nbk (.nsq (rg (gm h4 fun h12=>g1 12 (ji (w64 (x4 + 1))) h12 fun h13=>gm h13 fun h4=>gq (.nlp ?_))))
     exact ih ap6 (w64 (x4 + 1)) _ ⟨h0,h2,h3,h4⟩ h
   refine .exit (.esq (.elp (.ebk (.nsq (.seq (rg (g1 3 (.agg [ji x1,zu (.at 6 []) (.of (x3:TP))]) h3 fun h23=>ye (.agg [ji x1,zu (.at 6 []) (.of (x3:TP))]) (zF h2 rfl) (zF h23 rfl) (xN (by first | rfl | simp [V.toks,V.tokss,Enc.toks_enc,yd])) (gz [(2,.ref (.bx 2) 0 [] (.agg [ji x1,zu (.at 6 []) (.of (x3:TP))]))] (zd h2 rfl) ?_))))))))
   rintro s h2
   refine .nsq (.ret ?_)
   obtain rfl:=oi h
   exact rrA (v7 h2 (by kernel_rfl)) (Xc (NK (uq N2 (uq (Xs (o:=((.of x3):NL (Int×Int)))) UK))) rfl (Ln (xn rfl (xn (xD rfl) ZG))))
def YD (F:Nat) (x1:Int):Option (Int×(NL (Int×Int))):=
 XK F x1 F [] 0
theorem zx1 (H:zn0 D σ F) (x1:Int) (s:Nat→V) (hs:zr [(0,ji x1)] s) (h:YD F x1=some r):Run D σ (zqs r) (.run zqa []) s:=by
 unfold YD at h
 have h0:=hs
 refine .seq (zw (z3 ?_))
 refine ez [(0,_),(2,_)] ⟨za h0 rfl mi,ze rfl⟩ ?_
 rintro s ⟨h0,h2⟩
 refine xA h2 (gq (.nsq (.seq (zw (z3 ?_)))))
 refine ez [(0,_),(2,_),(3,_),(6,_)] ⟨za h0 rfl mi,za rfl rfl (zj rfl (mIx rfl)),ze rfl,ze rfl⟩ ?_
 rintro s ⟨h0,h2,h3,h6⟩
 refine gm h0 fun h5=>xI [] [] trivial rfl rfl h6 (g2 5 6 (.agg [ji x1,zu (.at 6 []) (.of ([]:TP))]) h5 (rf (zu (.at 6 []) (.of ([]:TP)))) fun h7=>xA h3 (ye (.agg [ji x1,zu (.at 6 []) (.of ([]:TP))]) (zF rfl rfl) (zF h7 rfl) (xN (by first | rfl | simp [V.toks,V.tokss,Enc.toks_enc,yd])) (gz [(0,ji x1),(2,bZ 2),(3,.ref (.bx 3) 0 [] (.agg [ji x1,zu (.at 6 []) (.of ([]:TP))]))] ⟨zd h0 rfl,zd h2 (zH rfl rfl (yL (zy rfl (zy rfl rfl)))),zd rfl rfl⟩ ?_)))
 rintro s ⟨h0,h2,h3⟩
 refine .nsq (.seq (.seq (rg (g0 (ji 0) fun h4=>gq (.nsq (.block (.loop ?_)))))))
 exact zhN H x1 F [] 0 _ ⟨h0,h2,h3,h4⟩ h
end
def zom (F:Nat):Ent:=ent 1000000069 (fun (x:(Int×Unit))=>YD F x.1) (fun (r:(Int×(NL (Int×Int))))=>(.agg [Enc.enc (r.1:Int),zu .sh (r.2:NL (Int×Int))])) 1 false []
abbrev zpK (D:List V→Option V) (F:Nat):Prop:=∀ (x0:Int) r,YD F x0=some r→D [Enc.enc x0]=some (.agg [Enc.enc (r.1:Int),zu .sh (r.2:NL (Int×Int))])
theorem zrE {F:Nat}:zpK (zom F).den F:=fun x0 _ h=>zU (x0,()) h
theorem zx2 (hF:zG Try.prog D σ) (H:zn0 D σ F):(zom F).Ok Try.prog:=okZ (f:=69) Try.func69 fun ⟨x0,_⟩ y hy=>cR hF Try.func69 c69o (zx1 H x0 _ rfl hy)
def zr4:AC:=(.seq (rr [jv 5 (.idxA (.t 2) (jn 0) 2 1),jl 6 5,jv 7 (.idxA (.t 3) (jn 0) 2 1),jl 8 7,jv 9 (.bin .lss (.t 6) (.t 8)),jm 10 9,jg 11 10 false (.idxA (.t 2) (jn 0) 2 1),jg 12 10 false (.load .s (.t 11)),jg 13 10 false (.idxA (.t 3) (jn 0) 2 1),jg 14 10 false (.load .s (.t 13)),jg 15 10 false (.bin .eql (.t 12) (.t 14)),jg 16 10 false (.mov (.t 15)),jg 17 16 true (.idxA (.t 2) (jn 1) 2 1),jg 18 16 true (.load .s (.t 17)),jg 19 16 true (.idxA (.t 3) (jn 1) 2 1),jg 20 16 true (.load .s (.t 19)),jg 21 16 true (.bin .lss (.t 18) (.t 20)),jg 22 10 false (.pick (.t 16) (.t 21) kf),jv 23 (.pick (.t 10) kt (.t 22)),jm 4 23]) .ret)
def A52:AC:=(.seq (.reg [.clr [2,3]] [jx 2 (.box (.t 0)),jx 3 (.box (.t 1)),jv 4 (.mov kf)] []) zr4)
def zxe:List An:=[⟨0,[.clr [2,3]],[],[],[]⟩]
theorem c52:cq Try.prog Try.f52 zxe=some A52:=by kernel_rfl
structure H52 (D:Den) (σ:Sig) (F:Nat):Prop where
 mk ::
abbrev R52 (r:Bool):(Nat→V)→Prop:=RR Try.prog [.tmp 4] 0 false (Enc.enc (r:Bool))
section
variable {r:Bool}
def Z3 (F:Nat) (x1:(Int×Int)) (x2:(Int×Int)):Option Bool:=
 bif decide (x1.1 < x2.1) then
  some true
 else
  bif (x1.1 == x2.1) then
   some (decide (x1.2 < x2.2))
  else
   some false
theorem t52 (H:H52 D σ F) (x1:(Int×Int)) (x2:(Int×Int)) (s:Nat→V) (hs:zr [(0,.agg [ji x1.1,ji x1.2]),(1,.agg [ji x2.1,ji x2.2])] s) (h:Z3 F x1 x2=some r):Run D σ (R52 r) (.run A52 []) s:=by
 unfold Z3 at h
 obtain ⟨h0,h1⟩:=hs
 refine .seq (zw (z3 ?_))
 refine ez [(0,_),(1,_),(2,_),(3,_)] ⟨za h0 rfl mII,za h1 rfl mII,ze rfl,ze rfl⟩ ?_
 rintro s ⟨h0,h1,h2,h3⟩
 refine xo (.agg [ji x1.1,ji x1.2]) (zF h0 rfl) h2 rfl (xo (.agg [ji x2.1,ji x2.2]) (zF h1 rfl) h3 rfl (g0 (jb false) fun h4=>gq (.nsq (.seq (rg (g1 2 (.ref (.bx 2) 0 [0] (ji x1.1)) (rf (.ref (.bx 2) 0 [] (.agg [ji x1.1,ji x1.2]))) fun h5=>g1 5 (ji x1.1) h5 fun h6=>g1 3 (.ref (.bx 3) 0 [0] (ji x2.1)) (rf (.ref (.bx 3) 0 [] (.agg [ji x2.1,ji x2.2]))) fun h7=>g1 7 (ji x2.1) h7 fun h8=>g2 6 8 (jb (decide (x1.1 < x2.1))) h6 h8 fun h9=>gm h9 fun h10=>z4 h (fun hg6 h=>?_) (fun hg6 h=>?_)))))))
 · iterate 6 refine zR (ct h10 hg6) ?_
   iterate 5 refine YF rfl ?_
   refine zR (ct h10 hg6) (g2 10 22 (jb true) (ct h10 hg6) (rf (.tup [])) fun h23=>gm h23 fun h4=>gq (.nsq (.ret ?_)))
   obtain rfl:=oi h
   exact rrA (zo h4) rfl
 refine zm (ct h10 hg6) (g1 2 (.ref (.bx 2) 0 [0] (ji x1.1)) (rf (.ref (.bx 2) 0 [] (.agg [ji x1.1,ji x1.2]))) fun h11=>zm (ct h10 hg6) (g1 11 (ji x1.1) h11 fun h12=>zm (ct h10 hg6) (g1 3 (.ref (.bx 3) 0 [0] (ji x2.1)) (rf (.ref (.bx 3) 0 [] (.agg [ji x2.1,ji x2.2]))) fun h13=>zm (ct h10 hg6) (g1 13 (ji x2.1) h13 fun h14=>zm (ct h10 hg6) (g2 12 14 (jb (x1.1 == x2.1)) h12 h14 fun h15=>zm (ct h10 hg6) (gm h15 fun h16=>z4 h (fun hg12 h=>?_) (fun hg12 h=>?_)))))))
 · refine zm (ct h16 hg12) (g1 2 (.ref (.bx 2) 0 [1] (ji x1.2)) (rf (.ref (.bx 2) 0 [] (.agg [ji x1.1,ji x1.2]))) fun h17=>zm (ct h16 hg12) (g1 17 (ji x1.2) h17 fun h18=>zm (ct h16 hg12) (g1 3 (.ref (.bx 3) 0 [1] (ji x2.2)) (rf (.ref (.bx 3) 0 [] (.agg [ji x2.1,ji x2.2]))) fun h19=>zm (ct h16 hg12) (g1 19 (ji x2.2) h19 fun h20=>zm (ct h16 hg12) (g2 18 20 (jb (decide (x1.2 < x2.2))) h18 h20 fun h21=>zm (ct h10 hg6) (g2 16 21 (jb (decide (x1.2 < x2.2))) (ct h16 hg12) h21 fun h22=>g2 10 22 (jb (decide (x1.2 < x2.2))) (ct h10 hg6) h22 fun h23=>gm h23 fun h4=>gq (.nsq (.ret ?_))))))))
   obtain rfl:=oi h
   exact rrA (zo h4) rfl
 iterate 5 refine zR (ct h16 hg12) ?_
 refine zm (ct h10 hg6) (g2 16 21 (jb false) (ct h16 hg12) (rf (.tup [])) fun h22=>g2 10 22 (jb false) (ct h10 hg6) h22 fun h23=>gm h23 fun h4=>gq (.nsq (.ret ?_)))
 obtain rfl:=oi h
 exact rrA (zo h4) rfl
end
def e52 (F:Nat):Ent:=ent 52 (fun (x:((Int×Int)×(Int×Int)×Unit))=>Z3 F x.1 x.2.1) (fun (r:Bool)=>(Enc.enc (r:Bool))) 0 false []
abbrev C52 (D:List V→Option V) (F:Nat):Prop:=∀ (x0:(Int×Int)) (x1:(Int×Int)) r,Z3 F x0 x1=some r→D [Enc.enc x0,Enc.enc x1]=some (Enc.enc (r:Bool))
theorem p52 {F:Nat}:C52 (e52 F).den F:=fun x0 x1 _ h=>zU (x0,x1,()) h
theorem o52 (hF:zG Try.prog D σ) (H:H52 D σ F):(e52 F).Ok Try.prog:=okZ (f:=52) Try.func52 fun ⟨x0,x1,_⟩ y hy=>cR hF Try.func52 c52 (t52 H x0 x1 _ ⟨rfl,rfl⟩ hy)
def zi6:AC:=(.cond (.t 17) .skip (.exit 0))
def ziq:AC:=(.block 1 (rr [jm 18 5,jv 19 (.bin .add (.t 18) (jn 1)),jm 5 19]))
def LO:AC:=(.seq (.seq (rr [jm 6 5,jm 7 0,jk 8 7,jv 9 (.bin .lss (.t 6) (.t 8)),jm 10 9,jg 11 10 true (.mov (.t 0)),jg 12 10 true (.mov (.t 5)),jg 13 10 true (.idx (.t 11) (.t 12) 2),jg 14 10 true (.load (.ag [.s,.s]) (.t 13)),jg 15 10 true (.load (.ag [.s,.s]) (.t 3)),.mk (some 16) (some (10,true)) false (.call (jf 52) [.t 14,.t 15]),jv 17 (.pick (.t 10) (.t 16) kf)]) zi6) ziq)
def zbH:AC:=(.seq (.reg [.clr [20,24,26,27,31]] [jy 20 (.lit (.agg [i0,i0]) 0 []),jm 21 0,jm 22 5,jv 23 (.slice (.t 21) none (some (.t 22)) 2),jy 24 (.appS (.ag [.s,.s]) (.t 20) (.t 23)),jv 25 (.load (.ag [.s,.s]) (.t 3)),jx 26 (.lit (.agg [i0,i0]) 1 [(0,0,.t 25)]),jy 27 (.appS (.ag [.s,.s]) (.t 24) (.t 26)),jm 28 0,jm 29 5,jv 30 (.slice (.t 28) (some (.t 29)) none 2),jx 31 (.appS (.ag [.s,.s]) (.t 27) (.t 30)),jm 4 31] [.home 31 4]) .ret)
def zoR:AC:=(.seq (.block 0 (.loop LO)) zbH)
def znm:AC:=(.seq (rr [jv 5 (.mov (jn 0))]) zoR)
def zr2:AC:=(.seq (.reg [.clr [3]] [jx 3 (.box (.t 1)),jv 4 (.mov (.k (.sl .nl (.ag [.s,.s]) 0 [])))] []) znm)
def zu4:List An:=[⟨0,[.clr [3]],[],[],[]⟩,⟨4,[.clr [20,24,26,27,31]],[0,4,7],[4,7,11],[.home 31 4]⟩]
theorem c72o:cq Try.prog Try.f72 zu4=some zr2:=by kernel_rfl
structure zls (D:Den) (σ:Sig) (F:Nat):Prop where
 c52:C52 (D 52) F
 g52:σ 52=some (0,false)
abbrev zlZ (r:(NL (Int×Int))):(Nat→V)→Prop:=RR Try.prog [.tmp 4] 1 false (zu .sh (r:NL (Int×Int)))
section
variable {r:(NL (Int×Int))}
def Zp (F:Nat) (x1:TP) (v2:(Int×Int)) (x8:Int) (c1:Int→Option (NL (Int×Int))) (x16:Bool):Option (NL (Int×Int)):=
 bif x16 then
  c1 (w64 (x8 + 1))
 else
  (sub x1 0 x8).bind fun sub17=>
  (uQ [] sub17).bind fun ap18=>
  (uQ ap18 [v2]).bind fun ap19=>
  (sub x1 x8 (x1.length:Int)).bind fun sub20=>
  (uQ ap19 sub20).bind fun ap21=>
  some (.of ap21)
theorem zaB (H:zls D σ F) (x1:TP) (v2:(Int×Int)) (x8:Int) (c1:Int→Option (NL (Int×Int))) (Hc1:∀ (x8:Int) (s:Nat→V),zr [(0,eP x1),(3,.ref (.bx 3) 0 [] (.agg [ji v2.1,ji v2.2])),(4,nP),(5,ji x8)] s→c1 x8=some r→Run D σ (zlZ r) (.run LO [.lp LO,.bk 0,.sq zbH]) s) (x16:Bool) (s:Nat→V) (hs:zr [(0,eP x1),(3,.ref (.bx 3) 0 [] (.agg [ji v2.1,ji v2.2])),(4,nP),(5,ji x8),(17,jb x16)] s) (h:Zp F x1 v2 x8 c1 x16=some r):Run D σ (zlZ r) (.nrm [.sq zi6,.sq ziq,.lp LO,.bk 0,.sq zbH]) s:=by
 unfold Zp at h
 obtain ⟨h0,h3,h4,h5,h17⟩:=hs
 refine .nsq (zn h17 h (fun h=>?_) (fun h=>?_))
 · refine .skip (.nsq (.block (rg (gm h5 fun h18=>g1 18 (ji (w64 (x8 + 1))) h18 fun h19=>gm h19 fun h5=>gq (.nbk (.nlp ?_))))))
   exact Hc1 (w64 (x8 + 1)) _ ⟨h0,h3,h4,h5⟩ h
 refine .exit (.esq (.elp (.ebk (.nsq (.seq (zw (z3 ?_)))))))
 refine ez [(0,_),(3,_),(4,_),(5,_),(20,_),(24,_),(26,_),(27,_),(31,_)] ⟨za h0 rfl me,za h3 rfl (zj rfl mII),za h4 rfl rfl,za h5 rfl mi,ze rfl,ze rfl,ze rfl,ze rfl,ze rfl⟩ ?_
 rintro s ⟨h0,h3,h4,h5,h20,h24,h26,h27,h31⟩
 refine zb0 [] [] trivial rfl rfl h20 (gm h0 fun h21=>gm h5 fun h22=>?_)
 obtain ⟨sub17,Esub17,h⟩:=zb h
 refine gv (eP sub17) (UV (xs:=x1) h21 (YQ) (YY h22) Esub17 rfl) fun h23=>?_
 obtain ⟨ap18,Eap18,h⟩:=zb h
 refine Jh (p:=[]) (xs:=[]) (ys:=(sub17:TP)) (t2:=.sh) (lo2:=0) rfl h23 rfl h24 rfl Eap18 (g1 3 (.agg [ji v2.1,ji v2.2]) h3 fun h25=>xI [(25,.agg [ji v2.1,ji v2.2])] [Enc.enc (v2:(Int×Int))] h25 rfl rfl h26 ?_)
 obtain ⟨ap19,Eap19,h⟩:=zb h
 refine Jh (p:=[]) (xs:=ap18) (ys:=([v2]:TP)) (t2:=.at 26 []) (lo2:=0) rfl rfl rfl h27 rfl Eap19 (gm h0 fun h28=>gm h5 fun h29=>?_)
 obtain ⟨sub20,Esub20,h⟩:=zb h
 refine gv (eP sub20) (UV (xs:=x1) h28 (YY h29) (YQ) Esub20 rfl) fun h30=>?_
 obtain ⟨ap21,Eap21,h⟩:=zb h
 refine Jh (p:=[]) (xs:=ap19) (ys:=(sub20:TP)) (t2:=.sh) (lo2:=0) rfl h30 rfl h31 rfl Eap21 (gm (rf (zu (.at 31 []) (.of (ap21:TP)))) fun h4=>yS (yu (r:=31) (x:=4) (v:=_) h4 rfl (fun s3 hz3=>?_)))
 refine ez [(4,zu (.at 4 []) (.of (ap21:TP)))] (hz3 4 _ _ h4 (zq (r:=31) (p:=[]) rfl rfl)) ?_
 rintro s h4
 refine .nsq (.ret ?_)
 obtain rfl:=oi h
 exact rrA (zo h4) (Xc (Xs (o:=((.of ap21):NL (Int×Int)))) rfl (xD rfl))
def wq (F:Nat) (x1:TP) (v2:(Int×Int)) :Nat→Int→Option (NL (Int×Int))
 | 0,_=>none
 | k + 1,x8=>
   bif decide (x8 < (x1.length:Int)) then
    (idx x1 x8).bind fun v22=>
    (Z3 F v22 v2).bind fun r23=>
    Zp F x1 v2 x8 (wq F x1 v2 k) r23
   else
    Zp F x1 v2 x8 (wq F x1 v2 k) false
theorem zhO (H:zls D σ F) (x1:TP) (v2:(Int×Int)) :∀ (k:Nat) (x8:Int) (s:Nat→V),zr [(0,eP x1),(3,.ref (.bx 3) 0 [] (.agg [ji v2.1,ji v2.2])),(4,nP),(5,ji x8)] s→wq F x1 v2 k x8=some r→Run D σ (zlZ r) (.run LO [.lp LO,.bk 0,.sq zbH]) s:=by
 intro k
 induction k with
 | zero=>intro x8 s _ h;exact nm h
 | succ k ih=>
   intro x8 s hs h
   rw [wq] at h
   obtain ⟨h0,h3,h4,h5⟩:=hs
   refine .seq (.seq (rg (gm h5 fun h6=>gm h0 fun h7=>gl x1 h7 fun h8=>g2 6 8 (jb (decide (x8 < (x1.length:Int)))) h6 h8 fun h9=>gm h9 fun h10=>z4 h (fun hg5 h=>?_) (fun hg5 h=>?_))))
   · refine zm (ct h10 hg5) (gm h0 fun h11=>zm (ct h10 hg5) (gm h5 fun h12=>?_))
     obtain ⟨v22,Ev22,h⟩:=zb h
     refine zm (ct h10 hg5) (gv (.ref .sh 0 [] (.agg [ji v22.1,ji v22.2])) (yn (t:=.sh) (lo:=0) (xs:=x1) h11 h12 Ev22 rfl rfl) fun h13=>zm (ct h10 hg5) (g1 13 (.agg [ji v22.1,ji v22.2]) h13 fun h14=>zm (ct h10 hg5) (g1 3 (.agg [ji v2.1,ji v2.2]) h3 fun h15=>?_)))
     obtain ⟨r23,Er23,h⟩:=zb h
     refine zm (ct h10 hg5) (gcF [Enc.enc (v22:(Int×Int)),Enc.enc (v2:(Int×Int))] (zf h14 rfl (Enc.erase_enc (v22:(Int×Int))) (zf h15 rfl (Enc.erase_enc (v2:(Int×Int))) zA)) (H.c52 _ _ _ Er23) H.g52 (g2 10 16 (jb r23) (ct h10 hg5) (rf (jb r23)) fun h17=>gq ?_))
     exact zaB H x1 v2 x8 (wq F x1 v2 k) ih r23 _ ⟨h0,h3,h4,h5,h17⟩ h
   iterate 6 refine zR (ct h10 hg5) ?_
   refine g2 10 16 (jb false) (ct h10 hg5) (rf (.tup [])) fun h17=>gq ?_
   exact zaB H x1 v2 x8 (wq F x1 v2 k) ih false _ ⟨h0,h3,h4,h5,h17⟩ h
def Yd (F:Nat) (x1:TP) (v2:(Int×Int)):Option (NL (Int×Int)):=
 wq F x1 v2 F 0
theorem zw6 (H:zls D σ F) (x1:TP) (v2:(Int×Int)) (s:Nat→V) (hs:zr [(0,eP x1),(1,.agg [ji v2.1,ji v2.2])] s) (h:Yd F x1 v2=some r):Run D σ (zlZ r) (.run zr2 []) s:=by
 unfold Yd at h
 obtain ⟨h0,h1⟩:=hs
 refine .seq (zw (z3 ?_))
 refine ez [(0,_),(1,_),(3,_)] ⟨za h0 rfl me,za h1 rfl mII,ze rfl⟩ ?_
 rintro s ⟨h0,h1,h3⟩
 refine xo (.agg [ji v2.1,ji v2.2]) (zF h1 rfl) h3 rfl (g0 nP fun h4=>gq (.nsq (.seq (rg (g0 (ji 0) fun h5=>gq (.nsq (.seq (.block (.loop ?_)))))))))
 exact zhO H x1 v2 F 0 _ ⟨h0,rfl,h4,h5⟩ h
end
def zpE (F:Nat):Ent:=ent 1000000072 (fun (x:(TP×(Int×Int)×Unit))=>Yd F x.1 x.2.1) (fun (r:(NL (Int×Int)))=>(zu .sh (r:NL (Int×Int)))) 1 false []
abbrev znN (D:List V→Option V) (F:Nat):Prop:=∀ (x0:TP) (x1:(Int×Int)) r,Yd F x0 x1=some r→D [Enc.enc x0,Enc.enc x1]=some (zu .sh (r:NL (Int×Int)))
theorem zsT {F:Nat}:znN (zpE F).den F:=fun x0 x1 _ h=>zU (x0,x1,()) h
theorem zwP (hF:zG Try.prog D σ) (H:zls D σ F):(zpE F).Ok Try.prog:=okZ (f:=72) Try.func72 fun ⟨x0,x1,_⟩ y hy=>cR hF Try.func72 c72o (zw6 H x0 x1 _ ⟨rfl,rfl⟩ hy)
def zol:AC:=(.seq (rr [jv 13 (.load (.ag [.s,.p]) (.t 3)),jz (.store (.ag [.s,.p]) (.t 2) (.t 13))]) .ret)
def zpe:AC:=(.seq (.reg [.clr [11]] [jv 6 (.fld (.t 3) 1 1),jv 7 (.load .p (.t 6)),jm 8 0,jv 9 (.bin .sub (.t 8) (jn 1)),jv 10 (.bld (.agg [i0,i0]) [(0,0,jn 0),(1,1,.t 9)]),jx 11 (.callO (jf 72) [.t 7,.t 10]),jv 12 (.fld (.t 3) 1 1),jz (.store .p (.t 12) (.t 11))] [.drp 5,.home 11 5]) zol)
def zoL:AC:=(.seq (.reg [.clr [5,3]] [jm 4 0,jx 5 (.callO (jf 69) [.t 4]),jx 3 (.alloc (.agg [i0,.sl .nl (.ag [.s,.s]) 0 []])),jz (.store (.ag [.s,.p]) (.t 3) (.t 5))] []) zpe)
def zvA:AC:=(.seq (.reg [.clr [2]] [jx 2 (.alloc (.agg [i0,.sl .nl (.ag [.s,.s]) 0 []]))] []) zoL)
def zu2:List An:=[⟨0,[.clr [2]],[],[],[]⟩,⟨1,[.clr [5,3]],[],[1001],[]⟩,⟨2,[.clr [11]],[],[1005],[.drp 5,.home 11 5]⟩]
theorem c70o:cq Try.prog Try.f70 zu2=some zvA:=by kernel_rfl
structure zuW (D:Den) (σ:Sig) (F:Nat):Prop where
 c69o:zpK (D 1000000069) F
 g69o:σ 1000000069=some (1,false)
 c72o:znN (D 1000000072) F
 g72o:σ 1000000072=some (1,false)
abbrev zxD (r:(Int×(NL (Int×Int)))):(Nat→V)→Prop:=RR Try.prog [.cell 2 26] 1 false (.agg [Enc.enc (r.1:Int),zu .sh (r.2:NL (Int×Int))])
section
variable {r:(Int×(NL (Int×Int)))}
def ZQ (F:Nat) (x1:Int):Option (Int×(NL (Int×Int))):=
 (YD F x1).bind fun r2=>
 (Yd F r2.2.list (0,w64 (x1 - 1))).bind fun r3=>
 some (r2.1,r3)
theorem zxa (H:zuW D σ F) (x1:Int) (s:Nat→V) (hs:zr [(0,ji x1)] s) (h:ZQ F x1=some r):Run D σ (zxD r) (.run zvA []) s:=by
 unfold ZQ at h
 have h0:=hs
 refine .seq (zw (z3 ?_))
 refine ez [(0,_),(2,_)] ⟨za h0 rfl mi,ze rfl⟩ ?_
 rintro s ⟨h0,h2⟩
 refine xA h2 (gq (.nsq (.seq (zw (z3 ?_)))))
 refine ez [(0,_),(2,_),(3,_),(5,_)] ⟨za h0 rfl mi,za rfl rfl (zj rfl (mIx rfl)),ze rfl,ze rfl⟩ ?_
 rintro s ⟨h0,h2,h3,h5⟩
 refine gm h0 fun h4=>?_
 obtain ⟨r2,Er2,h⟩:=zb h
 refine ZM (m:=1) (al:=false) (r:=.agg [Enc.enc (r2.1:Int),zu .sh (r2.2:NL (Int×Int))]) (v:=.agg [ji r2.1,zu (.at 5 [1]) (r2.2:NL (Int×Int))]) (kk:=1000000069) [Enc.enc (x1:Int)] (zf h4 rfl rfl zA) (H.c69o _ _ Er2) H.g69o rfl (Lk (yg rfl (yg ve yr))) (MM (ZE rfl (ZE uc JN))) rfl h5 (xA h3 (ye (.agg [ji r2.1,zu (.at 5 [1]) (r2.2:NL (Int×Int))]) (zF rfl rfl) (zF rfl rfl) ⟨by decide,by decide,rfl,(by simp [V.shape,V.shapes,wm,Sh.beq,Sh.beqs]),(by simp [V.shape,V.shapes,wm,Sh.beq,Sh.beqs]),(by simp [V.toks,V.tokss,yd])⟩ ?_))
 refine gz [(0,ji x1),(2,bZ 2),(3,.ref (.bx 3) 0 [] (.agg [ji r2.1,zu (.at 5 [1]) (r2.2:NL (Int×Int))]))] ⟨zd h0 rfl,zd h2 (zH rfl rfl (yL (zy rfl (zy rfl rfl)))),zd rfl rfl⟩ ?_
 rintro s ⟨h0,h2,h3⟩
 refine .nsq (.seq (zw (z3 ?_)))
 refine ez [(0,_),(2,_),(3,_),(11,_)] ⟨za h0 rfl mi,za h2 rfl (zj rfl (mIx rfl)),za h3 rfl (zj rfl (zW (zh mi (zh (zq (r:=5) (p:=[1]) rfl rfl) zB)))),ze rfl⟩ ?_
 rintro s ⟨h0,h2,h3,h11⟩
 refine g1 3 (.ref (.bx 3) 0 [1] (zu (.at 5 [1]) (r2.2:NL (Int×Int)))) h3 fun h6=>gv (zu (.at 5 [1]) (r2.2:NL (Int×Int))) (Uu h6 Qc) fun h7=>gm h0 fun h8=>g1 8 (ji (w64 (x1 - 1))) h8 fun h9=>g1 9 (.agg [ji 0,ji (w64 (x1 - 1))]) h9 fun h10=>?_
 obtain ⟨r3,Er3,h⟩:=zb h
 refine ZM (m:=1) (al:=false) (r:=zu .sh (r3:NL (Int×Int))) (v:=zu (.at 11 []) (r3:NL (Int×Int))) (kk:=1000000072) [eP r2.2.list,Enc.enc ((0,w64 (x1 - 1)):(Int×Int))] (zf h7 vK (uw (o:=r2.2)) (zf h10 rfl (Enc.erase_enc ((0,w64 (x1 - 1)):(Int×Int))) zA)) (H.c72o _ _ _ Er3) H.g72o rfl ve uc vK h11 (g1 3 (.ref (.bx 3) 0 [1] (zu (.at 5 [1]) (r2.2:NL (Int×Int)))) h3 fun h12=>ye (zu (.at 11 []) (r3:NL (Int×Int))) (zF h12 rfl) (zF rfl vK) ⟨by decide,by decide,NG,US,US,WZ rfl rfl⟩ (yS (Jy (x:=5) (fun s4 hx_4 hd_4=>?_))))
 refine yu (r:=11) (x:=5) (v:=_) (by exact hx_4) rfl (fun s5 hz5=>?_)
 refine ez [(2,bZ 2),(3,.ref (.bx 3) 0 [] (.agg [ji r2.1,zu (.at 5 []) (r3:NL (Int×Int))]))] ⟨hz5 2 _ _ (show s4 2=(bZ 2) from (hd_4 2 (by decide)).trans (zd h2 (zH rfl rfl (yL (zy rfl (zy rfl rfl)))))) (zj rfl (mIx rfl)),hz5 3 _ (.ref (.bx 3) 0 [] (.agg [ji r2.1,zu (.at 5 []) (r3:NL (Int×Int))])) (show s4 3=(.ref (.bx 3) 0 [] (.agg [ji r2.1,zu (.at 11 []) (r3:NL (Int×Int))])) from (hd_4 3 (by decide)).trans (zd h3 (U6 (zy rfl (zy (wH rfl rfl) rfl))))) (zj rfl (zW (zh mi (zh (zq (r:=11) (p:=[]) rfl rfl) zB))))⟩ ?_
 rintro s ⟨h2,h3⟩
 refine .nsq (.seq (rg (gv (.agg [ji r2.1,zu (.at 5 []) (r3:NL (Int×Int))]) (Uu (c:=.agg [ji r2.1,zu (.at 5 []) (r3:NL (Int×Int))]) h3 (by simp [V.shape,V.shapes,wm,KN,Sh.beq,Sh.beqs])) fun h13=>ye (.agg [ji r2.1,zu (.at 5 []) (r3:NL (Int×Int))]) (zF h2 rfl) (zF h13 rfl) ⟨by decide,by decide,rfl,(by simp [V.shape,V.shapes,wm,Sh.beq,Sh.beqs]),(by simp [V.shape,V.shapes,wm,Sh.beq,Sh.beqs]),(by simp [V.toks,V.tokss,yd])⟩ (gz [(2,.ref (.bx 2) 0 [] (.agg [ji r2.1,zu (.at 5 []) (r3:NL (Int×Int))]))] (zd h2 rfl) ?_))))
 rintro s h2
 refine .nsq (.ret ?_)
 obtain rfl:=oi h
 exact rrA (v7 h2 (by simp only [V.shape,V.shapes,wm];kernel_rfl)) (Xc (NK (uq N2 (uq (Xs (o:=(r3:NL (Int×Int)))) UK))) rfl (Ln (xn rfl (xn (xD rfl) ZG))))
end
def zpl (F:Nat):Ent:=ent 1000000070 (fun (x:(Int×Unit))=>ZQ F x.1) (fun (r:(Int×(NL (Int×Int))))=>(.agg [Enc.enc (r.1:Int),zu .sh (r.2:NL (Int×Int))])) 1 false []
abbrev zp8 (D:List V→Option V) (F:Nat):Prop:=∀ (x0:Int) r,ZQ F x0=some r→D [Enc.enc x0]=some (.agg [Enc.enc (r.1:Int),zu .sh (r.2:NL (Int×Int))])
theorem zwr {F:Nat}:zp8 (zpl F).den F:=fun x0 _ h=>zU (x0,()) h
theorem zwu (hF:zG Try.prog D σ) (H:zuW D σ F):(zpl F).Ok Try.prog:=okZ (f:=70) Try.func70 fun ⟨x0,_⟩ y hy=>cR hF Try.func70 c70o (zxa H x0 _ rfl hy)
def zos:AC:=(.cond (.t 11) .skip (.exit 0))
def zoE:AC:=(.cond (.t 18) .skip (.exit 2))
def zpG:AC:=(rr [jm 19 5,jv 20 (.bin .add (.t 19) (jn 1)),jm 5 20])
def zpC:AC:=(.seq (.block 3 (.reg [.clr [26,27]] [jv 21 (.fld (.t 3) 1 1),jv 22 (.load .p (.t 21)),jm 23 4,jm 24 5,jv 25 (.bld (.agg [i0,i0]) [(0,0,.t 23),(1,1,.t 24)]),jx 26 (.lit (.agg [i0,i0]) 1 [(0,0,.t 25)]),jx 27 (.app (.ag [.s,.s]) (.t 22) (.t 26)),jv 28 (.fld (.t 3) 1 1),jz (.store .p (.t 28) (.t 27))] [.drp 7,.home 27 7])) zpG)
def zeD:AC:=(.seq (.seq (rr [jm 16 5,jm 17 0,jv 18 (.bin .lss (.t 16) (.t 17))]) zoE) zpC)
def znp:AC:=(.block 2 (.loop zeD))
def zil:AC:=(rr [jm 12 4,jv 13 (.bin .add (.t 12) (jn 1)),jm 4 13])
def zo9:AC:=(.seq (.block 1 (.seq (rr [jm 14 4,jv 15 (.bin .add (.t 14) (jn 1)),jm 5 15]) znp)) zil)
def LZ:AC:=(.seq (.seq (rr [jm 9 4,jm 10 0,jv 11 (.bin .lss (.t 9) (.t 10))]) zos) zo9)
def MT:AC:=(.seq (rr [jv 29 (.load (.ag [.s,.p]) (.t 3)),jz (.store (.ag [.s,.p]) (.t 2) (.t 29))]) .ret)
def zl3:AC:=(.block 0 (.loop LZ))
def zl8:AC:=(.seq (.seq (rr [jv 4 (.mov (jn 0))]) zl3) MT)
def zl2:AC:=(.seq (.reg [.clr [7,3]] [jm 6 0,jx 7 (.lit (.agg [i0,i0]) 0 []),jv 8 (.bld (.agg [i0,.sl .nl (.ag [.s,.s]) 0 []]) [(0,0,.t 6),(1,1,.t 7)]),jx 3 (.alloc (.agg [i0,.sl .nl (.ag [.s,.s]) 0 []])),jz (.store (.ag [.s,.p]) (.t 3) (.t 8))] []) zl8)
def zr5:AC:=(.seq (.reg [.clr [2]] [jx 2 (.alloc (.agg [i0,.sl .nl (.ag [.s,.s]) 0 []]))] []) zl2)
def zrt:List An:=[⟨0,[.clr [2]],[],[],[]⟩,⟨1,[.clr [7,3]],[],[],[]⟩,⟨8,[.clr [26,27]],[],[],[.drp 7,.home 27 7]⟩]
theorem c71o:cq Try.prog Try.f71 zrt=some zr5:=by kernel_rfl
structure zlu (D:Den) (σ:Sig) (F:Nat):Prop where
 mk ::
abbrev zlG (r:(Int×(NL (Int×Int)))):(Nat→V)→Prop:=RR Try.prog [.cell 2 26] 1 false (.agg [Enc.enc (r.1:Int),zu .sh (r.2:NL (Int×Int))])
section
variable {r:(Int×(NL (Int×Int)))}
def ZJ (F:Nat) (x1:Int) (x8:Int) (c1:TP→Int→Option (Int×(NL (Int×Int)))):Nat→TP→Int→Option (Int×(NL (Int×Int)))
 | 0,_,_=>none
 | k + 1,x15,x16=>
   bif decide (x16 < x1) then
    (uQ x15 [(x8,x16)]).bind fun ap18=>
    (ZJ F x1 x8 c1 k) ap18 (w64 (x16 + 1))
   else
    c1 x15 (w64 (x8 + 1))
theorem zhX (H:zlu D σ F) (x1:Int) (x8:Int) (c1:TP→Int→Option (Int×(NL (Int×Int)))) (Hc1:∀ (x7:TP) (x8:Int) (s:Nat→V),zr [(0,ji x1),(2,bZ 2),(3,.ref (.bx 3) 0 [] (.agg [ji x1,zu (.at 7 []) (.of (x7:TP))])),(4,ji x8)] s→c1 x7 x8=some r→Run D σ (zlG r) (.run LZ [.lp LZ,.bk 0,.sq MT]) s):∀ (k:Nat) (x15:TP) (x16:Int) (s:Nat→V),zr [(0,ji x1),(2,bZ 2),(3,.ref (.bx 3) 0 [] (.agg [ji x1,zu (.at 7 []) (.of (x15:TP))])),(4,ji x8),(5,ji x16)] s→ZJ F x1 x8 c1 k x15 x16=some r→Run D σ (zlG r) (.run zeD [.lp zeD,.bk 2,.bk 1,.sq zil,.lp LZ,.bk 0,.sq MT]) s:=by
 intro k
 induction k with
 | zero=>intro x15 x16 s _ h;exact nm h
 | succ k ih=>
   intro x15 x16 s hs h
   rw [ZJ] at h
   obtain ⟨h0,h2,h3,h4,h5⟩:=hs
   refine .seq (.seq (rg (gm h5 fun h16=>gm h0 fun h17=>g2 16 17 (jb (decide (x16 < x1))) h16 h17 fun h18=>gq (.nsq (zn h18 h (fun h=>?_) (fun h=>?_))))))
   · refine .skip (.nsq (.seq (.block (zw (z3 ?_)))))
     refine ez [(0,_),(2,_),(3,_),(4,_),(5,_),(26,_),(27,_)] ⟨za h0 rfl mi,za h2 rfl (zj rfl (mIx rfl)),za h3 rfl (zj rfl (zW (zh mi (zh (zq (r:=7) (p:=[]) rfl rfl) zB)))),za h4 rfl mi,za h5 rfl mi,ze rfl,ze rfl⟩ ?_
     rintro s ⟨h0,h2,h3,h4,h5,h26,h27⟩
     refine g1 3 (.ref (.bx 3) 0 [1] (zu (.at 7 []) (.of (x15:TP)))) h3 fun h21=>g1 21 (zu (.at 7 []) (.of (x15:TP))) h21 fun h22=>gm h4 fun h23=>gm h5 fun h24=>g2 23 24 (.agg [ji x8,ji x16]) h23 h24 fun h25=>xI [(25,.agg [ji x8,ji x16])] [Enc.enc ((x8,x16):(Int×Int))] h25 rfl rfl h26 ?_
     obtain ⟨ap18,Eap18,h⟩:=zb h
     refine XR (q:=7) (p:=[]) (o:=.of (x15:TP)) (ys:=([(x8,x16)]:TP)) (t2:=.at 26 []) (lo2:=0) h22 rfl rfl h27 (Z4 (o:=.of (x15:TP)) Eap18 trivial) (fun s36 ha36=>g1 3 (.ref (.bx 3) 0 [1] (kdO ((.of x15):NL (Int×Int)))) (show s36 3=(.ref (.bx 3) 0 [] (.agg [ji x1,kdO ((.of x15):NL (Int×Int))])) from YU ha36 h3 (zj rfl (zW (zh mi (zh Uf zB)))) (by intro h;first | (cases h;done) | (subst h;rfl))) fun h28=>ye (zu (.at 27 []) (.of (ap18:TP))) (zF h28 rfl) (zF rfl rfl) ⟨by decide,by decide,rfl,rfl,MY,WZ rfl rfl⟩ (yS (Jy (x:=7) (fun s37 hx_37 hd_37=>?_))))
     refine yu (r:=27) (x:=7) (v:=_) (by exact hx_37) rfl (fun s38 hz38=>?_)
     refine ez [(0,ji x1),(2,bZ 2),(3,.ref (.bx 3) 0 [] (.agg [ji x1,zu (.at 7 []) (.of (ap18:TP))])),(4,ji x8),(5,ji x16)] ⟨hz38 0 _ _ (show s37 0=(ji x1) from (hd_37 0 (by decide)).trans (zd (show s36 0=(ji x1) from yh ha36 h0 mi) rfl)) mi,hz38 2 _ _ (show s37 2=(bZ 2) from (hd_37 2 (by decide)).trans (zd (show s36 2=(bZ 2) from yh ha36 h2 (zj rfl (mIx rfl))) (zH rfl rfl (yL (zy rfl (zy rfl rfl)))))) (zj rfl (mIx rfl)),hz38 3 _ (.ref (.bx 3) 0 [] (.agg [ji x1,zu (.at 7 []) (.of (ap18:TP))])) (show s37 3=(.ref (.bx 3) 0 [] (.agg [ji x1,zu (.at 27 []) (.of (ap18:TP))])) from (hd_37 3 (by decide)).trans (zd (show s36 3=(.ref (.bx 3) 0 [] (.agg [ji x1,kdO ((.of x15):NL (Int×Int))])) from YU ha36 h3 (zj rfl (zW (zh mi (zh Uf zB)))) (by intro h;first | (cases h;done) | (subst h;rfl))) (U6 (zy rfl (zy M4 rfl))))) (zj rfl (zW (zh mi (zh (zq (r:=27) (p:=[]) rfl rfl) zB)))),hz38 4 _ _ (show s37 4=(ji x8) from (hd_37 4 (by decide)).trans (zd (show s36 4=(ji x8) from yh ha36 h4 mi) rfl)) mi,hz38 5 _ _ (show s37 5=(ji x16) from (hd_37 5 (by decide)).trans (zd (show s36 5=(ji x16) from yh ha36 h5 mi) rfl)) mi⟩ ?_
     rintro s ⟨h0,h2,h3,h4,h5⟩
     refine .nbk (.nsq (rg (gm h5 fun h19=>g1 19 (ji (w64 (x16 + 1))) h19 fun h20=>gm h20 fun h5=>gq (.nlp ?_))))
     exact ih ap18 (w64 (x16 + 1)) _ ⟨h0,h2,h3,h4,h5⟩ h
   refine .exit (.esq (.elp (.ebk (.nbk (.nsq (rg (gm h4 fun h12=>g1 12 (ji (w64 (x8 + 1))) h12 fun h13=>gm h13 fun h4=>gq (.nlp ?_))))))))
   exact Hc1 x15 (w64 (x8 + 1)) _ ⟨h0,h2,h3,h4⟩ h
def ug (F:Nat) (x1:Int) :Nat→TP→Int→Option (Int×(NL (Int×Int)))
 | 0,_,_=>none
 | k + 1,x7,x8=>
   bif decide (x8 < x1) then
    ZJ F x1 x8 (ug F x1 k) F x7 (w64 (x8 + 1))
   else
    some (x1,.of x7)
theorem zht (H:zlu D σ F) (x1:Int) :∀ (k:Nat) (x7:TP) (x8:Int) (s:Nat→V),zr [(0,ji x1),(2,bZ 2),(3,.ref (.bx 3) 0 [] (.agg [ji x1,zu (.at 7 []) (.of (x7:TP))])),(4,ji x8)] s→ug F x1 k x7 x8=some r→Run D σ (zlG r) (.run LZ [.lp LZ,.bk 0,.sq MT]) s:=by
 intro k
 induction k with
 | zero=>intro x7 x8 s _ h;exact nm h
 | succ k ih=>
   intro x7 x8 s hs h
   rw [ug] at h
   obtain ⟨h0,h2,h3,h4⟩:=hs
   refine .seq (.seq (rg (gm h4 fun h9=>gm h0 fun h10=>g2 9 10 (jb (decide (x8 < x1))) h9 h10 fun h11=>gq (.nsq (zn h11 h (fun h=>?_) (fun h=>?_))))))
   · refine .skip (.nsq (.seq (.block (.seq (rg (gm h4 fun h14=>g1 14 (ji (w64 (x8 + 1))) h14 fun h15=>gm h15 fun h5=>gq (.nsq (.block (.loop ?_)))))))))
     exact zhX H x1 x8 (ug F x1 k) ih F x7 (w64 (x8 + 1)) _ ⟨h0,h2,h3,h4,h5⟩ h
   refine .exit (.esq (.elp (.ebk (.nsq (.seq (rg (g1 3 (.agg [ji x1,zu (.at 7 []) (.of (x7:TP))]) h3 fun h29=>ye (.agg [ji x1,zu (.at 7 []) (.of (x7:TP))]) (zF h2 rfl) (zF h29 rfl) (xN (by first | rfl | simp [V.toks,V.tokss,Enc.toks_enc,yd])) (gz [(2,.ref (.bx 2) 0 [] (.agg [ji x1,zu (.at 7 []) (.of (x7:TP))]))] (zd h2 rfl) ?_))))))))
   rintro s h2
   refine .nsq (.ret ?_)
   obtain rfl:=oi h
   exact rrA (v7 h2 (by kernel_rfl)) (Xc (NK (uq N2 (uq (Xs (o:=((.of x7):NL (Int×Int)))) UK))) rfl (Ln (xn rfl (xn (xD rfl) ZG))))
def uR (F:Nat) (x1:Int):Option (Int×(NL (Int×Int))):=
 ug F x1 F [] 0
theorem zwf (H:zlu D σ F) (x1:Int) (s:Nat→V) (hs:zr [(0,ji x1)] s) (h:uR F x1=some r):Run D σ (zlG r) (.run zr5 []) s:=by
 unfold uR at h
 have h0:=hs
 refine .seq (zw (z3 ?_))
 refine ez [(0,_),(2,_)] ⟨za h0 rfl mi,ze rfl⟩ ?_
 rintro s ⟨h0,h2⟩
 refine xA h2 (gq (.nsq (.seq (zw (z3 ?_)))))
 refine ez [(0,_),(2,_),(3,_),(7,_)] ⟨za h0 rfl mi,za rfl rfl (zj rfl (mIx rfl)),ze rfl,ze rfl⟩ ?_
 rintro s ⟨h0,h2,h3,h7⟩
 refine gm h0 fun h6=>xI [] [] trivial rfl rfl h7 (g2 6 7 (.agg [ji x1,zu (.at 7 []) (.of ([]:TP))]) h6 (rf (zu (.at 7 []) (.of ([]:TP)))) fun h8=>xA h3 (ye (.agg [ji x1,zu (.at 7 []) (.of ([]:TP))]) (zF rfl rfl) (zF h8 rfl) (xN (by first | rfl | simp [V.toks,V.tokss,Enc.toks_enc,yd])) (gz [(0,ji x1),(2,bZ 2),(3,.ref (.bx 3) 0 [] (.agg [ji x1,zu (.at 7 []) (.of ([]:TP))]))] ⟨zd h0 rfl,zd h2 (zH rfl rfl (yL (zy rfl (zy rfl rfl)))),zd rfl rfl⟩ ?_)))
 rintro s ⟨h0,h2,h3⟩
 refine .nsq (.seq (.seq (rg (g0 (ji 0) fun h4=>gq (.nsq (.block (.loop ?_)))))))
 exact zht H x1 F [] 0 _ ⟨h0,h2,h3,h4⟩ h
end
def zpf (F:Nat):Ent:=ent 1000000071 (fun (x:(Int×Unit))=>uR F x.1) (fun (r:(Int×(NL (Int×Int))))=>(.agg [Enc.enc (r.1:Int),zu .sh (r.2:NL (Int×Int))])) 1 false []
abbrev zrI (D:List V→Option V) (F:Nat):Prop:=∀ (x0:Int) r,uR F x0=some r→D [Enc.enc x0]=some (.agg [Enc.enc (r.1:Int),zu .sh (r.2:NL (Int×Int))])
theorem zwT {F:Nat}:zrI (zpf F).den F:=fun x0 _ h=>zU (x0,()) h
theorem zwp (hF:zG Try.prog D σ) (H:zlu D σ F):(zpf F).Ok Try.prog:=okZ (f:=71) Try.func71 fun ⟨x0,_⟩ y hy=>cR hF Try.func71 c71o (zwf H x0 _ rfl hy)
def zt8:AC:=(.cond (.t 7) (.seq (rr [jm 8 0,jm 4 8]) .ret) .skip)
def zu5:AC:=(.seq (rr [jm 9 1,jm 4 9]) .ret)
def zug:AC:=(.seq (.seq (rr [jm 5 0,jm 6 1,jv 7 (.bin .gtr (.t 5) (.t 6))]) zt8) zu5)
def A31:AC:=(.seq (rr [jv 4 (.mov (jn 0))]) zug)
def zxM:List An:=[]
theorem c31:cq Try.prog Try.f31 zxM=some A31:=by kernel_rfl
structure H31 (D:Den) (σ:Sig) (F:Nat):Prop where
 mk ::
abbrev R31 (r:Int):(Nat→V)→Prop:=RR Try.prog [.tmp 4] 0 false (Enc.enc (r:Int))
section
variable {r:Int}
def Xt (F:Nat) (x1:Int) (x2:Int):Option Int:=
 bif decide (x1 > x2) then
  some x1
 else
  some x2
theorem t31 (H:H31 D σ F) (x1:Int) (x2:Int) (s:Nat→V) (hs:zr [(0,ji x1),(1,ji x2)] s) (h:Xt F x1 x2=some r):Run D σ (R31 r) (.run A31 []) s:=by
 unfold Xt at h
 obtain ⟨h0,h1⟩:=hs
 refine .seq (rg (g0 (ji 0) fun h4=>gq (.nsq (.seq (.seq (rg (gm h0 fun h5=>gm h1 fun h6=>g2 5 6 (jb (decide (x1 > x2))) h5 h6 fun h7=>gq (.nsq (zn h7 h (fun h=>?_) (fun h=>?_))))))))))
 · refine .seq (rg (gm h0 fun h8=>gm h8 fun h4=>gq (.nsq (.ret ?_))))
   obtain rfl:=oi h
   exact rrA (zo h4) rfl
 refine .skip (.nsq (.seq (rg (gm h1 fun h9=>gm h9 fun h4=>gq (.nsq (.ret ?_))))))
 obtain rfl:=oi h
 exact rrA (zo h4) rfl
end
def e31 (F:Nat):Ent:=ent 31 (fun (x:(Int×Int×Unit))=>Xt F x.1 x.2.1) (fun (r:Int)=>(Enc.enc (r:Int))) 0 false []
abbrev C31 (D:List V→Option V) (F:Nat):Prop:=∀ (x0:Int) (x1:Int) r,Xt F x0 x1=some r→D [Enc.enc x0,Enc.enc x1]=some (Enc.enc (r:Int))
theorem p31 {F:Nat}:C31 (e31 F).den F:=fun x0 x1 _ h=>zU (x0,x1,()) h
theorem o31 (hF:zG Try.prog D σ) (H:H31 D σ F):(e31 F).Ok Try.prog:=okZ (f:=31) Try.func31 fun ⟨x0,x1,_⟩ y hy=>cR hF Try.func31 c31 (t31 H x0 x1 _ ⟨rfl,rfl⟩ hy)
def ztA:AC:=(.cond (.t 13) .skip (.exit 0))
def zm0:AC:=(.cond (.t 42) (.seq (rr [jv 6 (.mov kt)]) .ret) .skip)
def ztn:AC:=(.seq (rr [jv 21 (.idxA (.t 8) (jn 0) 2 1),jl 22 21,jm 23 1,jv 24 (.bin .eql (.t 22) (.t 23)),jm 25 24,jg 26 25 true (.idxA (.t 8) (jn 1) 2 1),jg 27 25 true (.load .s (.t 26)),jg 28 25 true (.mov (.t 2)),jg 29 25 true (.bin .eql (.t 27) (.t 28)),jv 30 (.pick (.t 25) (.t 29) kf),jm 31 30,jg 32 31 false (.idxA (.t 8) (jn 0) 2 1),jg 33 31 false (.load .s (.t 32)),jg 34 31 false (.mov (.t 2)),jg 35 31 false (.bin .eql (.t 33) (.t 34)),jg 36 31 false (.mov (.t 35)),jg 37 36 true (.idxA (.t 8) (jn 1) 2 1),jg 38 36 true (.load .s (.t 37)),jg 39 36 true (.mov (.t 1)),jg 40 36 true (.bin .eql (.t 38) (.t 39)),jg 41 31 false (.pick (.t 36) (.t 40) kf),jv 42 (.pick (.t 31) kt (.t 41))]) zm0)
def zmD:AC:=(rr [jm 14 7,jv 15 (.bin .add (.t 14) (jn 1)),jm 7 15])
def zs9:AC:=(.seq (.block 1 (.seq (.reg [.clr [8]] [jv 16 (.fld (.t 3) 1 1),jv 17 (.load .p (.t 16)),jm 18 7,jv 19 (.idx (.t 17) (.t 18) 2),jv 20 (.load (.ag [.s,.s]) (.t 19)),jx 8 (.alloc (.agg [i0,i0])),jz (.store (.ag [.s,.s]) (.t 8) (.t 20))] []) ztn)) zmD)
def zaF:AC:=(.seq (.seq (rr [jm 9 7,jv 10 (.fld (.t 3) 1 1),jv 11 (.load .p (.t 10)),jk 12 11,jv 13 (.bin .lss (.t 9) (.t 12))]) ztA) zs9)
def zgS:AC:=(.seq (rr [jv 6 (.mov kf)]) .ret)
def zub:AC:=(.block 0 (.loop zaF))
def zrb:AC:=(.seq (.seq (rr [jv 7 (.mov (jn 0))]) zub) zgS)
def A73:AC:=(.seq (.reg [.clr [3]] [jx 3 (.box (.t 0)),jv 6 (.mov kf)] []) zrb)
def zwb:List An:=[⟨0,[.clr [3]],[],[],[]⟩,⟨4,[.clr [8]],[],[],[]⟩]
theorem c73:cq Try.prog Try.f73 zwb=some A73:=by kernel_rfl
structure H73 (D:Den) (σ:Sig) (F:Nat):Prop where
 mk ::
abbrev R73 (r:Bool):(Nat→V)→Prop:=RR Try.prog [.tmp 6] 0 false (Enc.enc (r:Bool))
section
variable {r:Bool}
def Za (F:Nat) (x2:Int) (x3:Int) (x1:GR) (x6:Int) (c1:Int→Option Bool) (x10:Bool):Option Bool:=
 bif x10 then
  some true
 else
  c1 (w64 (x6 + 1))
theorem JT (H:H73 D σ F) (x2:Int) (x3:Int) (x1:GR) (x6:Int) (c1:Int→Option Bool) (Hc1:∀ (x6:Int) (s:Nat→V),zr [(1,ji x2),(2,ji x3),(3,bG 3 x1),(6,jb false),(7,ji x6)] s→c1 x6=some r→Run D σ (R73 r) (.run zaF [.lp zaF,.bk 0,.sq zgS]) s) (x10:Bool) (s:Nat→V) (hs:zr [(1,ji x2),(2,ji x3),(3,bG 3 x1),(6,jb false),(7,ji x6),(42,jb x10)] s) (h:Za F x2 x3 x1 x6 c1 x10=some r):Run D σ (R73 r) (.nrm [.sq zm0,.bk 1,.sq zmD,.lp zaF,.bk 0,.sq zgS]) s:=by
 unfold Za at h
 obtain ⟨h1,h2,h3,h6,h7,h42⟩:=hs
 refine .nsq (zn h42 h (fun h=>?_) (fun h=>?_))
 · refine .seq (rg (g0 (jb true) fun h6=>gq (.nsq (.ret ?_))))
   obtain rfl:=oi h
   exact rrA (zo h6) rfl
 refine .skip (.nbk (.nsq (rg (gm h7 fun h14=>g1 14 (ji (w64 (x6 + 1))) h14 fun h15=>gm h15 fun h7=>gq (.nlp ?_)))))
 exact Hc1 (w64 (x6 + 1)) _ ⟨h1,h2,h3,h6,h7⟩ h
def xv (F:Nat) (x2:Int) (x3:Int) (x1:GR) :Nat→Int→Option Bool
 | 0,_=>none
 | k + 1,x6=>
   bif decide (x6 < (x1.2.length:Int)) then
    (idx x1.2 x6).bind fun v9=>
    bif (v9.1 == x2) then
     bif (v9.2 == x3) then
      Za F x2 x3 x1 x6 (xv F x2 x3 x1 k) true
     else
      bif (v9.1 == x3) then
       Za F x2 x3 x1 x6 (xv F x2 x3 x1 k) (v9.2 == x2)
      else
       Za F x2 x3 x1 x6 (xv F x2 x3 x1 k) false
    else
     bif (v9.1 == x3) then
      Za F x2 x3 x1 x6 (xv F x2 x3 x1 k) (v9.2 == x2)
     else
      Za F x2 x3 x1 x6 (xv F x2 x3 x1 k) false
   else
    some false
theorem ziG (H:H73 D σ F) (x2:Int) (x3:Int) (x1:GR) :∀ (k:Nat) (x6:Int) (s:Nat→V),zr [(1,ji x2),(2,ji x3),(3,bG 3 x1),(6,jb false),(7,ji x6)] s→xv F x2 x3 x1 k x6=some r→Run D σ (R73 r) (.run zaF [.lp zaF,.bk 0,.sq zgS]) s:=by
 intro k
 induction k with
 | zero=>intro x6 s _ h;exact nm h
 | succ k ih=>
   intro x6 s hs h
   rw [xv] at h
   obtain ⟨h1,h2,h3,h6,h7⟩:=hs
   refine .seq (.seq (rg (gm h7 fun h9=>g1 3 (.ref (.bx 3) 0 [1] (eP x1.2)) h3 fun h10=>g1 10 (eP x1.2) h10 fun h11=>gl x1.2 h11 fun h12=>g2 9 12 (jb (decide (x6 < (x1.2.length:Int)))) h9 h12 fun h13=>gq (.nsq (zn h13 h (fun h=>?_) (fun h=>?_))))))
   · refine .skip (.nsq (.seq (.block (.seq (zw (z3 ?_))))))
     refine ez [(1,_),(2,_),(3,_),(6,_),(7,_),(8,_)] ⟨za h1 rfl mi,za h2 rfl mi,za h3 rfl (zj rfl mIE),za h6 rfl mb,za h7 rfl mi,ze rfl⟩ ?_
     rintro s ⟨h1,h2,h3,h6,h7,h8⟩
     refine g1 3 (.ref (.bx 3) 0 [1] (eP x1.2)) h3 fun h16=>g1 16 (eP x1.2) h16 fun h17=>gm h7 fun h18=>?_
     obtain ⟨v9,Ev9,h⟩:=zb h
     refine gv (.ref .sh 0 [] (.agg [ji v9.1,ji v9.2])) (yn (t:=.sh) (lo:=0) (xs:=x1.2) h17 h18 Ev9 rfl rfl) fun h19=>g1 19 (.agg [ji v9.1,ji v9.2]) h19 fun h20=>xA h8 (ye (.agg [ji v9.1,ji v9.2]) (zF rfl rfl) (zF h20 rfl) (xN (by first | rfl | simp [V.toks,V.tokss,Enc.toks_enc,yd])) (gz [(1,ji x2),(2,ji x3),(3,bG 3 x1),(6,jb false),(7,ji x6),(8,.ref (.bx 8) 0 [] (.agg [ji v9.1,ji v9.2]))] ⟨zd h1 rfl,zd h2 rfl,zd h3 (zH rfl rfl uIE),zd h6 rfl,zd h7 rfl,zd rfl rfl⟩ ?_))
     rintro s ⟨h1,h2,h3,h6,h7,h8⟩
     refine .nsq (.seq (rg (g1 8 (.ref (.bx 8) 0 [0] (ji v9.1)) h8 fun h21=>g1 21 (ji v9.1) h21 fun h22=>gm h1 fun h23=>g2 22 23 (jb (v9.1 == x2)) h22 h23 fun h24=>gm h24 fun h25=>z4 h (fun hg5 h=>?_) (fun hg5 h=>?_))))
     · refine zm (ct h25 hg5) (g1 8 (.ref (.bx 8) 0 [1] (ji v9.2)) h8 fun h26=>zm (ct h25 hg5) (g1 26 (ji v9.2) h26 fun h27=>zm (ct h25 hg5) (gm h2 fun h28=>zm (ct h25 hg5) (g2 27 28 (jb (v9.2 == x3)) h27 h28 fun h29=>g2 25 29 (jb (v9.2 == x3)) (ct h25 hg5) h29 fun h30=>gm h30 fun h31=>z4 h (fun hg11 h=>?_) (fun hg11 h=>?_)))))
       · iterate 5 refine zR (ct h31 hg11) ?_
         iterate 4 refine YF rfl ?_
         refine zR (ct h31 hg11) (g2 31 41 (jb true) (ct h31 hg11) (rf (.tup [])) fun h42=>gq ?_)
         exact JT H x2 x3 x1 x6 (xv F x2 x3 x1 k) ih true _ ⟨h1,h2,h3,h6,h7,h42⟩ h
       refine zm (ct h31 hg11) (g1 8 (.ref (.bx 8) 0 [0] (ji v9.1)) h8 fun h32=>zm (ct h31 hg11) (g1 32 (ji v9.1) h32 fun h33=>zm (ct h31 hg11) (gm h2 fun h34=>zm (ct h31 hg11) (g2 33 34 (jb (v9.1 == x3)) h33 h34 fun h35=>zm (ct h31 hg11) (gm h35 fun h36=>z4 h (fun hg16 h=>?_) (fun hg16 h=>?_))))))
       · refine zm (ct h36 hg16) (g1 8 (.ref (.bx 8) 0 [1] (ji v9.2)) h8 fun h37=>zm (ct h36 hg16) (g1 37 (ji v9.2) h37 fun h38=>zm (ct h36 hg16) (gm h1 fun h39=>zm (ct h36 hg16) (g2 38 39 (jb (v9.2 == x2)) h38 h39 fun h40=>zm (ct h31 hg11) (g2 36 40 (jb (v9.2 == x2)) (ct h36 hg16) h40 fun h41=>g2 31 41 (jb (v9.2 == x2)) (ct h31 hg11) h41 fun h42=>gq ?_)))))
         exact JT H x2 x3 x1 x6 (xv F x2 x3 x1 k) ih (v9.2 == x2) _ ⟨h1,h2,h3,h6,h7,h42⟩ h
       iterate 4 refine zR (ct h36 hg16) ?_
       refine zm (ct h31 hg11) (g2 36 40 (jb false) (ct h36 hg16) (rf (.tup [])) fun h41=>g2 31 41 (jb false) (ct h31 hg11) h41 fun h42=>gq ?_)
       exact JT H x2 x3 x1 x6 (xv F x2 x3 x1 k) ih false _ ⟨h1,h2,h3,h6,h7,h42⟩ h
     iterate 4 refine zR (ct h25 hg5) ?_
     refine g2 25 29 (jb false) (ct h25 hg5) (rf (.tup [])) fun h30=>gm h30 fun h31=>zm h31 (g1 8 (.ref (.bx 8) 0 [0] (ji v9.1)) h8 fun h32=>zm h31 (g1 32 (ji v9.1) h32 fun h33=>zm h31 (gm h2 fun h34=>zm h31 (g2 33 34 (jb (v9.1 == x3)) h33 h34 fun h35=>zm h31 (gm h35 fun h36=>z4 h (fun hg16 h=>?_) (fun hg16 h=>?_))))))
     · refine zm (ct h36 hg16) (g1 8 (.ref (.bx 8) 0 [1] (ji v9.2)) h8 fun h37=>zm (ct h36 hg16) (g1 37 (ji v9.2) h37 fun h38=>zm (ct h36 hg16) (gm h1 fun h39=>zm (ct h36 hg16) (g2 38 39 (jb (v9.2 == x2)) h38 h39 fun h40=>zm h31 (g2 36 40 (jb (v9.2 == x2)) (ct h36 hg16) h40 fun h41=>g2 31 41 (jb (v9.2 == x2)) h31 h41 fun h42=>gq ?_)))))
       exact JT H x2 x3 x1 x6 (xv F x2 x3 x1 k) ih (v9.2 == x2) _ ⟨h1,h2,h3,h6,h7,h42⟩ h
     iterate 4 refine zR (ct h36 hg16) ?_
     refine zm h31 (g2 36 40 (jb false) (ct h36 hg16) (rf (.tup [])) fun h41=>g2 31 41 (jb false) h31 h41 fun h42=>gq ?_)
     exact JT H x2 x3 x1 x6 (xv F x2 x3 x1 k) ih false _ ⟨h1,h2,h3,h6,h7,h42⟩ h
   refine .exit (.esq (.elp (.ebk (.nsq (.seq (rg (g0 (jb false) fun h6=>gq (.nsq (.ret ?_)))))))))
   obtain rfl:=oi h
   exact rrA (zo h6) rfl
def Xj (F:Nat) (x1:GR) (x2:Int) (x3:Int):Option Bool:=
 xv F x2 x3 x1 F 0
theorem t73 (H:H73 D σ F) (x1:GR) (x2:Int) (x3:Int) (s:Nat→V) (hs:zr [(0,gV x1),(1,ji x2),(2,ji x3)] s) (h:Xj F x1 x2 x3=some r):Run D σ (R73 r) (.run A73 []) s:=by
 unfold Xj at h
 obtain ⟨h0,h1,h2⟩:=hs
 refine .seq (zw (z3 ?_))
 refine ez [(0,_),(1,_),(2,_),(3,_)] ⟨za h0 rfl mIE,za h1 rfl mi,za h2 rfl mi,ze rfl⟩ ?_
 rintro s ⟨h0,h1,h2,h3⟩
 refine xo (gV x1) (zF h0 rfl) h3 rfl (g0 (jb false) fun h6=>gq (.nsq (.seq (.seq (rg (g0 (ji 0) fun h7=>gq (.nsq (.block (.loop ?_)))))))))
 exact ziG H x2 x3 x1 F 0 _ ⟨h1,h2,rfl,h6,h7⟩ h
end
def e73 (F:Nat):Ent:=ent 73 (fun (x:(GR×Int×Int×Unit))=>Xj F x.1 x.2.1 x.2.2.1) (fun (r:Bool)=>(Enc.enc (r:Bool))) 0 false []
abbrev C73 (D:List V→Option V) (F:Nat):Prop:=∀ (x0:GR) (x1:Int) (x2:Int) r,Xj F x0 x1 x2=some r→D [Enc.enc x0,Enc.enc x1,Enc.enc x2]=some (Enc.enc (r:Bool))
theorem p73 {F:Nat}:C73 (e73 F).den F:=fun x0 x1 x2 _ h=>zU (x0,x1,x2,()) h
theorem o73 (hF:zG Try.prog D σ) (H:H73 D σ F):(e73 F).Ok Try.prog:=okZ (f:=73) Try.func73 fun ⟨x0,x1,x2,_⟩ y hy=>cR hF Try.func73 c73 (t73 H x0 x1 x2 _ ⟨rfl,rfl,rfl⟩ hy)
def ztt:AC:=(.cond (.t 31) (.reg [.clr [43,44]] [jx 32 (.vN (.fld (.t 3) 1 1) [0]),jx 33 (.vN (.load .p (.t 32)) [0]),jx 34 (.vN (.fld (.t 3) 1 1) [0]),jx 35 (.vN (.load .p (.t 34)) [0]),jm 36 0,jx 37 (.vN (.fld (.t 3) 1 1) [0]),jx 38 (.vN (.load .p (.t 37)) [0]),jx 39 (.vN (.len (.t 38)) [0]),jx 40 (.callT (jf 24) [.t 36,.t 39] [0] []),jv 41 (.idx (.t 35) (.t 40) 2),jv 42 (.load (.ag [.s,.s]) (.t 41)),jx 43 (.lit (.agg [i0,i0]) 1 [(0,0,.t 42)]),jx 44 (.app (.ag [.s,.s]) (.t 33) (.t 43)),jv 45 (.fld (.t 3) 1 1),jz (.store .p (.t 45) (.t 44))] [.drp 2061,.home 44 2061]) .skip)
def zsv:AC:=(.cond (.t 26) (.seq (rr [jv 28 (.fld (.t 3) 1 1),jv 29 (.load .p (.t 28)),jk 30 29,jv 31 (.bin .gtr (.t 30) (jn 0))]) ztt) .skip)
def zrS:AC:=(.cond (.t 13) (.reg [.clr [23,24]] [jx 15 (.vN (.fld (.t 3) 1 1) [0]),jx 16 (.vN (.load .p (.t 15)) [0]),jm 17 0,jx 18 (.callT (jf 24) [.t 17,jn 4] [0] []),jm 19 0,jx 20 (.callT (jf 24) [.t 19,jn 9] [0] []),jv 21 (.bin .sub (.t 20) (jn 1)),jv 22 (.bld (.agg [i0,i0]) [(0,0,.t 18),(1,1,.t 21)]),jx 23 (.lit (.agg [i0,i0]) 1 [(0,0,.t 22)]),jx 24 (.app (.ag [.s,.s]) (.t 16) (.t 23)),jv 25 (.fld (.t 3) 1 1),jz (.store .p (.t 25) (.t 24))] [.drp 2061,.home 24 2061]) (.seq (rr [jv 27 (.bin .eql (.t 6) (jn 2)),jm 26 27]) zsv))
def zsB:AC:=(.cond (.t 7) (.reg [.clr [10]] [jm 9 0,jx 10 (.litS i0 5 [(0,0,jn (-1)),(1,1,jn 8),(2,2,jn 9),(3,3,jn 0),(4,4,jn 4611686018427387904)]),jx 11 (.callT (jf 39) [.t 9,.t 10] [0] []),jv 12 (.fld (.t 3) 0 0),jz (.store .s (.t 12) (.t 11))] []) (.seq (rr [jv 14 (.bin .eql (.t 6) (jn 1)),jm 13 14]) zrS))
def zvO:AC:=(.block 0 (.seq (rr [jv 8 (.bin .eql (.t 6) (jn 0)),jm 7 8]) zsB))
def zvs:AC:=(.seq (.reg [] [jv 46 (.load (.ag [.s,.p]) (.t 3)),jz (.store (.ag [.s,.p]) (.t 4) (.t 46))] [.frz 46]) .ret)
def zui:AC:=(.seq (.seq (rr [jm 5 0,jx 6 (.callT (jf 24) [.t 5,jn 50] [0] [])]) zvO) zvs)
def A74:AC:=(.seq (.reg [.clr [3,4]] [jx 3 (.box (.t 1)),jx 4 (.alloc (.agg [i0,.sl .nl (.ag [.s,.s]) 0 []]))] [.drp 2061,.home wZ 2061]) zui)
def zv0:List An:=[⟨0,[.clr [3,4]],[],[],[.drp 2061,.home wZ 2061]⟩,⟨1,[],[],[2000000],[]⟩,⟨3,[.clr [10]],[],[3000000,6001],[]⟩,⟨5,[.clr [23,24]],[],[4000000,1000000,2000000,6000000],[.drp 2061,.home 24 2061]⟩,⟨8,[.clr [43,44]],[],[9000000,1000000,2000000,3000000,4000000,6000000,7000000,8000000],[.drp 2061,.home 44 2061]⟩,⟨9,[],[],[],[.frz 46]⟩]
theorem c74:cq Try.prog Try.f74 zv0=some A74:=by kernel_rfl
structure H74 (D:Den) (σ:Sig) (F:Nat):Prop where
 c24:C24 (D 24) F
 g24:σ 24=some (uA,false)
 c39:C39 (D 39) F
 g39:σ 39=some (uA,false)
abbrev R74 (r:(GR×CU)):(Nat→V)→Prop:=RT Try.prog [.cell 4 26] (Enc.enc (r.1:GR)) [cuV zD r.2]
section
variable {r:(GR×CU)}
def vC (F:Nat) (x1:CC) (x2:(Oh (Int×Int))):Option (GR×CU):=
 (yc F (Cu.mk x1.v) 50).bind fun r3=>
 bif (r3.1 == 0) then
  (y7 F (Cu.mk r3.2) [(-1),8,9,0,4611686018427387904]).bind fun r4=>
  some ((r4.1,x2.v),r4.2)
 else
  bif (r3.1 == 1) then
   (yc F (Cu.mk r3.2) 4).bind fun r5=>
   (yc F (Cu.mk r5.2) 9).bind fun r6=>
   (uQ x2.v [(r5.1,w64 (r6.1 - 1))]).bind fun ap7=>
   some ((x2.a,ap7),r6.2)
  else
   bif (r3.1 == 2) then
    bif decide ((x2.v.length:Int) > 0) then
     (yc F (Cu.mk r3.2) (x2.v.length:Int)).bind fun r8=>
     (idx x2.v r8.1).bind fun v9=>
     (uQ x2.v [v9]).bind fun ap10=>
     some ((x2.a,ap10),r8.2)
    else
     some ((x2.a,x2.v),r3.2)
   else
    some ((x2.a,x2.v),r3.2)
theorem t74 (H:H74 D σ F) (x1:CC) (x2:(Oh (Int×Int))) (s:Nat→V) (hs:zr [(0,bC x1.v),(1,.agg [ji x2.a,zu (.at wZ []) (.of (x2.v:TP))])] s) (h:vC F x1 x2=some r):Run D σ (R74 r) (.run A74 []) s:=by
 unfold vC at h
 obtain ⟨h0,h1⟩:=hs
 refine .seq (zw (z3 ?_))
 refine ez [(0,_),(1,_),(3,_),(4,_)] ⟨za h0 rfl (zj rfl Zh),za h1 rfl (zW (zh mi (zh (zq (r:=wZ) (p:=[]) rfl rfl) zB))),ze rfl,ze rfl⟩ ?_
 rintro s ⟨h0,h1,h3,h4⟩
 refine xo (.agg [ji x2.a,zu (.at wZ []) (.of (x2.v:TP))]) (zF h1 rfl) h3 rfl (xA h4 (yS (Jy (x:=2061) (fun s2 hx_2 hd_2=>yu (r:=wZ) (x:=2061) (v:=_) (by exact hx_2) rfl (fun s3 hz3=>?_)))))
 refine ez [(0,bC x1.v),(3,.ref (.bx 3) 0 [] (.agg [ji x2.a,zu (.at 2061 []) (.of (x2.v:TP))])),(4,bZ 4)] ⟨hz3 0 _ _ (show s2 0=(bC x1.v) from (hd_2 0 (by decide)).trans h0) (zj rfl Zh),hz3 3 _ (.ref (.bx 3) 0 [] (.agg [ji x2.a,zu (.at 2061 []) (.of (x2.v:TP))])) (show s2 3=(.ref (.bx 3) 0 [] (.agg [ji x2.a,zu (.at wZ []) (.of (x2.v:TP))])) from (hd_2 3 (by decide)).trans rfl) (zj rfl (zW (zh mi (zh (zq (r:=wZ) (p:=[]) rfl rfl) zB)))),hz3 4 _ _ (show s2 4=(bZ 4) from (hd_2 4 (by decide)).trans rfl) (zj rfl (mIx rfl))⟩ ?_
 rintro s ⟨h0,h3,h4⟩
 refine .nsq (.seq (.seq (rg (gm h0 fun h5=>?_))))
 obtain ⟨r3,Er3,h⟩:=zb h
 refine vM (r:=zD) (b:=0) (x:=x1.v) (x':=r3.2) (vs:=[Enc.enc (50:Int)]) (res:=Enc.enc (r3.1:Int)) h0 (by exact (zJ (v:=cuV zD x1.v) h5 rfl (zJ (v:=Enc.enc (50:Int)) rfl rfl yw))) (yg te yr) fm1 (H.c24 _ _ _ Er3) H.g24 te rfl (fun s4 hb4 ha4=>?_)
 refine gz [(0,_),(3,.ref (.bx 3) 0 [] (.agg [ji x2.a,zu (.at 2061 []) (.of (x2.v:TP))])),(4,bZ 4),(6,ji r3.1)] ⟨(show s4 0=(bC r3.2) from hb4 0 h0),(show s4 3=(.ref (.bx 3) 0 [] (.agg [ji x2.a,zu (.at 2061 []) (.of (x2.v:TP))])) from ha4 3 _ _ h3 rfl (zj rfl (zW (zh mi (zh (zq (r:=2061) (p:=[]) rfl rfl) zB))))),(show s4 4=(bZ 4) from ha4 4 _ _ h4 rfl (zj rfl (mIx rfl))),rfl⟩ ?_
 rintro s ⟨h0,h3,h4,h6⟩
 refine .nsq (.block (.seq (rg (g1 6 (jb (r3.1 == 0)) h6 fun h8=>gm h8 fun h7=>gq (.nsq (zn h7 h (fun h=>?_) (fun h=>?_)))))))
 · refine zw (z3 ?_)
   refine ez [(0,_),(3,_),(4,_),(10,_)] ⟨za h0 rfl (zj rfl Zh),za h3 rfl (zj rfl (zW (zh mi (zh (zq (r:=2061) (p:=[]) rfl rfl) zB)))),za h4 rfl (zj rfl (mIx rfl)),ze rfl⟩ ?_
   rintro s ⟨h0,h3,h4,h10⟩
   refine gm h0 fun h9=>NJ [] ([(-1),8,9,0,4611686018427387904]:LI) trivial rfl rfl rfl h10 (fun s6 hd_6 hl_6=>?_)
   obtain ⟨r4,Er4,h⟩:=zb h
   refine vM (r:=zD) (b:=0) (x:=r3.2) (x':=r4.2) (vs:=[Enc.enc ([(-1),8,9,0,4611686018427387904]:LI)]) (res:=Enc.enc (r4.1:Int)) (show s6 0=(bC r3.2) from (hl_6 0 (by decide)).trans h0) (by exact (zJ (v:=cuV zD r3.2) (show s6 9=(bC r3.2) from (hl_6 9 (by decide)).trans h9) rfl (zJ (v:=Enc.enc ([(-1),8,9,0,4611686018427387904]:LI)) (show s6 10=(eL [(-1),8,9,0,4611686018427387904]) from hd_6) rfl yw))) (yg te yr) fm1 (H.c39 _ _ _ Er4) H.g39 te rfl (fun s7 hb7 ha7=>?_)
   refine g1 3 (.ref (.bx 3) 0 [0] (ji x2.a)) (show s7 3=(.ref (.bx 3) 0 [] (.agg [ji x2.a,zu (.at 2061 []) (.of (x2.v:TP))])) from ha7 3 _ _ (show s6 3=(.ref (.bx 3) 0 [] (.agg [ji x2.a,zu (.at 2061 []) (.of (x2.v:TP))])) from (hl_6 3 (by decide)).trans h3) rfl (zj rfl (zW (zh mi (zh (zq (r:=2061) (p:=[]) rfl rfl) zB))))) fun h12=>ye (ji r4.1) (zF h12 rfl) (zF rfl rfl) (xN (by first | rfl | simp [V.toks,V.tokss,Enc.toks_enc,yd])) ?_
   refine gz [(0,bC r4.2),(3,.ref (.bx 3) 0 [] (.agg [ji r4.1,zu (.at 2061 []) (.of (x2.v:TP))])),(4,bZ 4)] ⟨zd (show s7 0=(bC r4.2) from hb7 0 (show s6 0=(bC r3.2) from (hl_6 0 (by decide)).trans h0)) (zH rfl rfl Jg),zd (show s7 3=(.ref (.bx 3) 0 [] (.agg [ji x2.a,zu (.at 2061 []) (.of (x2.v:TP))])) from ha7 3 _ _ (show s6 3=(.ref (.bx 3) 0 [] (.agg [ji x2.a,zu (.at 2061 []) (.of (x2.v:TP))])) from (hl_6 3 (by decide)).trans h3) rfl (zj rfl (zW (zh mi (zh (zq (r:=2061) (p:=[]) rfl rfl) zB))))) rfl,zd (show s7 4=(bZ 4) from ha7 4 _ _ (show s6 4=(bZ 4) from (hl_6 4 (by decide)).trans h4) rfl (zj rfl (mIx rfl))) (zH rfl rfl (yL (zy rfl (zy rfl rfl))))⟩ ?_
   rintro s ⟨h0,h3,h4⟩
   refine .nbk (.nsq (.seq (rg (g1 3 (.agg [ji r4.1,zu (.at 2061 []) (.of (x2.v:TP))]) h3 fun h46=>ye (.agg [ji r4.1,zu (.at 2061 []) (.of (x2.v:TP))]) (zF h4 rfl) (zF h46 rfl) (xN (by first | rfl | simp [V.toks,V.tokss,Enc.toks_enc,yd])) (yS (Uy (x:=46) (v:=.agg [ji r4.1,zu (.at 2061 []) (.of (x2.v:TP))]) [.at 2061 []] (by exact (zd h46 (yL (zy rfl (zy (wH rfl rfl) rfl))))) (by simp [V.toks,V.tokss,z6,Enc.toks_enc]) (fun s8 hz8=>?_)))))))
   refine ez [(0,bC r4.2),(4,.ref (.bx 4) 0 [] (.agg [ji r4.1,eP x2.v]))] ⟨hz8 0 (bC r4.2) (bC r4.2) (zd h0 (zH rfl rfl Jg)) (xC rfl ze0 rfl),hz8 4 (.ref (.bx 4) 0 [] (.agg [ji r4.1,zu (.at 2061 []) (.of (x2.v:TP))])) (.ref (.bx 4) 0 [] (.agg [ji r4.1,eP x2.v])) (zd h4 rfl) (xC rfl (Jd (wD rfl (wD XO rfl))) rfl)⟩ ?_
   rintro s ⟨h0,h4⟩
   refine .nsq (.ret ?_)
   obtain rfl:=oi h
   exact rt1 (t:=0) (v7 h4 (by kernel_rfl)) h0
 refine .seq (rg (g1 6 (jb (r3.1 == 1)) h6 fun h14=>gm h14 fun h13=>gq (.nsq (zn h13 h (fun h=>?_) (fun h=>?_)))))
 · refine zw (z3 ?_)
   refine ez [(0,_),(3,_),(4,_),(23,_),(24,_)] ⟨za h0 rfl (zj rfl Zh),za h3 rfl (zj rfl (zW (zh mi (zh (zq (r:=2061) (p:=[]) rfl rfl) zB)))),za h4 rfl (zj rfl (mIx rfl)),ze rfl,ze rfl⟩ ?_
   rintro s ⟨h0,h3,h4,h23,h24⟩
   refine U4 (r:=zD) (b:=0) (x:=r3.2) (.ref (.bx 3) 0 [1] (zu (.at 2061 []) (.of (x2.v:TP)))) h0 (uB [(3,.ref (.bx 3) 0 [] (.agg [ji x2.a,zu (.at 2061 []) (.of (x2.v:TP))]))] h3 rfl rfl) [(3,.ref (.bx 3) 0 [] (.agg [ji x2.a,zu (.at 2061 []) (.of (x2.v:TP))]))] h3 rfl (by simp [V.live,V.lives,xH,Zz (α:=(Int×Int)) (fun _=>rfl),V.toks,V.tokss,z6,Ys,Enc.toks_enc,zD,wZ]) (by simp [V.toks,V.tokss,z6,Enc.toks_enc,zD,wZ]) ?_
   refine U4 (r:=zD) (b:=0) (x:=r3.2) (zu (.at 2061 []) (.of (x2.v:TP))) h0 (uB [(15,.ref (.bx 3) 0 [1] (zu (.at 2061 []) (.of (x2.v:TP))))] rfl rfl rfl) [(15,.ref (.bx 3) 0 [1] (zu (.at 2061 []) (.of (x2.v:TP))))] rfl rfl (by simp [V.live,V.lives,xH,Zz (α:=(Int×Int)) (fun _=>rfl),V.toks,V.tokss,z6,Ys,Enc.toks_enc,zD,wZ]) (by simp [V.toks,V.tokss,z6,Enc.toks_enc,zD,wZ]) (gm h0 fun h17=>?_)
   obtain ⟨r5,Er5,h⟩:=zb h
   refine vM (r:=zD) (b:=0) (x:=r3.2) (x':=r5.2) (vs:=[Enc.enc (4:Int)]) (res:=Enc.enc (r5.1:Int)) h0 (by exact (zJ (v:=cuV zD r3.2) h17 rfl (zJ (v:=Enc.enc (4:Int)) rfl rfl yw))) (yg te yr) fm1 (H.c24 _ _ _ Er5) H.g24 te rfl (fun s10 hb10 ha10=>gm (show s10 0=(bC r5.2) from hb10 0 h0) fun h19=>?_)
   obtain ⟨r6,Er6,h⟩:=zb h
   refine vM (r:=zD) (b:=0) (x:=r5.2) (x':=r6.2) (vs:=[Enc.enc (9:Int)]) (res:=Enc.enc (r6.1:Int)) (show s10 0=(bC r5.2) from hb10 0 h0) (by exact (zJ (v:=cuV zD r5.2) h19 rfl (zJ (v:=Enc.enc (9:Int)) rfl rfl yw))) (yg te yr) fm1 (H.c24 _ _ _ Er6) H.g24 te rfl (fun s11 hb11 ha11=>g1 20 (ji (w64 (r6.1 - 1))) (rf (ji r6.1)) fun h21=>g2 18 21 (.agg [ji r5.1,ji (w64 (r6.1 - 1))]) (show s11 18=(ji r5.1) from ha11 18 (ji r5.1) _ rfl rfl mi) h21 fun h22=>?_)
   refine xI [(22,.agg [ji r5.1,ji (w64 (r6.1 - 1))])] [Enc.enc ((r5.1,w64 (r6.1 - 1)):(Int×Int))] h22 rfl rfl (show s11 23 = .gone from ha11 23 .gone _ (show s10 23 = .gone from ha10 23 _ _ h23 rfl rfl) rfl rfl) ?_
   obtain ⟨ap7,Eap7,h⟩:=zb h
   refine XR (q:=2061) (p:=[]) (o:=.of (x2.v:TP)) (ys:=([(r5.1,w64 (r6.1 - 1))]:TP)) (t2:=.at 23 []) (lo2:=0) (show s11 16=(zu (.at 2061 []) (.of (x2.v:TP))) from ha11 16 (zu (.at 2061 []) (.of (x2.v:TP))) _ (show s10 16=(zu (.at 2061 []) (.of (x2.v:TP))) from ha10 16 (zu (.at 2061 []) (.of (x2.v:TP))) _ rfl rfl (zq (r:=2061) (p:=[]) rfl rfl)) rfl (zq (r:=2061) (p:=[]) rfl rfl)) rfl rfl (show s11 24 = .gone from ha11 24 .gone _ (show s10 24 = .gone from ha10 24 _ _ h24 rfl rfl) rfl rfl) (Z4 (o:=.of (x2.v:TP)) Eap7 trivial) (fun s12 ha12=>?_)
   refine g1 3 (.ref (.bx 3) 0 [1] (kdO ((.of x2.v):NL (Int×Int)))) (show s12 3=(.ref (.bx 3) 0 [] (.agg [ji x2.a,kdO ((.of x2.v):NL (Int×Int))])) from YU ha12 (show s11 3=(.ref (.bx 3) 0 [] (.agg [ji x2.a,zu (.at 2061 []) (.of (x2.v:TP))])) from ha11 3 (.ref (.bx 3) 0 [] (.agg [ji x2.a,zu (.at 2061 []) (.of (x2.v:TP))])) _ (show s10 3=(.ref (.bx 3) 0 [] (.agg [ji x2.a,zu (.at 2061 []) (.of (x2.v:TP))])) from ha10 3 _ _ h3 rfl (zj rfl (zW (zh mi (zh (zq (r:=2061) (p:=[]) rfl rfl) zB))))) rfl (zj rfl (zW (zh mi (zh (zq (r:=2061) (p:=[]) rfl rfl) zB))))) (zj rfl (zW (zh mi (zh Uf zB)))) (by intro h;first | (cases h;done) | (subst h;rfl))) fun h25=>?_
   refine ye (zu (.at 24 []) (.of (ap7:TP))) (zF h25 rfl) (zF rfl rfl) ⟨by decide,by decide,rfl,rfl,MY,WZ rfl rfl⟩ (yS (Jy (x:=2061) (fun s13 hx_13 hd_13=>yu (r:=24) (x:=2061) (v:=_) (by exact hx_13) rfl (fun s14 hz14=>?_))))
   refine ez [(0,bC r6.2),(3,.ref (.bx 3) 0 [] (.agg [ji x2.a,zu (.at 2061 []) (.of (ap7:TP))])),(4,bZ 4)] ⟨hz14 0 _ _ (show s13 0=(bC r6.2) from (hd_13 0 (by decide)).trans (zd (show s12 0=(bC r6.2) from yh ha12 (show s11 0=(bC r6.2) from hb11 0 (show s10 0=(bC r5.2) from hb10 0 h0)) (zj rfl Zh)) (zH rfl rfl Jg))) (zj rfl Zh),hz14 3 _ (.ref (.bx 3) 0 [] (.agg [ji x2.a,zu (.at 2061 []) (.of (ap7:TP))])) (show s13 3=(.ref (.bx 3) 0 [] (.agg [ji x2.a,zu (.at 24 []) (.of (ap7:TP))])) from (hd_13 3 (by decide)).trans (zd (show s12 3=(.ref (.bx 3) 0 [] (.agg [ji x2.a,kdO ((.of x2.v):NL (Int×Int))])) from YU ha12 (show s11 3=(.ref (.bx 3) 0 [] (.agg [ji x2.a,zu (.at 2061 []) (.of (x2.v:TP))])) from ha11 3 (.ref (.bx 3) 0 [] (.agg [ji x2.a,zu (.at 2061 []) (.of (x2.v:TP))])) _ (show s10 3=(.ref (.bx 3) 0 [] (.agg [ji x2.a,zu (.at 2061 []) (.of (x2.v:TP))])) from ha10 3 _ _ h3 rfl (zj rfl (zW (zh mi (zh (zq (r:=2061) (p:=[]) rfl rfl) zB))))) rfl (zj rfl (zW (zh mi (zh (zq (r:=2061) (p:=[]) rfl rfl) zB))))) (zj rfl (zW (zh mi (zh Uf zB)))) (by intro h;first | (cases h;done) | (subst h;rfl))) (U6 (zy rfl (zy M4 rfl))))) (zj rfl (zW (zh mi (zh (zq (r:=24) (p:=[]) rfl rfl) zB)))),hz14 4 _ _ (show s13 4=(bZ 4) from (hd_13 4 (by decide)).trans (zd (show s12 4=(bZ 4) from yh ha12 (show s11 4=(bZ 4) from ha11 4 (bZ 4) _ (show s10 4=(bZ 4) from ha10 4 _ _ h4 rfl (zj rfl (mIx rfl))) rfl (zj rfl (mIx rfl))) (zj rfl (mIx rfl))) (zH rfl rfl (yL (zy rfl (zy rfl rfl)))))) (zj rfl (mIx rfl))⟩ ?_
   rintro s ⟨h0,h3,h4⟩
   refine .nbk (.nsq (.seq (rg (g1 3 (.agg [ji x2.a,zu (.at 2061 []) (.of (ap7:TP))]) h3 fun h46=>ye (.agg [ji x2.a,zu (.at 2061 []) (.of (ap7:TP))]) (zF h4 rfl) (zF h46 rfl) (xN (by first | rfl | simp [V.toks,V.tokss,Enc.toks_enc,yd])) (yS (Uy (x:=46) (v:=.agg [ji x2.a,zu (.at 2061 []) (.of (ap7:TP))]) [.at 2061 []] (by exact (zd h46 (yL (zy rfl (zy (wH rfl rfl) rfl))))) (by simp [V.toks,V.tokss,z6,Enc.toks_enc]) (fun s15 hz15=>?_)))))))
   refine ez [(0,bC r6.2),(4,.ref (.bx 4) 0 [] (.agg [ji x2.a,eP ap7]))] ⟨hz15 0 (bC r6.2) (bC r6.2) (zd h0 (zH rfl rfl Jg)) (xC rfl ze0 rfl),hz15 4 (.ref (.bx 4) 0 [] (.agg [ji x2.a,zu (.at 2061 []) (.of (ap7:TP))])) (.ref (.bx 4) 0 [] (.agg [ji x2.a,eP ap7])) (zd h4 rfl) (xC rfl (Jd (wD rfl (wD XO rfl))) rfl)⟩ ?_
   rintro s ⟨h0,h4⟩
   refine .nsq (.ret ?_)
   obtain rfl:=oi h
   exact rt1 (t:=0) (v7 h4 (by kernel_rfl)) h0
 refine .seq (rg (g1 6 (jb (r3.1 == 2)) h6 fun h27=>gm h27 fun h26=>gq (.nsq (zn h26 h (fun h=>?_) (fun h=>?_)))))
 · refine .seq (rg (g1 3 (.ref (.bx 3) 0 [1] (zu (.at 2061 []) (.of (x2.v:TP)))) h3 fun h28=>g1 28 (zu (.at 2061 []) (.of (x2.v:TP))) h28 fun h29=>gv (ji (x2.v.length:Int)) (Uk (o:=.of x2.v) h29) fun h30=>g1 30 (jb (decide ((x2.v.length:Int) > 0))) h30 fun h31=>gq (.nsq (zn h31 h (fun h=>?_) (fun h=>?_)))))
   · refine zw (z3 ?_)
     refine ez [(0,_),(3,_),(4,_),(43,_),(44,_)] ⟨za h0 rfl (zj rfl Zh),za h3 rfl (zj rfl (zW (zh mi (zh (zq (r:=2061) (p:=[]) rfl rfl) zB)))),za h4 rfl (zj rfl (mIx rfl)),ze rfl,ze rfl⟩ ?_
     rintro s ⟨h0,h3,h4,h43,h44⟩
     refine U4 (r:=zD) (b:=0) (x:=r3.2) (.ref (.bx 3) 0 [1] (zu (.at 2061 []) (.of (x2.v:TP)))) h0 (uB [(3,.ref (.bx 3) 0 [] (.agg [ji x2.a,zu (.at 2061 []) (.of (x2.v:TP))]))] h3 rfl rfl) [(3,.ref (.bx 3) 0 [] (.agg [ji x2.a,zu (.at 2061 []) (.of (x2.v:TP))]))] h3 rfl (by simp [V.live,V.lives,xH,Zz (α:=(Int×Int)) (fun _=>rfl),V.toks,V.tokss,z6,Ys,Enc.toks_enc,zD,wZ]) (by simp [V.toks,V.tokss,z6,Enc.toks_enc,zD,wZ]) ?_
     refine U4 (r:=zD) (b:=0) (x:=r3.2) (zu (.at 2061 []) (.of (x2.v:TP))) h0 (uB [(32,.ref (.bx 3) 0 [1] (zu (.at 2061 []) (.of (x2.v:TP))))] rfl rfl rfl) [(32,.ref (.bx 3) 0 [1] (zu (.at 2061 []) (.of (x2.v:TP))))] rfl rfl (by simp [V.live,V.lives,xH,Zz (α:=(Int×Int)) (fun _=>rfl),V.toks,V.tokss,z6,Ys,Enc.toks_enc,zD,wZ]) (by simp [V.toks,V.tokss,z6,Enc.toks_enc,zD,wZ]) ?_
     refine U4 (r:=zD) (b:=0) (x:=r3.2) (.ref (.bx 3) 0 [1] (zu (.at 2061 []) (.of (x2.v:TP)))) h0 (uB [(3,.ref (.bx 3) 0 [] (.agg [ji x2.a,zu (.at 2061 []) (.of (x2.v:TP))]))] h3 rfl rfl) [(3,.ref (.bx 3) 0 [] (.agg [ji x2.a,zu (.at 2061 []) (.of (x2.v:TP))]))] h3 rfl (by simp [V.live,V.lives,xH,Zz (α:=(Int×Int)) (fun _=>rfl),V.toks,V.tokss,z6,Ys,Enc.toks_enc,zD,wZ]) (by simp [V.toks,V.tokss,z6,Enc.toks_enc,zD,wZ]) ?_
     refine U4 (r:=zD) (b:=0) (x:=r3.2) (zu (.at 2061 []) (.of (x2.v:TP))) h0 (uB [(34,.ref (.bx 3) 0 [1] (zu (.at 2061 []) (.of (x2.v:TP))))] rfl rfl rfl) [(34,.ref (.bx 3) 0 [1] (zu (.at 2061 []) (.of (x2.v:TP))))] rfl rfl (by simp [V.live,V.lives,xH,Zz (α:=(Int×Int)) (fun _=>rfl),V.toks,V.tokss,z6,Ys,Enc.toks_enc,zD,wZ]) (by simp [V.toks,V.tokss,z6,Enc.toks_enc,zD,wZ]) ?_
     refine gm h0 fun h36=>U4 (r:=zD) (b:=0) (x:=r3.2) (.ref (.bx 3) 0 [1] (zu (.at 2061 []) (.of (x2.v:TP)))) h0 (uB [(3,.ref (.bx 3) 0 [] (.agg [ji x2.a,zu (.at 2061 []) (.of (x2.v:TP))]))] h3 rfl rfl) [(3,.ref (.bx 3) 0 [] (.agg [ji x2.a,zu (.at 2061 []) (.of (x2.v:TP))]))] h3 rfl (by simp [V.live,V.lives,xH,Zz (α:=(Int×Int)) (fun _=>rfl),V.toks,V.tokss,z6,Ys,Enc.toks_enc,zD,wZ]) (by simp [V.toks,V.tokss,z6,Enc.toks_enc,zD,wZ]) ?_
     refine U4 (r:=zD) (b:=0) (x:=r3.2) (zu (.at 2061 []) (.of (x2.v:TP))) h0 (uB [(37,.ref (.bx 3) 0 [1] (zu (.at 2061 []) (.of (x2.v:TP))))] rfl rfl rfl) [(37,.ref (.bx 3) 0 [1] (zu (.at 2061 []) (.of (x2.v:TP))))] rfl rfl (by simp [V.live,V.lives,xH,Zz (α:=(Int×Int)) (fun _=>rfl),V.toks,V.tokss,z6,Ys,Enc.toks_enc,zD,wZ]) (by simp [V.toks,V.tokss,z6,Enc.toks_enc,zD,wZ]) ?_
     refine U4 (r:=zD) (b:=0) (x:=r3.2) (ji (x2.v.length:Int)) h0 (Uk (o:=.of x2.v) rfl) [(38,zu (.at 2061 []) (.of (x2.v:TP)))] rfl rfl (by simp [V.live,V.lives,xH,Zz (α:=(Int×Int)) (fun _=>rfl),V.toks,V.tokss,z6,Ys,Enc.toks_enc,zD,wZ]) (by simp [V.toks,V.tokss,z6,Enc.toks_enc,zD,wZ]) ?_
     obtain ⟨r8,Er8,h⟩:=zb h
     refine vM (r:=zD) (b:=0) (x:=r3.2) (x':=r8.2) (vs:=[Enc.enc ((x2.v.length:Int):Int)]) (res:=Enc.enc (r8.1:Int)) h0 (by exact (zJ (v:=cuV zD r3.2) h36 rfl (zJ (v:=Enc.enc ((x2.v.length:Int):Int)) rfl rfl yw))) (yg te yr) fm1 (H.c24 _ _ _ Er8) H.g24 te rfl (fun s17 hb17 ha17=>?_)
     obtain ⟨v9,Ev9,h⟩:=zb h
     refine gv (.ref (.at 2061 []) r8.1.toNat [] (.agg [ji v9.1,ji v9.2])) (xq (o:=.of x2.v) (show s17 35=(zu (.at 2061 []) (.of (x2.v:TP))) from ha17 35 (zu (.at 2061 []) (.of (x2.v:TP))) _ rfl rfl (zq (r:=2061) (p:=[]) rfl rfl)) rfl Ev9 rfl) fun h41=>g1 41 (.agg [ji v9.1,ji v9.2]) h41 fun h42=>xI [(42,.agg [ji v9.1,ji v9.2])] [Enc.enc (v9:(Int×Int))] h42 rfl rfl (show s17 43 = .gone from ha17 43 _ _ h43 rfl rfl) ?_
     obtain ⟨ap10,Eap10,h⟩:=zb h
     refine XR (q:=2061) (p:=[]) (o:=.of (x2.v:TP)) (ys:=([v9]:TP)) (t2:=.at 43 []) (lo2:=0) (show s17 33=(zu (.at 2061 []) (.of (x2.v:TP))) from ha17 33 (zu (.at 2061 []) (.of (x2.v:TP))) _ rfl rfl (zq (r:=2061) (p:=[]) rfl rfl)) rfl rfl (show s17 44 = .gone from ha17 44 _ _ h44 rfl rfl) (Z4 (o:=.of (x2.v:TP)) Eap10 trivial) (fun s18 ha18=>?_)
     refine g1 3 (.ref (.bx 3) 0 [1] (kdO ((.of x2.v):NL (Int×Int)))) (show s18 3=(.ref (.bx 3) 0 [] (.agg [ji x2.a,kdO ((.of x2.v):NL (Int×Int))])) from YU ha18 (show s17 3=(.ref (.bx 3) 0 [] (.agg [ji x2.a,zu (.at 2061 []) (.of (x2.v:TP))])) from ha17 3 _ _ h3 rfl (zj rfl (zW (zh mi (zh (zq (r:=2061) (p:=[]) rfl rfl) zB))))) (zj rfl (zW (zh mi (zh Uf zB)))) (by intro h;first | (cases h;done) | (subst h;rfl))) fun h45=>ye (zu (.at 44 []) (.of (ap10:TP))) (zF h45 rfl) (zF rfl rfl) ⟨by decide,by decide,rfl,rfl,MY,WZ rfl rfl⟩ (yS ?_)
     refine Jy (x:=2061) (fun s19 hx_19 hd_19=>yu (r:=44) (x:=2061) (v:=_) (by exact hx_19) rfl (fun s20 hz20=>?_))
     refine ez [(0,bC r8.2),(3,.ref (.bx 3) 0 [] (.agg [ji x2.a,zu (.at 2061 []) (.of (ap10:TP))])),(4,bZ 4)] ⟨hz20 0 _ _ (show s19 0=(bC r8.2) from (hd_19 0 (by decide)).trans (zd (show s18 0=(bC r8.2) from yh ha18 (show s17 0=(bC r8.2) from hb17 0 h0) (zj rfl Zh)) (zH rfl rfl Jg))) (zj rfl Zh),hz20 3 _ (.ref (.bx 3) 0 [] (.agg [ji x2.a,zu (.at 2061 []) (.of (ap10:TP))])) (show s19 3=(.ref (.bx 3) 0 [] (.agg [ji x2.a,zu (.at 44 []) (.of (ap10:TP))])) from (hd_19 3 (by decide)).trans (zd (show s18 3=(.ref (.bx 3) 0 [] (.agg [ji x2.a,kdO ((.of x2.v):NL (Int×Int))])) from YU ha18 (show s17 3=(.ref (.bx 3) 0 [] (.agg [ji x2.a,zu (.at 2061 []) (.of (x2.v:TP))])) from ha17 3 _ _ h3 rfl (zj rfl (zW (zh mi (zh (zq (r:=2061) (p:=[]) rfl rfl) zB))))) (zj rfl (zW (zh mi (zh Uf zB)))) (by intro h;first | (cases h;done) | (subst h;rfl))) (U6 (zy rfl (zy M4 rfl))))) (zj rfl (zW (zh mi (zh (zq (r:=44) (p:=[]) rfl rfl) zB)))),hz20 4 _ _ (show s19 4=(bZ 4) from (hd_19 4 (by decide)).trans (zd (show s18 4=(bZ 4) from yh ha18 (show s17 4=(bZ 4) from ha17 4 _ _ h4 rfl (zj rfl (mIx rfl))) (zj rfl (mIx rfl))) (zH rfl rfl (yL (zy rfl (zy rfl rfl)))))) (zj rfl (mIx rfl))⟩ ?_
     rintro s ⟨h0,h3,h4⟩
     refine .nbk (.nsq (.seq (rg (g1 3 (.agg [ji x2.a,zu (.at 2061 []) (.of (ap10:TP))]) h3 fun h46=>ye (.agg [ji x2.a,zu (.at 2061 []) (.of (ap10:TP))]) (zF h4 rfl) (zF h46 rfl) (xN (by first | rfl | simp [V.toks,V.tokss,Enc.toks_enc,yd])) (yS (Uy (x:=46) (v:=.agg [ji x2.a,zu (.at 2061 []) (.of (ap10:TP))]) [.at 2061 []] (by exact (zd h46 (yL (zy rfl (zy (wH rfl rfl) rfl))))) (by simp [V.toks,V.tokss,z6,Enc.toks_enc]) (fun s21 hz21=>?_)))))))
     refine ez [(0,bC r8.2),(4,.ref (.bx 4) 0 [] (.agg [ji x2.a,eP ap10]))] ⟨hz21 0 (bC r8.2) (bC r8.2) (zd h0 (zH rfl rfl Jg)) (xC rfl ze0 rfl),hz21 4 (.ref (.bx 4) 0 [] (.agg [ji x2.a,zu (.at 2061 []) (.of (ap10:TP))])) (.ref (.bx 4) 0 [] (.agg [ji x2.a,eP ap10])) (zd h4 rfl) (xC rfl (Jd (wD rfl (wD XO rfl))) rfl)⟩ ?_
     rintro s ⟨h0,h4⟩
     refine .nsq (.ret ?_)
     obtain rfl:=oi h
     exact rt1 (t:=0) (v7 h4 (by kernel_rfl)) h0
   refine .skip (.nbk (.nsq (.seq (rg (g1 3 (.agg [ji x2.a,zu (.at 2061 []) (.of (x2.v:TP))]) h3 fun h46=>ye (.agg [ji x2.a,zu (.at 2061 []) (.of (x2.v:TP))]) (zF h4 rfl) (zF h46 rfl) (xN (by first | rfl | simp [V.toks,V.tokss,Enc.toks_enc,yd])) (yS (Uy (x:=46) (v:=.agg [ji x2.a,zu (.at 2061 []) (.of (x2.v:TP))]) [.at 2061 []] (by exact (zd h46 (yL (zy rfl (zy (wH rfl rfl) rfl))))) (by simp [V.toks,V.tokss,z6,Enc.toks_enc]) (fun s22 hz22=>?_))))))))
   refine ez [(0,bC r3.2),(4,.ref (.bx 4) 0 [] (.agg [ji x2.a,eP x2.v]))] ⟨hz22 0 (bC r3.2) (bC r3.2) (zd h0 (zH rfl rfl Jg)) (xC rfl ze0 rfl),hz22 4 (.ref (.bx 4) 0 [] (.agg [ji x2.a,zu (.at 2061 []) (.of (x2.v:TP))])) (.ref (.bx 4) 0 [] (.agg [ji x2.a,eP x2.v])) (zd h4 rfl) (xC rfl (Jd (wD rfl (wD XO rfl))) rfl)⟩ ?_
   rintro s ⟨h0,h4⟩
   refine .nsq (.ret ?_)
   obtain rfl:=oi h
   exact rt1 (t:=0) (v7 h4 (by kernel_rfl)) h0
 refine .skip (.nbk (.nsq (.seq (rg (g1 3 (.agg [ji x2.a,zu (.at 2061 []) (.of (x2.v:TP))]) h3 fun h46=>ye (.agg [ji x2.a,zu (.at 2061 []) (.of (x2.v:TP))]) (zF h4 rfl) (zF h46 rfl) (xN (by first | rfl | simp [V.toks,V.tokss,Enc.toks_enc,yd])) (yS (Uy (x:=46) (v:=.agg [ji x2.a,zu (.at 2061 []) (.of (x2.v:TP))]) [.at 2061 []] (by exact (zd h46 (yL (zy rfl (zy (wH rfl rfl) rfl))))) (by simp [V.toks,V.tokss,z6,Enc.toks_enc]) (fun s23 hz23=>?_))))))))
 refine ez [(0,bC r3.2),(4,.ref (.bx 4) 0 [] (.agg [ji x2.a,eP x2.v]))] ⟨hz23 0 (bC r3.2) (bC r3.2) (zd h0 (zH rfl rfl Jg)) (xC rfl ze0 rfl),hz23 4 (.ref (.bx 4) 0 [] (.agg [ji x2.a,zu (.at 2061 []) (.of (x2.v:TP))])) (.ref (.bx 4) 0 [] (.agg [ji x2.a,eP x2.v])) (zd h4 rfl) (xC rfl (Jd (wD rfl (wD XO rfl))) rfl)⟩ ?_
 rintro s ⟨h0,h4⟩
 refine .nsq (.ret ?_)
 obtain rfl:=oi h
 exact rt1 (t:=0) (v7 h4 (by kernel_rfl)) h0
end
def e74 (F:Nat):Ent:=ent 74 (fun (x:(CC×(Oh (Int×Int))×Unit))=>vC F x.1 x.2.1) (fun (r:(GR×CU))=>(.tup [Enc.enc (r.1:GR),.tup [cuV zD r.2]])) uA false []
abbrev C74 (D:List V→Option V) (F:Nat):Prop:=∀ (x0:CC) (x1:(Oh (Int×Int))) r,vC F x0 x1=some r→D [Arg.arg x0,Arg.arg x1]=some (.tup [Enc.enc (r.1:GR),.tup [cuV zD r.2]])
theorem p74 {F:Nat}:C74 (e74 F).den F:=fun x0 x1 _ h=>zU (x0,x1,()) h
theorem o74 (hF:zG Try.prog D σ) (H:H74 D σ F):(e74 F).Ok Try.prog:=okZ (f:=74) Try.func74 fun ⟨x0,x1,_⟩ y hy=>cT hF Try.func74 c74 (t74 H x0 x1 _ ⟨rfl,rfl⟩ hy)
def Jn:AC:=(.seq (rr [jm 98 0,jv 99 (.load (.ag [.s,.p]) (.t 6)),jx 100 (.callT (jf 74) [.t 98,.t 99] [0] [99]),jz (.store (.ag [.s,.p]) (.t 4) (.t 100))]) .ret)
def ztC:AC:=(.cond (.t 39) .skip (.exit 1))
def zrc:AC:=(.cond (.t 46) .skip (.exit 3))
def zs8:AC:=(.cond (.t 52) (.reg [.clr [58]] [jv 53 (.fld (.t 6) 1 1),jv 54 (.load .p (.t 53)),jm 55 9,jm 56 10,jv 57 (.bld (.agg [i0,i0]) [(0,0,.t 55),(1,1,.t 56)]),jx 58 (.callO (jf 72) [.t 54,.t 57]),jv 59 (.fld (.t 6) 1 1),jz (.store .p (.t 59) (.t 58))] [.drp 28,.home 58 28]) .skip)
def zjX:AC:=(rr [jm 47 10,jv 48 (.bin .add (.t 47) (jn 1)),jm 10 48])
def zqj:AC:=(.seq (.block 4 (.seq (rr [jm 49 0,jm 50 7,jx 51 (.callT (jf 24) [.t 49,.t 50] [0] []),jv 52 (.bin .eql (.t 51) (jn 0))]) zs8)) zjX)
def zab:AC:=(.seq (.seq (rr [jm 44 10,jm 45 5,jv 46 (.bin .lss (.t 44) (.t 45))]) zrc) zqj)
def ztl:AC:=(.block 3 (.loop zab))
def zkA:AC:=(.cond (.t 76) (.reg [.clr [82]] [jv 77 (.fld (.t 6) 1 1),jv 78 (.load .p (.t 77)),jm 79 11,jm 80 9,jv 81 (.bld (.agg [i0,i0]) [(0,0,.t 79),(1,1,.t 80)]),jx 82 (.callO (jf 72) [.t 78,.t 81]),jv 83 (.fld (.t 6) 1 1),jz (.store .p (.t 83) (.t 82))] [.drp 28,.home 82 28]) .skip)
def zoX:AC:=(.seq (rr [jm 64 9,jv 65 (.bin .gtr (.t 64) (jn 0)),jm 66 65,jg 67 66 true (.mov (.t 8)),jg 68 66 true (.un .not (.t 67)),jv 69 (.pick (.t 66) (.t 68) kf),jm 70 69,jg 71 70 true (.load (.ag [.s,.p]) (.t 6)),jg 72 70 true (.mov (.t 9)),jg 73 70 true (.mov (.t 11)),.mk (some 74) (some (70,true)) false (.call (jf 73) [.t 71,.t 72,.t 73]),jg 75 70 true (.un .not (.t 74)),jv 76 (.pick (.t 70) (.t 75) kf)]) zkA)
def zbJ:AC:=(.seq (rr [jm 60 0,jm 61 9,jx 62 (.call (jf 31) [.t 61,jn 1]),jx 63 (.callT (jf 24) [.t 60,.t 62] [0] []),jm 11 63]) zoX)
def LR:AC:=(rr [jm 40 9,jv 41 (.bin .add (.t 40) (jn 1)),jm 9 41])
def zqm:AC:=(.seq (.block 2 (.seq (.seq (rr [jm 42 9,jv 43 (.bin .add (.t 42) (jn 1)),jm 10 43]) ztl) zbJ)) LR)
def Wb:AC:=(.seq (.seq (rr [jm 37 9,jm 38 5,jv 39 (.bin .lss (.t 37) (.t 38))]) ztC) zqm)
def znH:AC:=(.cond (.t 91) (.reg [.clr [93]] [jm 92 5,jx 93 (.callO (jf 70) [.t 92]),jz (.store (.ag [.s,.p]) (.t 6) (.t 93))] [.drp 28,.ren 28 93 [1]]) .skip)
def znX:AC:=(.block 1 (.loop Wb))
def zpH:AC:=(.seq (rr [jv 9 (.mov (jn 0))]) znX)
def zns:AC:=(.cond (.t 94) (.reg [.clr [97]] [jm 96 5,jx 97 (.callO (jf 71) [.t 96]),jz (.store (.ag [.s,.p]) (.t 6) (.t 97))] [.drp 28,.ren 28 97 [1]]) (.seq (.reg [.clr [33]] [jm 32 0,jx 33 (.litS i0 3 [(0,0,jn 3),(1,1,jn 4),(2,2,jn 6)]),jx 34 (.callT (jf 39) [.t 32,.t 33] [0] []),jm 35 0,jx 36 (.callT (jf 22) [.t 35,jn 6] [0] []),jm 7 34,jm 8 36] []) zpH))
def zo6:AC:=(.cond (.t 88) (.seq (rr [jm 90 5,jv 91 (.bin .gtr (.t 90) (jn 2))]) znH) (.seq (rr [jv 95 (.bin .eql (.t 31) (jn 2)),jm 94 95]) zns))
def zor:AC:=(.cond (.t 84) (.reg [.clr [87]] [jm 86 5,jx 87 (.callO (jf 69) [.t 86]),jz (.store (.ag [.s,.p]) (.t 6) (.t 87))] [.drp 28,.ren 28 87 [1]]) (.seq (rr [jv 89 (.bin .eql (.t 31) (jn 1)),jm 88 89]) zo6))
def zoA:AC:=(.block 0 (.seq (rr [jv 85 (.bin .eql (.t 31) (jn 0)),jm 84 85]) zor))
def zpz:AC:=(.seq (.seq (rr [jm 30 0,jx 31 (.callT (jf 24) [.t 30,jn 8] [0] [])]) zoA) Jn)
def zoD:AC:=(.seq (.reg [.clr [28,6]] [jm 27 5,jx 28 (.lit (.agg [i0,i0]) 0 []),jv 29 (.bld (.agg [i0,.sl .nl (.ag [.s,.s]) 0 []]) [(0,0,.t 27),(1,1,.t 28)]),jx 6 (.alloc (.agg [i0,.sl .nl (.ag [.s,.s]) 0 []])),jz (.store (.ag [.s,.p]) (.t 6) (.t 29))] []) zpz)
def ze7:AC:=(.seq (rr [jm 24 5,jm 25 1,jx 26 (.call (jf 48) [.t 24,.t 25]),jm 5 26]) zoD)
def zit:AC:=(.cond (.t 20) (rr [jm 21 0,jx 22 (.callT (jf 24) [.t 21,jn 2] [0] []),jv 23 (.bin .add (jn 7) (.t 22)),jm 5 23]) .skip)
def zpB:AC:=(.seq (.seq (rr [jm 15 1,jv 16 (.bin .gtr (.t 15) (jn 6)),jm 17 16,jg 18 17 true (.mov (.t 0)),.mk (some 19) (some (17,true)) false (.callT (jf 22) [.t 18,jn 4] [0] []),jv 20 (.pick (.t 17) (.t 19) kf)]) zit) ze7)
def zn2:AC:=(.seq (.reg [.clr [13]] [jm 12 0,jx 13 (.litS i0 7 [(0,0,jn 4),(1,1,jn 5),(2,2,jn 3),(3,3,jn 6),(4,4,jn 2),(5,5,jn 1),(6,6,jn 0)]),jx 14 (.callT (jf 39) [.t 12,.t 13] [0] []),jm 5 14] []) zpB)
def A47:AC:=(.seq (.reg [.clr [4]] [jx 4 (.alloc (.agg [i0,.sl .nl (.ag [.s,.s]) 0 []]))] []) zn2)
def zxT:List An:=[⟨0,[.clr [4]],[],[],[]⟩,⟨1,[.clr [13]],[],[3000000,6001],[]⟩,⟨2,[],[],[5000000],[]⟩,⟨3,[],[],[2000000],[]⟩,⟨5,[.clr [28,6]],[],[],[]⟩,⟨6,[],[],[2000000],[]⟩,⟨7,[.clr [33]],[],[3000000,6001,5000000],[]⟩,⟨14,[],[],[3000000],[]⟩,⟨15,[.clr [58]],[],[1005],[.drp 28,.home 58 28]⟩,⟨16,[],[],[4000000],[]⟩,⟨18,[.clr [82]],[],[1005],[.drp 28,.home 82 28]⟩,⟨20,[.clr [87]],[],[1001],[.drp 28,.ren 28 87 [1]]⟩,⟨23,[.clr [93]],[],[1001],[.drp 28,.ren 28 93 [1]]⟩,⟨25,[.clr [97]],[],[1001],[.drp 28,.ren 28 97 [1]]⟩,⟨26,[],[],[3000000,3500099],[]⟩]
theorem c47:cq Try.prog Try.f47 zxT=some A47:=by kernel_rfl
structure H47 (D:Den) (σ:Sig) (F:Nat):Prop where
 c39:C39 (D 39) F
 g39:σ 39=some (uA,false)
 c22:C22 (D 22) F
 g22:σ 22=some (uA,false)
 c24:C24 (D 24) F
 g24:σ 24=some (uA,false)
 c48:C48 (D 48) F
 g48:σ 48=some (0,false)
 c69o:zpK (D 1000000069) F
 g69o:σ 1000000069=some (1,false)
 c70o:zp8 (D 1000000070) F
 g70o:σ 1000000070=some (1,false)
 c71o:zrI (D 1000000071) F
 g71o:σ 1000000071=some (1,false)
 c72o:znN (D 1000000072) F
 g72o:σ 1000000072=some (1,false)
 c31:C31 (D 31) F
 g31:σ 31=some (0,false)
 c73:C73 (D 73) F
 g73:σ 73=some (0,false)
 c74:C74 (D 74) F
 g74:σ 74=some (uA,false)
abbrev R47 (r:(GR×CU)):(Nat→V)→Prop:=RT Try.prog [.cell 4 26] (Enc.enc (r.1:GR)) [cuV zD r.2]
section
variable {r:(GR×CU)}
def y6 (F:Nat)   (x101:LB) (x102:Int) (x103:Int) (x104:Int) (x105:(NL (Int×Int))):Option (GR×CU):=
 (znE x105).bind fun li107=>
 (vC F (cu x101 x102 x103) (Oh.mk x104 li107:Oh (Int×Int))).bind fun r106=>
 some (r106.1,r106.2)
theorem J4 (H:H47 D σ F)   (x101:LB) (x102:Int) (x103:Int) (x104:Int) (x105:(NL (Int×Int))) (s:Nat→V) (hs:zr [(0,.ref (.bx zD) 0 [] (.agg [eB x101,ji x102,.int .u64 x103])),(4,bZ 4),(6,.ref (.bx 6) 0 [] (.agg [ji x104,zu (.at 28 []) (x105:NL (Int×Int))]))] s) (h:y6 F   x101 x102 x103 x104 x105=some r):Run D σ (R47 r) (.nrm [.bk 0,.sq Jn]) s:=by
 unfold y6 at h
 obtain ⟨h0,h4,h6⟩:=hs
 refine .nbk (.nsq (.seq (rg (gm h0 fun h98=>gv (.agg [ji x104,zu (.at 28 []) (x105:NL (Int×Int))]) (Uu (c:=.agg [ji x104,zu (.at 28 []) (x105:NL (Int×Int))]) h6 (by simp [V.shape,V.shapes,wm,KN,Sh.beq,Sh.beqs])) fun h99=>?_))))
 obtain ⟨li107,Eli107,h⟩:=zb h
 obtain ⟨r106,Er106,h⟩:=zb h
 refine zoT (r:=zD) (b:=0) (e:=99) (q:=28) (ρ:=[]) (x:=((S3.mk x101 x102 (Kd.mk x103:Kd .u64)):CU)) (x':=r106.2) (n:=x104) (xs:=(li107:TP)) (res:=Enc.enc (r106.1:GR)) h0 (zcP Eli107 h99) (by exact (zJ (v:=cuV zD ((S3.mk x101 x102 (Kd.mk x103:Kd .u64)):CU)) h98 rfl (zJ (v:=.agg [ji x104,zu (.at 28 []) (.of (li107:TP))]) (zcP Eli107 h99) rfl yw))) (H.c74 _ _ _ Er106) H.g74 te rfl (fun s106 hb106 ha106=>ye (gV r106.1) (zF (show s106 4=(bZ 4) from ha106 4 _ _ h4 rfl (zj rfl (mIx rfl))) rfl) (zF rfl rfl) (xN (by first | rfl | simp [V.toks,V.tokss,Enc.toks_enc,yd])) ?_)
 refine gz [(0,bC r106.2),(4,bG 4 r106.1)] ⟨zd (show s106 0=(bC r106.2) from hb106 0 h0) (zH rfl rfl Jg),zd (show s106 4=(bZ 4) from ha106 4 _ _ h4 rfl (zj rfl (mIx rfl))) rfl⟩ ?_
 rintro s ⟨h0,h4⟩
 refine .nsq (.ret ?_)
 obtain rfl:=oi h
 exact rt1 (t:=0) (v7 h4 (by kernel_rfl)) h0
def vW (F:Nat) (r181:(Int×CU)) (r14:Int) (r111:(Int×CU)) (r112:(Bool×CU)) (x142:Int) (x176:Int) (c5:LB→Int→Int→(NL (Int×Int))→Int→Option (GR×CU)) (c8:LB→Int→Int→(NL (Int×Int))→Int→Option (GR×CU)) (x183:(NL (Int×Int))):Option (GR×CU):=
 c8 r181.2.a r181.2.b r181.2.c.v x183 (w64 (x176 + 1))
theorem zdU (H:H47 D σ F) (r181:(Int×CU)) (r14:Int) (r111:(Int×CU)) (r112:(Bool×CU)) (x142:Int) (x176:Int) (c5:LB→Int→Int→(NL (Int×Int))→Int→Option (GR×CU)) (Hc5:∀ (x138:LB) (x139:Int) (x140:Int) (x141:(NL (Int×Int))) (x142:Int) (s:Nat→V),zr [(0,.ref (.bx zD) 0 [] (.agg [eB x138,ji x139,.int .u64 x140])),(4,bZ 4),(5,ji r14),(6,.ref (.bx 6) 0 [] (.agg [ji r14,zu (.at 28 []) (x141:NL (Int×Int))])),(7,ji r111.1),(8,jb r112.1),(9,ji x142)] s→c5 x138 x139 x140 x141 x142=some r→Run D σ (R47 r) (.run Wb [.lp Wb,.bk 1,.bk 0,.sq Jn]) s) (c8:LB→Int→Int→(NL (Int×Int))→Int→Option (GR×CU)) (Hc8:∀ (x172:LB) (x173:Int) (x174:Int) (x175:(NL (Int×Int))) (x176:Int) (s:Nat→V),zr [(0,.ref (.bx zD) 0 [] (.agg [eB x172,ji x173,.int .u64 x174])),(4,bZ 4),(5,ji r14),(6,.ref (.bx 6) 0 [] (.agg [ji r14,zu (.at 28 []) (x175:NL (Int×Int))])),(7,ji r111.1),(8,jb r112.1),(9,ji x142),(10,ji x176)] s→c8 x172 x173 x174 x175 x176=some r→Run D σ (R47 r) (.run zab [.lp zab,.bk 3,.sq zbJ,.bk 2,.sq LR,.lp Wb,.bk 1,.bk 0,.sq Jn]) s) (x183:(NL (Int×Int))) (s:Nat→V) (hs:zr [(0,bC r181.2),(4,bZ 4),(5,ji r14),(6,.ref (.bx 6) 0 [] (.agg [ji r14,zu (.at 28 []) (x183:NL (Int×Int))])),(7,ji r111.1),(8,jb r112.1),(9,ji x142),(10,ji x176)] s) (h:vW F r181 r14 r111 r112 x142 x176 c5 c8 x183=some r):Run D σ (R47 r) (.nrm [.bk 4,.sq zjX,.lp zab,.bk 3,.sq zbJ,.bk 2,.sq LR,.lp Wb,.bk 1,.bk 0,.sq Jn]) s:=by
 unfold vW at h
 obtain ⟨h0,h4,h5,h6,h7,h8,h9,h10⟩:=hs
 refine .nbk (.nsq (rg (gm h10 fun h47=>g1 47 (ji (w64 (x176 + 1))) h47 fun h48=>gm h48 fun h10=>gq (.nlp ?_))))
 exact Hc8 r181.2.a r181.2.b r181.2.c.v x183 (w64 (x176 + 1)) _ ⟨h0,h4,h5,h6,h7,h8,h9,h10⟩ h
def vY (F:Nat) (r186:(Int×CU)) (r14:Int) (r111:(Int×CU)) (r112:(Bool×CU)) (x142:Int) (c5:LB→Int→Int→(NL (Int×Int))→Int→Option (GR×CU)) (x190:(NL (Int×Int))):Option (GR×CU):=
 c5 r186.2.a r186.2.b r186.2.c.v x190 (w64 (x142 + 1))
theorem zcO (H:H47 D σ F) (r186:(Int×CU)) (r14:Int) (r111:(Int×CU)) (r112:(Bool×CU)) (x142:Int) (c5:LB→Int→Int→(NL (Int×Int))→Int→Option (GR×CU)) (Hc5:∀ (x138:LB) (x139:Int) (x140:Int) (x141:(NL (Int×Int))) (x142:Int) (s:Nat→V),zr [(0,.ref (.bx zD) 0 [] (.agg [eB x138,ji x139,.int .u64 x140])),(4,bZ 4),(5,ji r14),(6,.ref (.bx 6) 0 [] (.agg [ji r14,zu (.at 28 []) (x141:NL (Int×Int))])),(7,ji r111.1),(8,jb r112.1),(9,ji x142)] s→c5 x138 x139 x140 x141 x142=some r→Run D σ (R47 r) (.run Wb [.lp Wb,.bk 1,.bk 0,.sq Jn]) s) (x190:(NL (Int×Int))) (s:Nat→V) (hs:zr [(0,bC r186.2),(4,bZ 4),(5,ji r14),(6,.ref (.bx 6) 0 [] (.agg [ji r14,zu (.at 28 []) (x190:NL (Int×Int))])),(7,ji r111.1),(8,jb r112.1),(9,ji x142)] s) (h:vY F r186 r14 r111 r112 x142 c5 x190=some r):Run D σ (R47 r) (.nrm [.bk 2,.sq LR,.lp Wb,.bk 1,.bk 0,.sq Jn]) s:=by
 unfold vY at h
 obtain ⟨h0,h4,h5,h6,h7,h8,h9⟩:=hs
 refine .nbk (.nsq (rg (gm h9 fun h40=>g1 40 (ji (w64 (x142 + 1))) h40 fun h41=>gm h41 fun h9=>gq (.nlp ?_))))
 exact Hc5 r186.2.a r186.2.b r186.2.c.v x190 (w64 (x142 + 1)) _ ⟨h0,h4,h5,h6,h7,h8,h9⟩ h
def xi (F:Nat) (r186:(Int×CU)) (r14:Int) (x175:(NL (Int×Int))) (r111:(Int×CU)) (r112:(Bool×CU)) (x142:Int) (c5:LB→Int→Int→(NL (Int×Int))→Int→Option (GR×CU)) (x188:Bool):Option (GR×CU):=
 bif x188 then
  (Yd F x175.list (r186.1,x142)).bind fun r191=>
  vY F r186 r14 r111 r112 x142 c5 r191
 else
  vY F r186 r14 r111 r112 x142 c5 x175
theorem Qo (H:H47 D σ F) (r186:(Int×CU)) (r14:Int) (x175:(NL (Int×Int))) (r111:(Int×CU)) (r112:(Bool×CU)) (x142:Int) (c5:LB→Int→Int→(NL (Int×Int))→Int→Option (GR×CU)) (Hc5:∀ (x138:LB) (x139:Int) (x140:Int) (x141:(NL (Int×Int))) (x142:Int) (s:Nat→V),zr [(0,.ref (.bx zD) 0 [] (.agg [eB x138,ji x139,.int .u64 x140])),(4,bZ 4),(5,ji r14),(6,.ref (.bx 6) 0 [] (.agg [ji r14,zu (.at 28 []) (x141:NL (Int×Int))])),(7,ji r111.1),(8,jb r112.1),(9,ji x142)] s→c5 x138 x139 x140 x141 x142=some r→Run D σ (R47 r) (.run Wb [.lp Wb,.bk 1,.bk 0,.sq Jn]) s) (x188:Bool) (s:Nat→V) (hs:zr [(0,bC r186.2),(4,bZ 4),(5,ji r14),(6,.ref (.bx 6) 0 [] (.agg [ji r14,zu (.at 28 []) (x175:NL (Int×Int))])),(7,ji r111.1),(8,jb r112.1),(9,ji x142),(11,ji r186.1),(76,jb x188)] s) (h:xi F r186 r14 x175 r111 r112 x142 c5 x188=some r):Run D σ (R47 r) (.nrm [.sq zkA,.bk 2,.sq LR,.lp Wb,.bk 1,.bk 0,.sq Jn]) s:=by
 unfold xi at h
 obtain ⟨h0,h4,h5,h6,h7,h8,h9,h11,h76⟩:=hs
 refine .nsq (zn h76 h (fun h=>?_) (fun h=>?_))
 · refine zw (z3 ?_)
   refine ez [(0,_),(4,_),(5,_),(6,_),(7,_),(8,_),(9,_),(11,_),(82,_)] ⟨za h0 rfl (zj rfl Zh),za h4 rfl (zj rfl (mIx rfl)),za h5 rfl mi,za h6 rfl (zj rfl (zW (zh mi (zh (zq (r:=28) (p:=[]) rfl rfl) zB)))),za h7 rfl mi,za h8 rfl mb,za h9 rfl mi,za h11 rfl mi,ze rfl⟩ ?_
   rintro s ⟨h0,h4,h5,h6,h7,h8,h9,h11,h82⟩
   refine g1 6 (.ref (.bx 6) 0 [1] (zu (.at 28 []) (x175:NL (Int×Int)))) h6 fun h77=>gv (zu (.at 28 []) (x175:NL (Int×Int))) (Uu h77 Qc) fun h78=>gm h11 fun h79=>gm h9 fun h80=>g2 79 80 (.agg [ji r186.1,ji x142]) h79 h80 fun h81=>?_
   obtain ⟨r191,Er191,h⟩:=zb h
   refine ZM (m:=1) (al:=false) (r:=zu .sh (r191:NL (Int×Int))) (v:=zu (.at 82 []) (r191:NL (Int×Int))) (kk:=1000000072) [eP x175.list,Enc.enc ((r186.1,x142):(Int×Int))] (zf h78 vK (uw (o:=x175)) (zf h81 rfl (Enc.erase_enc ((r186.1,x142):(Int×Int))) zA)) (H.c72o _ _ _ Er191) H.g72o rfl ve uc vK h82 (g1 6 (.ref (.bx 6) 0 [1] (zu (.at 28 []) (x175:NL (Int×Int)))) h6 fun h83=>ye (zu (.at 82 []) (r191:NL (Int×Int))) (zF h83 rfl) (zF rfl vK) ⟨by decide,by decide,NG,US,US,WZ rfl rfl⟩ (yS (Jy (x:=28) (fun s202 hx_202 hd_202=>?_))))
   refine yu (r:=82) (x:=28) (v:=_) (by exact hx_202) rfl (fun s203 hz203=>?_)
   refine ez [(0,bC r186.2),(4,bZ 4),(5,ji r14),(6,.ref (.bx 6) 0 [] (.agg [ji r14,zu (.at 28 []) (r191:NL (Int×Int))])),(7,ji r111.1),(8,jb r112.1),(9,ji x142)] ⟨hz203 0 _ _ (show s202 0=(bC r186.2) from (hd_202 0 (by decide)).trans (zd h0 (zH rfl rfl Jg))) (zj rfl Zh),hz203 4 _ _ (show s202 4=(bZ 4) from (hd_202 4 (by decide)).trans (zd h4 (zH rfl rfl (yL (zy rfl (zy rfl rfl)))))) (zj rfl (mIx rfl)),hz203 5 _ _ (show s202 5=(ji r14) from (hd_202 5 (by decide)).trans (zd h5 rfl)) mi,hz203 6 _ (.ref (.bx 6) 0 [] (.agg [ji r14,zu (.at 28 []) (r191:NL (Int×Int))])) (show s202 6=(.ref (.bx 6) 0 [] (.agg [ji r14,zu (.at 82 []) (r191:NL (Int×Int))])) from (hd_202 6 (by decide)).trans (zd h6 (U6 (zy rfl (zy (wH rfl rfl) rfl))))) (zj rfl (zW (zh mi (zh (zq (r:=82) (p:=[]) rfl rfl) zB)))),hz203 7 _ _ (show s202 7=(ji r111.1) from (hd_202 7 (by decide)).trans (zd h7 rfl)) mi,hz203 8 _ _ (show s202 8=(jb r112.1) from (hd_202 8 (by decide)).trans (zd h8 rfl)) mb,hz203 9 _ _ (show s202 9=(ji x142) from (hd_202 9 (by decide)).trans (zd h9 rfl)) mi⟩ ?_
   rintro s ⟨h0,h4,h5,h6,h7,h8,h9⟩
   exact zcO H r186 r14 r111 r112 x142 c5 Hc5 r191 _ ⟨h0,h4,h5,h6,h7,h8,h9⟩ h
 refine .skip ?_
 exact zcO H r186 r14 r111 r112 x142 c5 Hc5 x175 _ ⟨h0,h4,h5,h6,h7,h8,h9⟩ h
def yC (F:Nat) (r14:Int) (r111:(Int×CU)) (r112:(Bool×CU)) (x142:Int) (c5:LB→Int→Int→(NL (Int×Int))→Int→Option (GR×CU)):Nat→LB→Int→Int→(NL (Int×Int))→Int→Option (GR×CU)
 | 0,_,_,_,_,_=>none
 | k + 1,x172,x173,x174,x175,x176=>
   bif decide (x176 < r14) then
    (yc F (cu x172 x173 x174) r111.1).bind fun r181=>
    bif (r181.1 == 0) then
     (Yd F x175.list (x142,x176)).bind fun r184=>
     vW F r181 r14 r111 r112 x142 x176 c5 (yC F r14 r111 r112 x142 c5 k) r184
    else
     vW F r181 r14 r111 r112 x142 x176 c5 (yC F r14 r111 r112 x142 c5 k) x175
   else
    (Xt F x142 1).bind fun r185=>
    (yc F (cu x172 x173 x174) r185).bind fun r186=>
    bif decide (x142 > 0) then
     bif (!r112.1) then
      (Xj F (r14,x175.list) x142 r186.1).bind fun r192=>
      xi F r186 r14 x175 r111 r112 x142 c5 (!r192)
     else
      xi F r186 r14 x175 r111 r112 x142 c5 false
    else
     xi F r186 r14 x175 r111 r112 x142 c5 false
theorem zjj (H:H47 D σ F) (r14:Int) (r111:(Int×CU)) (r112:(Bool×CU)) (x142:Int) (c5:LB→Int→Int→(NL (Int×Int))→Int→Option (GR×CU)) (Hc5:∀ (x138:LB) (x139:Int) (x140:Int) (x141:(NL (Int×Int))) (x142:Int) (s:Nat→V),zr [(0,.ref (.bx zD) 0 [] (.agg [eB x138,ji x139,.int .u64 x140])),(4,bZ 4),(5,ji r14),(6,.ref (.bx 6) 0 [] (.agg [ji r14,zu (.at 28 []) (x141:NL (Int×Int))])),(7,ji r111.1),(8,jb r112.1),(9,ji x142)] s→c5 x138 x139 x140 x141 x142=some r→Run D σ (R47 r) (.run Wb [.lp Wb,.bk 1,.bk 0,.sq Jn]) s):∀ (k:Nat) (x172:LB) (x173:Int) (x174:Int) (x175:(NL (Int×Int))) (x176:Int) (s:Nat→V),zr [(0,.ref (.bx zD) 0 [] (.agg [eB x172,ji x173,.int .u64 x174])),(4,bZ 4),(5,ji r14),(6,.ref (.bx 6) 0 [] (.agg [ji r14,zu (.at 28 []) (x175:NL (Int×Int))])),(7,ji r111.1),(8,jb r112.1),(9,ji x142),(10,ji x176)] s→yC F r14 r111 r112 x142 c5 k x172 x173 x174 x175 x176=some r→Run D σ (R47 r) (.run zab [.lp zab,.bk 3,.sq zbJ,.bk 2,.sq LR,.lp Wb,.bk 1,.bk 0,.sq Jn]) s:=by
 intro k
 induction k with
 | zero=>intro x172 x173 x174 x175 x176 s _ h;exact nm h
 | succ k ih=>
   intro x172 x173 x174 x175 x176 s hs h
   rw [yC] at h
   obtain ⟨h0,h4,h5,h6,h7,h8,h9,h10⟩:=hs
   refine .seq (.seq (rg (gm h10 fun h44=>gm h5 fun h45=>g2 44 45 (jb (decide (x176 < r14))) h44 h45 fun h46=>gq (.nsq (zn h46 h (fun h=>?_) (fun h=>?_))))))
   · refine .skip (.nsq (.seq (.block (.seq (rg (gm h0 fun h49=>gm h7 fun h50=>?_))))))
     obtain ⟨r181,Er181,h⟩:=zb h
     refine vM (r:=zD) (b:=0) (x:=((S3.mk x172 x173 (Kd.mk x174:Kd .u64)):CU)) (x':=r181.2) (vs:=[Enc.enc (r111.1:Int)]) (res:=Enc.enc (r181.1:Int)) h0 (by exact (zJ (v:=cuV zD ((S3.mk x172 x173 (Kd.mk x174:Kd .u64)):CU)) h49 rfl (zJ (v:=Enc.enc (r111.1:Int)) h50 rfl yw))) (yg te yr) fm1 (H.c24 _ _ _ Er181) H.g24 te rfl (fun s190 hb190 ha190=>g1 51 (jb (r181.1 == 0)) (rf (ji r181.1)) fun h52=>?_)
     refine gz [(0,_),(4,bZ 4),(5,ji r14),(6,.ref (.bx 6) 0 [] (.agg [ji r14,zu (.at 28 []) (x175:NL (Int×Int))])),(7,ji r111.1),(8,jb r112.1),(9,ji x142),(10,ji x176),(52,_)] ⟨(show s190 0=(bC r181.2) from hb190 0 h0),(show s190 4=(bZ 4) from ha190 4 _ _ h4 rfl (zj rfl (mIx rfl))),(show s190 5=(ji r14) from ha190 5 _ _ h5 rfl mi),(show s190 6=(.ref (.bx 6) 0 [] (.agg [ji r14,zu (.at 28 []) (x175:NL (Int×Int))])) from ha190 6 _ _ h6 rfl (zj rfl (zW (zh mi (zh (zq (r:=28) (p:=[]) rfl rfl) zB))))),(show s190 7=(ji r111.1) from ha190 7 _ _ h7 rfl mi),(show s190 8=(jb r112.1) from ha190 8 _ _ h8 rfl mb),(show s190 9=(ji x142) from ha190 9 _ _ h9 rfl mi),(show s190 10=(ji x176) from ha190 10 _ _ h10 rfl mi),h52⟩ ?_
     rintro s ⟨h0,h4,h5,h6,h7,h8,h9,h10,h52⟩
     refine .nsq (zn h52 h (fun h=>?_) (fun h=>?_))
     · refine zw (z3 ?_)
       refine ez [(0,_),(4,_),(5,_),(6,_),(7,_),(8,_),(9,_),(10,_),(58,_)] ⟨za h0 rfl (zj rfl Zh),za h4 rfl (zj rfl (mIx rfl)),za h5 rfl mi,za h6 rfl (zj rfl (zW (zh mi (zh (zq (r:=28) (p:=[]) rfl rfl) zB)))),za h7 rfl mi,za h8 rfl mb,za h9 rfl mi,za h10 rfl mi,ze rfl⟩ ?_
       rintro s ⟨h0,h4,h5,h6,h7,h8,h9,h10,h58⟩
       refine g1 6 (.ref (.bx 6) 0 [1] (zu (.at 28 []) (x175:NL (Int×Int)))) h6 fun h53=>gv (zu (.at 28 []) (x175:NL (Int×Int))) (Uu h53 Qc) fun h54=>gm h9 fun h55=>gm h10 fun h56=>g2 55 56 (.agg [ji x142,ji x176]) h55 h56 fun h57=>?_
       obtain ⟨r184,Er184,h⟩:=zb h
       refine ZM (m:=1) (al:=false) (r:=zu .sh (r184:NL (Int×Int))) (v:=zu (.at 58 []) (r184:NL (Int×Int))) (kk:=1000000072) [eP x175.list,Enc.enc ((x142,x176):(Int×Int))] (zf h54 vK (uw (o:=x175)) (zf h57 rfl (Enc.erase_enc ((x142,x176):(Int×Int))) zA)) (H.c72o _ _ _ Er184) H.g72o rfl ve uc vK h58 (g1 6 (.ref (.bx 6) 0 [1] (zu (.at 28 []) (x175:NL (Int×Int)))) h6 fun h59=>ye (zu (.at 58 []) (r184:NL (Int×Int))) (zF h59 rfl) (zF rfl vK) ⟨by decide,by decide,NG,US,US,WZ rfl rfl⟩ (yS (Jy (x:=28) (fun s195 hx_195 hd_195=>?_))))
       refine yu (r:=58) (x:=28) (v:=_) (by exact hx_195) rfl (fun s196 hz196=>?_)
       refine ez [(0,bC r181.2),(4,bZ 4),(5,ji r14),(6,.ref (.bx 6) 0 [] (.agg [ji r14,zu (.at 28 []) (r184:NL (Int×Int))])),(7,ji r111.1),(8,jb r112.1),(9,ji x142),(10,ji x176)] ⟨hz196 0 _ _ (show s195 0=(bC r181.2) from (hd_195 0 (by decide)).trans (zd h0 (zH rfl rfl Jg))) (zj rfl Zh),hz196 4 _ _ (show s195 4=(bZ 4) from (hd_195 4 (by decide)).trans (zd h4 (zH rfl rfl (yL (zy rfl (zy rfl rfl)))))) (zj rfl (mIx rfl)),hz196 5 _ _ (show s195 5=(ji r14) from (hd_195 5 (by decide)).trans (zd h5 rfl)) mi,hz196 6 _ (.ref (.bx 6) 0 [] (.agg [ji r14,zu (.at 28 []) (r184:NL (Int×Int))])) (show s195 6=(.ref (.bx 6) 0 [] (.agg [ji r14,zu (.at 58 []) (r184:NL (Int×Int))])) from (hd_195 6 (by decide)).trans (zd h6 (U6 (zy rfl (zy (wH rfl rfl) rfl))))) (zj rfl (zW (zh mi (zh (zq (r:=58) (p:=[]) rfl rfl) zB)))),hz196 7 _ _ (show s195 7=(ji r111.1) from (hd_195 7 (by decide)).trans (zd h7 rfl)) mi,hz196 8 _ _ (show s195 8=(jb r112.1) from (hd_195 8 (by decide)).trans (zd h8 rfl)) mb,hz196 9 _ _ (show s195 9=(ji x142) from (hd_195 9 (by decide)).trans (zd h9 rfl)) mi,hz196 10 _ _ (show s195 10=(ji x176) from (hd_195 10 (by decide)).trans (zd h10 rfl)) mi⟩ ?_
       rintro s ⟨h0,h4,h5,h6,h7,h8,h9,h10⟩
       exact zdU H r181 r14 r111 r112 x142 x176 c5 Hc5 (yC F r14 r111 r112 x142 c5 k) ih r184 _ ⟨h0,h4,h5,h6,h7,h8,h9,h10⟩ h
     refine .skip ?_
     exact zdU H r181 r14 r111 r112 x142 x176 c5 Hc5 (yC F r14 r111 r112 x142 c5 k) ih x175 _ ⟨h0,h4,h5,h6,h7,h8,h9,h10⟩ h
   refine .exit (.esq (.elp (.ebk (.nsq (.seq (rg (gm h0 fun h60=>gm h9 fun h61=>?_)))))))
   obtain ⟨r185,Er185,h⟩:=zb h
   refine gcF [Enc.enc (x142:Int),Enc.enc (1:Int)] (zf h61 rfl rfl (zf (v:=ji 1) rfl rfl rfl zA)) (H.c31 _ _ _ Er185) H.g31 ?_
   obtain ⟨r186,Er186,h⟩:=zb h
   refine vM (r:=zD) (b:=0) (x:=((S3.mk x172 x173 (Kd.mk x174:Kd .u64)):CU)) (x':=r186.2) (vs:=[Enc.enc (r185:Int)]) (res:=Enc.enc (r186.1:Int)) h0 (by exact (zJ (v:=cuV zD ((S3.mk x172 x173 (Kd.mk x174:Kd .u64)):CU)) h60 rfl (zJ (v:=Enc.enc (r185:Int)) rfl rfl yw))) (yg te yr) fm1 (H.c24 _ _ _ Er186) H.g24 te rfl (fun s197 hb197 ha197=>gm (rf (ji r186.1)) fun h11=>?_)
   refine gz [(0,_),(4,bZ 4),(5,ji r14),(6,.ref (.bx 6) 0 [] (.agg [ji r14,zu (.at 28 []) (x175:NL (Int×Int))])),(7,ji r111.1),(8,jb r112.1),(9,ji x142),(11,_)] ⟨(show s197 0=(bC r186.2) from hb197 0 h0),(show s197 4=(bZ 4) from ha197 4 _ _ h4 rfl (zj rfl (mIx rfl))),(show s197 5=(ji r14) from ha197 5 _ _ h5 rfl mi),(show s197 6=(.ref (.bx 6) 0 [] (.agg [ji r14,zu (.at 28 []) (x175:NL (Int×Int))])) from ha197 6 _ _ h6 rfl (zj rfl (zW (zh mi (zh (zq (r:=28) (p:=[]) rfl rfl) zB))))),(show s197 7=(ji r111.1) from ha197 7 _ _ h7 rfl mi),(show s197 8=(jb r112.1) from ha197 8 _ _ h8 rfl mb),(show s197 9=(ji x142) from ha197 9 _ _ h9 rfl mi),h11⟩ ?_
   rintro s ⟨h0,h4,h5,h6,h7,h8,h9,h11⟩
   refine .nsq (.seq (rg (gm h9 fun h64=>g1 64 (jb (decide (x142 > 0))) h64 fun h65=>gm h65 fun h66=>z4 h (fun hg3 h=>?_) (fun hg3 h=>?_))))
   · refine zm (ct h66 hg3) (gm h8 fun h67=>zm (ct h66 hg3) (g1 67 (jb (!r112.1)) h67 fun h68=>g2 66 68 (jb (!r112.1)) (ct h66 hg3) h68 fun h69=>gm h69 fun h70=>z4 h (fun hg7 h=>?_) (fun hg7 h=>?_)))
     · refine zm (ct h70 hg7) (gv (.agg [ji r14,zu (.at 28 []) (x175:NL (Int×Int))]) (Uu (c:=.agg [ji r14,zu (.at 28 []) (x175:NL (Int×Int))]) h6 (by simp [V.shape,V.shapes,wm,KN,Sh.beq,Sh.beqs])) fun h71=>zm (ct h70 hg7) (gm h9 fun h72=>zm (ct h70 hg7) (gm h11 fun h73=>?_)))
       obtain ⟨r192,Er192,h⟩:=zb h
       refine zm (ct h70 hg7) (gcF [Enc.enc ((r14,x175.list):GR),Enc.enc (x142:Int),Enc.enc (r186.1:Int)] (zf h71 rfl (zhA (YP rfl (YP (uw (o:=x175)) Zf))) (zf h72 rfl rfl (zf h73 rfl rfl zA))) (H.c73 _ _ _ _ Er192) H.g73 (zm (ct h70 hg7) (g1 74 (jb (!r192)) (rf (jb r192)) fun h75=>g2 70 75 (jb (!r192)) (ct h70 hg7) h75 fun h76=>gq ?_)))
       exact Qo H r186 r14 x175 r111 r112 x142 c5 Hc5 (!r192) _ ⟨h0,h4,h5,h6,h7,h8,h9,h11,h76⟩ h
     iterate 5 refine zR (ct h70 hg7) ?_
     refine g2 70 75 (jb false) (ct h70 hg7) (rf (.tup [])) fun h76=>gq ?_
     exact Qo H r186 r14 x175 r111 r112 x142 c5 Hc5 false _ ⟨h0,h4,h5,h6,h7,h8,h9,h11,h76⟩ h
   iterate 2 refine zR (ct h66 hg3) ?_
   refine g2 66 68 (jb false) (ct h66 hg3) (rf (.tup [])) fun h69=>gm h69 fun h70=>zR h70 ?_
   iterate 4 refine zR h70 ?_
   refine g2 70 75 (jb false) h70 (rf (.tup [])) fun h76=>gq ?_
   exact Qo H r186 r14 x175 r111 r112 x142 c5 Hc5 false _ ⟨h0,h4,h5,h6,h7,h8,h9,h11,h76⟩ h
def xk (F:Nat) (r14:Int) (r111:(Int×CU)) (r112:(Bool×CU)) :Nat→LB→Int→Int→(NL (Int×Int))→Int→Option (GR×CU)
 | 0,_,_,_,_,_=>none
 | k + 1,x138,x139,x140,x141,x142=>
   bif decide (x142 < r14) then
    yC F r14 r111 r112 x142 (xk F r14 r111 r112 k) F x138 x139 x140 x141 (w64 (x142 + 1))
   else
    y6 F x138 x139 x140 r14 x141
theorem zke (H:H47 D σ F) (r14:Int) (r111:(Int×CU)) (r112:(Bool×CU)) :∀ (k:Nat) (x138:LB) (x139:Int) (x140:Int) (x141:(NL (Int×Int))) (x142:Int) (s:Nat→V),zr [(0,.ref (.bx zD) 0 [] (.agg [eB x138,ji x139,.int .u64 x140])),(4,bZ 4),(5,ji r14),(6,.ref (.bx 6) 0 [] (.agg [ji r14,zu (.at 28 []) (x141:NL (Int×Int))])),(7,ji r111.1),(8,jb r112.1),(9,ji x142)] s→xk F r14 r111 r112 k x138 x139 x140 x141 x142=some r→Run D σ (R47 r) (.run Wb [.lp Wb,.bk 1,.bk 0,.sq Jn]) s:=by
 intro k
 induction k with
 | zero=>intro x138 x139 x140 x141 x142 s _ h;exact nm h
 | succ k ih=>
   intro x138 x139 x140 x141 x142 s hs h
   rw [xk] at h
   obtain ⟨h0,h4,h5,h6,h7,h8,h9⟩:=hs
   refine .seq (.seq (rg (gm h9 fun h37=>gm h5 fun h38=>g2 37 38 (jb (decide (x142 < r14))) h37 h38 fun h39=>gq (.nsq (zn h39 h (fun h=>?_) (fun h=>?_))))))
   · refine .skip (.nsq (.seq (.block (.seq (.seq (rg (gm h9 fun h42=>g1 42 (ji (w64 (x142 + 1))) h42 fun h43=>gm h43 fun h10=>gq (.nsq (.block (.loop ?_))))))))))
     exact zjj H r14 r111 r112 x142 (xk F r14 r111 r112 k) ih F x138 x139 x140 x141 (w64 (x142 + 1)) _ ⟨h0,h4,h5,h6,h7,h8,h9,h10⟩ h
   refine .exit (.esq (.elp (.ebk ?_)))
   exact J4 H x138 x139 x140 r14 x141 _ ⟨h0,h4,h6⟩ h
def wc (F:Nat) (x2:Int)  (x10:LB) (x11:Int) (x12:Int) (x13:Int):Option (GR×CU):=
 (uO F x13 x2).bind fun r14=>
 (yc F (cu x10 x11 x12) 8).bind fun r15=>
 bif (r15.1 == 0) then
  (YD F r14).bind fun r108=>
  y6 F r15.2.a r15.2.b r15.2.c.v r108.1 r108.2
 else
  bif (r15.1 == 1) then
   bif decide (r14 > 2) then
    (ZQ F r14).bind fun r109=>
    y6 F r15.2.a r15.2.b r15.2.c.v r109.1 r109.2
   else
    y6 F r15.2.a r15.2.b r15.2.c.v r14 (.of [])
  else
   bif (r15.1 == 2) then
    (uR F r14).bind fun r110=>
    y6 F r15.2.a r15.2.b r15.2.c.v r110.1 r110.2
   else
    (y7 F (Cu.mk r15.2) [3,4,6]).bind fun r111=>
    (xO F (Cu.mk r111.2) 6).bind fun r112=>
    xk F r14 r111 r112 F r112.2.a r112.2.b r112.2.c.v (.of []) 0
theorem zd8 (H:H47 D σ F) (x2:Int)  (x10:LB) (x11:Int) (x12:Int) (x13:Int) (s:Nat→V) (hs:zr [(0,.ref (.bx zD) 0 [] (.agg [eB x10,ji x11,.int .u64 x12])),(1,ji x2),(4,bZ 4),(5,ji x13)] s) (h:wc F x2  x10 x11 x12 x13=some r):Run D σ (R47 r) (.nrm [.sq ze7]) s:=by
 unfold wc at h
 obtain ⟨h0,h1,h4,h5⟩:=hs
 refine .nsq (.seq (rg (gm h5 fun h24=>gm h1 fun h25=>?_)))
 obtain ⟨r14,Er14,h⟩:=zb h
 refine gcF [Enc.enc (x13:Int),Enc.enc (x2:Int)] (zf h24 rfl rfl (zf h25 rfl rfl zA)) (H.c48 _ _ _ Er14) H.g48 (gm (rf (ji r14)) fun h5=>gq (.nsq (.seq (zw (z3 ?_)))))
 refine ez [(0,_),(4,_),(5,_),(6,_),(28,_)] ⟨za h0 rfl (zj rfl Zh),za h4 rfl (zj rfl (mIx rfl)),za h5 rfl mi,ze rfl,ze rfl⟩ ?_
 rintro s ⟨h0,h4,h5,h6,h28⟩
 refine gm h5 fun h27=>xI [] [] trivial rfl rfl h28 (g2 27 28 (.agg [ji r14,zu (.at 28 []) (.of ([]:TP))]) h27 (rf (zu (.at 28 []) (.of ([]:TP)))) fun h29=>xA h6 (ye (.agg [ji r14,zu (.at 28 []) (.of ([]:TP))]) (zF rfl rfl) (zF h29 rfl) (xN (by first | rfl | simp [V.toks,V.tokss,Enc.toks_enc,yd])) (gz [(0,.ref (.bx zD) 0 [] (.agg [eB x10,ji x11,.int .u64 x12])),(4,bZ 4),(5,ji r14),(6,.ref (.bx 6) 0 [] (.agg [ji r14,zu (.at 28 []) (.of ([]:TP))]))] ⟨zd h0 (zH rfl rfl Jg),zd h4 (zH rfl rfl (yL (zy rfl (zy rfl rfl)))),zd h5 rfl,zd rfl rfl⟩ ?_)))
 rintro s ⟨h0,h4,h5,h6⟩
 refine .nsq (.seq (.seq (rg (gm h0 fun h30=>?_))))
 obtain ⟨r15,Er15,h⟩:=zb h
 refine vM (r:=zD) (b:=0) (x:=((S3.mk x10 x11 (Kd.mk x12:Kd .u64)):CU)) (x':=r15.2) (vs:=[Enc.enc (8:Int)]) (res:=Enc.enc (r15.1:Int)) h0 (by exact (zJ (v:=cuV zD ((S3.mk x10 x11 (Kd.mk x12:Kd .u64)):CU)) h30 rfl (zJ (v:=Enc.enc (8:Int)) rfl rfl yw))) (yg te yr) fm1 (H.c24 _ _ _ Er15) H.g24 te rfl (fun s8 hb8 ha8=>?_)
 refine gz [(0,_),(4,bZ 4),(5,ji r14),(6,.ref (.bx 6) 0 [] (.agg [ji r14,zu (.at 28 []) (.of ([]:TP))])),(31,ji r15.1)] ⟨(show s8 0=(bC r15.2) from hb8 0 h0),(show s8 4=(bZ 4) from ha8 4 _ _ h4 rfl (zj rfl (mIx rfl))),(show s8 5=(ji r14) from ha8 5 _ _ h5 rfl mi),(show s8 6=(.ref (.bx 6) 0 [] (.agg [ji r14,zu (.at 28 []) (.of ([]:TP))])) from ha8 6 _ _ h6 rfl (zj rfl (zW (zh mi (zh (zq (r:=28) (p:=[]) rfl rfl) zB))))),rfl⟩ ?_
 rintro s ⟨h0,h4,h5,h6,h31⟩
 refine .nsq (.block (.seq (rg (g1 31 (jb (r15.1 == 0)) h31 fun h85=>gm h85 fun h84=>gq (.nsq (zn h84 h (fun h=>?_) (fun h=>?_)))))))
 · refine zw (z3 ?_)
   refine ez [(0,_),(4,_),(5,_),(6,_),(87,_)] ⟨za h0 rfl (zj rfl Zh),za h4 rfl (zj rfl (mIx rfl)),za h5 rfl mi,za h6 rfl (zj rfl (zW (zh mi (zh (zq (r:=28) (p:=[]) rfl rfl) zB)))),ze rfl⟩ ?_
   rintro s ⟨h0,h4,h5,h6,h87⟩
   refine gm h5 fun h86=>?_
   obtain ⟨r108,Er108,h⟩:=zb h
   refine ZM (m:=1) (al:=false) (r:=.agg [Enc.enc (r108.1:Int),zu .sh (r108.2:NL (Int×Int))]) (v:=.agg [ji r108.1,zu (.at 87 [1]) (r108.2:NL (Int×Int))]) (kk:=1000000069) [Enc.enc (r14:Int)] (zf h86 rfl rfl zA) (H.c69o _ _ Er108) H.g69o rfl (Lk (yg rfl (yg ve yr))) (MM (ZE rfl (ZE uc JN))) rfl h87 ?_
   refine ye (.agg [ji r108.1,zu (.at 87 [1]) (r108.2:NL (Int×Int))]) (zF h6 rfl) (zF rfl rfl) ⟨by decide,by decide,rfl,(by simp [V.shape,V.shapes,wm,Sh.beq,Sh.beqs]),(by simp [V.shape,V.shapes,wm,Sh.beq,Sh.beqs]),(by simp [V.toks,V.tokss,yd])⟩ (yS (Jy (x:=28) (fun s108 hx_108 hd_108=>zfU (x:=28) (q:=87) (p:=[1]) (v:=.dead) (by exact hx_108) rfl (fun s109 hz109=>?_))))
   refine ez [(0,bC r15.2),(4,bZ 4),(6,.ref (.bx 6) 0 [] (.agg [ji r108.1,zu (.at 28 []) (r108.2:NL (Int×Int))]))] ⟨hz109 0 _ (bC r15.2) (show s108 0=(bC r15.2) from (hd_108 0 (by decide)).trans (zd h0 (zH rfl rfl Jg))) (zj rfl Zh),hz109 4 _ (bZ 4) (show s108 4=(bZ 4) from (hd_108 4 (by decide)).trans (zd h4 (zH rfl rfl (yL (zy rfl (zy rfl rfl)))))) (zj rfl (mIx rfl)),hz109 6 _ (.ref (.bx 6) 0 [] (.agg [ji r108.1,zu (.at 28 []) (r108.2:NL (Int×Int))])) (show s108 6=(.ref (.bx 6) 0 [] (.agg [ji r108.1,zu (.at 87 [1]) (r108.2:NL (Int×Int))])) from (hd_108 6 (by decide)).trans (zd h6 rfl)) (zj rfl (zW (zh mi (zh (zq (r:=87) (p:=[1]) rfl rfl) zB))))⟩ ?_
   rintro s ⟨h0,h4,h6⟩
   exact J4 H r15.2.a r15.2.b r15.2.c.v r108.1 r108.2 _ ⟨h0,h4,h6⟩ h
 refine .seq (rg (g1 31 (jb (r15.1 == 1)) h31 fun h89=>gm h89 fun h88=>gq (.nsq (zn h88 h (fun h=>?_) (fun h=>?_)))))
 · refine .seq (rg (gm h5 fun h90=>g1 90 (jb (decide (r14 > 2))) h90 fun h91=>gq (.nsq (zn h91 h (fun h=>?_) (fun h=>?_)))))
   · refine zw (z3 ?_)
     refine ez [(0,_),(4,_),(5,_),(6,_),(93,_)] ⟨za h0 rfl (zj rfl Zh),za h4 rfl (zj rfl (mIx rfl)),za h5 rfl mi,za h6 rfl (zj rfl (zW (zh mi (zh (zq (r:=28) (p:=[]) rfl rfl) zB)))),ze rfl⟩ ?_
     rintro s ⟨h0,h4,h5,h6,h93⟩
     refine gm h5 fun h92=>?_
     obtain ⟨r109,Er109,h⟩:=zb h
     refine ZM (m:=1) (al:=false) (r:=.agg [Enc.enc (r109.1:Int),zu .sh (r109.2:NL (Int×Int))]) (v:=.agg [ji r109.1,zu (.at 93 [1]) (r109.2:NL (Int×Int))]) (kk:=1000000070) [Enc.enc (r14:Int)] (zf h92 rfl rfl zA) (H.c70o _ _ Er109) H.g70o rfl (Lk (yg rfl (yg ve yr))) (MM (ZE rfl (ZE uc JN))) rfl h93 ?_
     refine ye (.agg [ji r109.1,zu (.at 93 [1]) (r109.2:NL (Int×Int))]) (zF h6 rfl) (zF rfl rfl) ⟨by decide,by decide,rfl,(by simp [V.shape,V.shapes,wm,Sh.beq,Sh.beqs]),(by simp [V.shape,V.shapes,wm,Sh.beq,Sh.beqs]),(by simp [V.toks,V.tokss,yd])⟩ (yS (Jy (x:=28) (fun s111 hx_111 hd_111=>zfU (x:=28) (q:=93) (p:=[1]) (v:=.dead) (by exact hx_111) rfl (fun s112 hz112=>?_))))
     refine ez [(0,bC r15.2),(4,bZ 4),(6,.ref (.bx 6) 0 [] (.agg [ji r109.1,zu (.at 28 []) (r109.2:NL (Int×Int))]))] ⟨hz112 0 _ (bC r15.2) (show s111 0=(bC r15.2) from (hd_111 0 (by decide)).trans (zd h0 (zH rfl rfl Jg))) (zj rfl Zh),hz112 4 _ (bZ 4) (show s111 4=(bZ 4) from (hd_111 4 (by decide)).trans (zd h4 (zH rfl rfl (yL (zy rfl (zy rfl rfl)))))) (zj rfl (mIx rfl)),hz112 6 _ (.ref (.bx 6) 0 [] (.agg [ji r109.1,zu (.at 28 []) (r109.2:NL (Int×Int))])) (show s111 6=(.ref (.bx 6) 0 [] (.agg [ji r109.1,zu (.at 93 [1]) (r109.2:NL (Int×Int))])) from (hd_111 6 (by decide)).trans (zd h6 rfl)) (zj rfl (zW (zh mi (zh (zq (r:=93) (p:=[1]) rfl rfl) zB))))⟩ ?_
     rintro s ⟨h0,h4,h6⟩
     exact J4 H r15.2.a r15.2.b r15.2.c.v r109.1 r109.2 _ ⟨h0,h4,h6⟩ h
   refine .skip ?_
   exact J4 H r15.2.a r15.2.b r15.2.c.v r14 (.of []) _ ⟨h0,h4,h6⟩ h
 refine .seq (rg (g1 31 (jb (r15.1 == 2)) h31 fun h95=>gm h95 fun h94=>gq (.nsq (zn h94 h (fun h=>?_) (fun h=>?_)))))
 · refine zw (z3 ?_)
   refine ez [(0,_),(4,_),(5,_),(6,_),(97,_)] ⟨za h0 rfl (zj rfl Zh),za h4 rfl (zj rfl (mIx rfl)),za h5 rfl mi,za h6 rfl (zj rfl (zW (zh mi (zh (zq (r:=28) (p:=[]) rfl rfl) zB)))),ze rfl⟩ ?_
   rintro s ⟨h0,h4,h5,h6,h97⟩
   refine gm h5 fun h96=>?_
   obtain ⟨r110,Er110,h⟩:=zb h
   refine ZM (m:=1) (al:=false) (r:=.agg [Enc.enc (r110.1:Int),zu .sh (r110.2:NL (Int×Int))]) (v:=.agg [ji r110.1,zu (.at 97 [1]) (r110.2:NL (Int×Int))]) (kk:=1000000071) [Enc.enc (r14:Int)] (zf h96 rfl rfl zA) (H.c71o _ _ Er110) H.g71o rfl (Lk (yg rfl (yg ve yr))) (MM (ZE rfl (ZE uc JN))) rfl h97 ?_
   refine ye (.agg [ji r110.1,zu (.at 97 [1]) (r110.2:NL (Int×Int))]) (zF h6 rfl) (zF rfl rfl) ⟨by decide,by decide,rfl,(by simp [V.shape,V.shapes,wm,Sh.beq,Sh.beqs]),(by simp [V.shape,V.shapes,wm,Sh.beq,Sh.beqs]),(by simp [V.toks,V.tokss,yd])⟩ (yS (Jy (x:=28) (fun s114 hx_114 hd_114=>zfU (x:=28) (q:=97) (p:=[1]) (v:=.dead) (by exact hx_114) rfl (fun s115 hz115=>?_))))
   refine ez [(0,bC r15.2),(4,bZ 4),(6,.ref (.bx 6) 0 [] (.agg [ji r110.1,zu (.at 28 []) (r110.2:NL (Int×Int))]))] ⟨hz115 0 _ (bC r15.2) (show s114 0=(bC r15.2) from (hd_114 0 (by decide)).trans (zd h0 (zH rfl rfl Jg))) (zj rfl Zh),hz115 4 _ (bZ 4) (show s114 4=(bZ 4) from (hd_114 4 (by decide)).trans (zd h4 (zH rfl rfl (yL (zy rfl (zy rfl rfl)))))) (zj rfl (mIx rfl)),hz115 6 _ (.ref (.bx 6) 0 [] (.agg [ji r110.1,zu (.at 28 []) (r110.2:NL (Int×Int))])) (show s114 6=(.ref (.bx 6) 0 [] (.agg [ji r110.1,zu (.at 97 [1]) (r110.2:NL (Int×Int))])) from (hd_114 6 (by decide)).trans (zd h6 rfl)) (zj rfl (zW (zh mi (zh (zq (r:=97) (p:=[1]) rfl rfl) zB))))⟩ ?_
   rintro s ⟨h0,h4,h6⟩
   exact J4 H r15.2.a r15.2.b r15.2.c.v r110.1 r110.2 _ ⟨h0,h4,h6⟩ h
 refine .seq (zw (z3 ?_))
 refine ez [(0,_),(4,_),(5,_),(6,_),(33,_)] ⟨za h0 rfl (zj rfl Zh),za h4 rfl (zj rfl (mIx rfl)),za h5 rfl mi,za h6 rfl (zj rfl (zW (zh mi (zh (zq (r:=28) (p:=[]) rfl rfl) zB)))),ze rfl⟩ ?_
 rintro s ⟨h0,h4,h5,h6,h33⟩
 refine gm h0 fun h32=>NJ [] ([3,4,6]:LI) trivial rfl rfl rfl h33 (fun s117 hd_117 hl_117=>?_)
 obtain ⟨r111,Er111,h⟩:=zb h
 refine vM (r:=zD) (b:=0) (x:=r15.2) (x':=r111.2) (vs:=[Enc.enc ([3,4,6]:LI)]) (res:=Enc.enc (r111.1:Int)) (show s117 0=(bC r15.2) from (hl_117 0 (by decide)).trans h0) (by exact (zJ (v:=cuV zD r15.2) (show s117 32=(bC r15.2) from (hl_117 32 (by decide)).trans h32) rfl (zJ (v:=Enc.enc ([3,4,6]:LI)) (show s117 33=(eL [3,4,6]) from hd_117) rfl yw))) (yg te yr) fm1 (H.c39 _ _ _ Er111) H.g39 te rfl (fun s118 hb118 ha118=>gm (show s118 0=(bC r111.2) from hb118 0 (show s117 0=(bC r15.2) from (hl_117 0 (by decide)).trans h0)) fun h35=>?_)
 obtain ⟨r112,Er112,h⟩:=zb h
 refine vM (r:=zD) (b:=0) (x:=r111.2) (x':=r112.2) (vs:=[Enc.enc (6:Int)]) (res:=Enc.enc (r112.1:Bool)) (show s118 0=(bC r111.2) from hb118 0 (show s117 0=(bC r15.2) from (hl_117 0 (by decide)).trans h0)) (by exact (zJ (v:=cuV zD r111.2) h35 rfl (zJ (v:=Enc.enc (6:Int)) rfl rfl yw))) (yg te yr) fm1 (H.c22 _ _ _ Er112) H.g22 te rfl (fun s119 hb119 ha119=>gm (show s119 34=(ji r111.1) from ha119 34 (ji r111.1) _ rfl rfl mi) fun h7=>gm (rf (jb r112.1)) fun h8=>?_)
 refine gz [(0,_),(4,bZ 4),(5,ji r14),(6,.ref (.bx 6) 0 [] (.agg [ji r14,zu (.at 28 []) (.of ([]:TP))])),(7,_),(8,_)] ⟨(show s119 0=(bC r112.2) from hb119 0 (show s118 0=(bC r111.2) from hb118 0 (show s117 0=(bC r15.2) from (hl_117 0 (by decide)).trans h0))),(show s119 4=(bZ 4) from ha119 4 (bZ 4) _ (show s118 4=(bZ 4) from ha118 4 _ _ (show s117 4=(bZ 4) from (hl_117 4 (by decide)).trans h4) rfl (zj rfl (mIx rfl))) rfl (zj rfl (mIx rfl))),(show s119 5=(ji r14) from ha119 5 (ji r14) _ (show s118 5=(ji r14) from ha118 5 _ _ (show s117 5=(ji r14) from (hl_117 5 (by decide)).trans h5) rfl mi) rfl mi),(show s119 6=(.ref (.bx 6) 0 [] (.agg [ji r14,zu (.at 28 []) (.of ([]:TP))])) from ha119 6 (.ref (.bx 6) 0 [] (.agg [ji r14,zu (.at 28 []) (.of ([]:TP))])) _ (show s118 6=(.ref (.bx 6) 0 [] (.agg [ji r14,zu (.at 28 []) (.of ([]:TP))])) from ha118 6 _ _ (show s117 6=(.ref (.bx 6) 0 [] (.agg [ji r14,zu (.at 28 []) (.of ([]:TP))])) from (hl_117 6 (by decide)).trans h6) rfl (zj rfl (zW (zh mi (zh (zq (r:=28) (p:=[]) rfl rfl) zB))))) rfl (zj rfl (zW (zh mi (zh (zq (r:=28) (p:=[]) rfl rfl) zB))))),h7,h8⟩ ?_
 rintro s ⟨h0,h4,h5,h6,h7,h8⟩
 refine .nsq (.seq (rg (g0 (ji 0) fun h9=>gq (.nsq (.block (.loop ?_))))))
 exact zke H r14 r111 r112 F r112.2.a r112.2.b r112.2.c.v (.of []) 0 _ ⟨h0,h4,h5,h6,h7,h8,h9⟩ h
def wV (F:Nat) (x2:Int) (r3:(Int×CU))  (x5:LB) (x6:Int) (x7:Int) (x8:Bool):Option (GR×CU):=
 bif x8 then
  (yc F (cu x5 x6 x7) 2).bind fun r193=>
  wc F x2 r193.2.a r193.2.b r193.2.c.v (w64 (7 + r193.1))
 else
  wc F x2 x5 x6 x7 r3.1
theorem zdM (H:H47 D σ F) (x2:Int) (r3:(Int×CU))  (x5:LB) (x6:Int) (x7:Int) (x8:Bool) (s:Nat→V) (hs:zr [(0,.ref (.bx zD) 0 [] (.agg [eB x5,ji x6,.int .u64 x7])),(1,ji x2),(4,bZ 4),(5,ji r3.1),(20,jb x8)] s) (h:wV F x2 r3  x5 x6 x7 x8=some r):Run D σ (R47 r) (.nrm [.sq zit,.sq ze7]) s:=by
 unfold wV at h
 obtain ⟨h0,h1,h4,h5,h20⟩:=hs
 refine .nsq (zn h20 h (fun h=>?_) (fun h=>?_))
 · refine rg (gm h0 fun h21=>?_)
   obtain ⟨r193,Er193,h⟩:=zb h
   refine vM (r:=zD) (b:=0) (x:=((S3.mk x5 x6 (Kd.mk x7:Kd .u64)):CU)) (x':=r193.2) (vs:=[Enc.enc (2:Int)]) (res:=Enc.enc (r193.1:Int)) h0 (by exact (zJ (v:=cuV zD ((S3.mk x5 x6 (Kd.mk x7:Kd .u64)):CU)) h21 rfl (zJ (v:=Enc.enc (2:Int)) rfl rfl yw))) (yg te yr) fm1 (H.c24 _ _ _ Er193) H.g24 te rfl (fun s204 hb204 ha204=>g1 22 (ji (w64 (7 + r193.1))) (rf (ji r193.1)) fun h23=>gm h23 fun h5=>gz [(0,_),(1,ji x2),(4,bZ 4),(5,_)] ⟨(show s204 0=(bC r193.2) from hb204 0 h0),(show s204 1=(ji x2) from ha204 1 _ _ h1 rfl mi),(show s204 4=(bZ 4) from ha204 4 _ _ h4 rfl (zj rfl (mIx rfl))),h5⟩ ?_)
   rintro s ⟨h0,h1,h4,h5⟩
   exact zd8 H x2 r193.2.a r193.2.b r193.2.c.v (w64 (7 + r193.1)) _ ⟨h0,h1,h4,h5⟩ h
 refine .skip ?_
 exact zd8 H x2 x5 x6 x7 r3.1 _ ⟨h0,h1,h4,h5⟩ h
def wr (F:Nat) (x1:CC) (x2:Int):Option (GR×CU):=
 (y7 F (Cu.mk x1.v) [4,5,3,6,2,1,0]).bind fun r3=>
 bif decide (x2 > 6) then
  (xO F (Cu.mk r3.2) 4).bind fun r194=>
  wV F x2 r3 r194.2.a r194.2.b r194.2.c.v r194.1
 else
  wV F x2 r3 r3.2.a r3.2.b r3.2.c.v false
theorem t47 (H:H47 D σ F) (x1:CC) (x2:Int) (s:Nat→V) (hs:zr [(0,bC x1.v),(1,ji x2)] s) (h:wr F x1 x2=some r):Run D σ (R47 r) (.run A47 []) s:=by
 unfold wr at h
 obtain ⟨h0,h1⟩:=hs
 refine .seq (zw (z3 ?_))
 refine ez [(0,_),(1,_),(4,_)] ⟨za h0 rfl (zj rfl Zh),za h1 rfl mi,ze rfl⟩ ?_
 rintro s ⟨h0,h1,h4⟩
 refine xA h4 (gq (.nsq (.seq (zw (z3 ?_)))))
 refine ez [(0,_),(1,_),(4,_),(13,_)] ⟨za h0 rfl (zj rfl Zh),za h1 rfl mi,za rfl rfl (zj rfl (mIx rfl)),ze rfl⟩ ?_
 rintro s ⟨h0,h1,h4,h13⟩
 refine gm h0 fun h12=>NJ [] ([4,5,3,6,2,1,0]:LI) trivial rfl rfl rfl h13 (fun s3 hd_3 hl_3=>?_)
 obtain ⟨r3,Er3,h⟩:=zb h
 refine vM (r:=zD) (b:=0) (x:=x1.v) (x':=r3.2) (vs:=[Enc.enc ([4,5,3,6,2,1,0]:LI)]) (res:=Enc.enc (r3.1:Int)) (show s3 0=(bC x1.v) from (hl_3 0 (by decide)).trans h0) (by exact (zJ (v:=cuV zD x1.v) (show s3 12=(bC x1.v) from (hl_3 12 (by decide)).trans h12) rfl (zJ (v:=Enc.enc ([4,5,3,6,2,1,0]:LI)) (show s3 13=(eL [4,5,3,6,2,1,0]) from hd_3) rfl yw))) (yg te yr) fm1 (H.c39 _ _ _ Er3) H.g39 te rfl (fun s4 hb4 ha4=>gm (rf (ji r3.1)) fun h5=>?_)
 refine gz [(0,_),(1,ji x2),(4,bZ 4),(5,_)] ⟨(show s4 0=(bC r3.2) from hb4 0 (show s3 0=(bC x1.v) from (hl_3 0 (by decide)).trans h0)),(show s4 1=(ji x2) from ha4 1 _ _ (show s3 1=(ji x2) from (hl_3 1 (by decide)).trans h1) rfl mi),(show s4 4=(bZ 4) from ha4 4 _ _ (show s3 4=(bZ 4) from (hl_3 4 (by decide)).trans h4) rfl (zj rfl (mIx rfl))),h5⟩ ?_
 rintro s ⟨h0,h1,h4,h5⟩
 refine .nsq (.seq (.seq (rg (gm h1 fun h15=>g1 15 (jb (decide (x2 > 6))) h15 fun h16=>gm h16 fun h17=>z4 h (fun hg3 h=>?_) (fun hg3 h=>?_)))))
 · refine zm (ct h17 hg3) (gm h0 fun h18=>?_)
   obtain ⟨r194,Er194,h⟩:=zb h
   refine zm (ct h17 hg3) (vM (r:=zD) (b:=0) (x:=r3.2) (x':=r194.2) (vs:=[Enc.enc (4:Int)]) (res:=Enc.enc (r194.1:Bool)) h0 (by exact (zJ (v:=cuV zD r3.2) h18 rfl (zJ (v:=Enc.enc (4:Int)) rfl rfl yw))) (yg te yr) fm1 (H.c22 _ _ _ Er194) H.g22 te rfl (fun s205 hb205 ha205=>g2 17 19 (jb r194.1) (show s205 17=(jb true) from ha205 17 _ _ (ct h17 hg3) rfl mb) (rf (jb r194.1)) fun h20=>?_))
   refine gz [(0,_),(1,ji x2),(4,bZ 4),(5,ji r3.1),(20,_)] ⟨(show s205 0=(bC r194.2) from hb205 0 h0),(show s205 1=(ji x2) from ha205 1 _ _ h1 rfl mi),(show s205 4=(bZ 4) from ha205 4 _ _ h4 rfl (zj rfl (mIx rfl))),(show s205 5=(ji r3.1) from ha205 5 _ _ h5 rfl mi),h20⟩ ?_
   rintro s ⟨h0,h1,h4,h5,h20⟩
   exact zdM H x2 r3 r194.2.a r194.2.b r194.2.c.v r194.1 _ ⟨h0,h1,h4,h5,h20⟩ h
 iterate 2 refine zR (ct h17 hg3) ?_
 refine g2 17 19 (jb false) (ct h17 hg3) (rf (.tup [])) fun h20=>gq ?_
 exact zdM H x2 r3 r3.2.a r3.2.b r3.2.c.v false _ ⟨h0,h1,h4,h5,h20⟩ h
end
def e47 (F:Nat):Ent:=ent 47 (fun (x:(CC×Int×Unit))=>wr F x.1 x.2.1) (fun (r:(GR×CU))=>(.tup [Enc.enc (r.1:GR),.tup [cuV zD r.2]])) uA false []
abbrev C47 (D:List V→Option V) (F:Nat):Prop:=∀ (x0:CC) (x1:Int) r,wr F x0 x1=some r→D [Arg.arg x0,Enc.enc x1]=some (.tup [Enc.enc (r.1:GR),.tup [cuV zD r.2]])
theorem p47 {F:Nat}:C47 (e47 F).den F:=fun x0 x1 _ h=>zU (x0,x1,()) h
theorem o47 (hF:zG Try.prog D σ) (H:H47 D σ F):(e47 F).Ok Try.prog:=okZ (f:=47) Try.func47 fun ⟨x0,x1,_⟩ y hy=>cT hF Try.func47 c47 (t47 H x0 x1 _ ⟨rfl,rfl⟩ hy)
end Go.Zq
