/- Functions of the program as typed functions, and that the machine runs as they say (part 1). No further condition. -/
import Derived.Test.YtelahampjnaimacK4
import Derived.Test.YtelahampjnaimacProg
import Derived.Test.YtelahampjnaimacChecked
import Derived.KernelRfl
set_option linter.unusedVariables false
set_option linter.unusedSimpArgs false
namespace Go.Zq
open Go.Proofs
variable {D:Den} {σ:Sig} {F:Nat}
def zvB:AC:=(.seq (rr [jm 3 0,jk 4 3,jv 5 (.bin .gtr (.t 4) (jn 65536)),jm 2 5]) .ret)
def A4:AC:=(.seq (rr [jv 2 (.mov kf)]) zvB)
def an4:List An:=[]
theorem c4:cq Try.prog Try.f4 an4=some A4:=by kernel_rfl
structure H4 (D:Den) (σ:Sig) (F:Nat):Prop where
 mk ::
abbrev R4 (r:Bool):(Nat→V)→Prop:=RR Try.prog [.tmp 2] 0 false (Enc.enc (r:Bool))
section
variable {r:Bool}
def Lu (F:Nat) (x1:LB):Option Bool:=
 some (decide ((x1.length:Int) > 65536))
theorem t4 (H:H4 D σ F) (x1:LB) (s:Nat→V) (hs:zr [(0,eB x1)] s) (h:Lu F x1=some r):Run D σ (R4 r) (.run A4 []) s:=by
 unfold Lu at h
 have h0:=hs
 refine .seq (rg (g0 (jb false) fun h2=>gq (.nsq (.seq (rg (gm h0 fun h3=>gl x1 h3 fun h4=>g1 4 (jb (decide ((x1.length:Int) > 65536))) h4 fun h5=>gm h5 fun h2=>gq (.nsq (.ret ?_))))))))
 obtain rfl:=oi h
 exact rrA (zm h2) rfl
end
def e4 (F:Nat):Ent:=ent 4 (fun (x:(LB×Unit))=>Lu F x.1) (fun (r:Bool)=>(Enc.enc (r:Bool))) 0 false []
abbrev C4 (D:List V→Option V) (F:Nat):Prop:=∀ (x0:LB) r,Lu F x0=some r→D [Enc.enc x0]=some (Enc.enc (r:Bool))
theorem p4 {F:Nat}:C4 (e4 F).den F:=fun x0 _ h=>zS (x0,()) h
theorem o4 (hF:zG Try.prog D σ) (H:H4 D σ F):(e4 F).Ok Try.prog:=okZ (f:=4) Try.func4 fun ⟨x0,_⟩ y hy=>cR hF Try.func4 c4 (t4 H x0 _ rfl hy)
def zql:AC:=(.cond (.t 53) (.seq (rr [jm 54 3,jm 2 54]) .ret) .skip)
def zpd:AC:=(.seq (rr [jm 55 0,jv 56 (.nilc (.t 55)),jv 57 (.fld (.t 56) 2 2),jl 58 57,jv 59 (.bin .shr (.t 58) (.k (.int .u64 (.ofNat 40)))),jv 60 (.bin .and (.t 59) (.k (.int .u64 (.ofNat 255)))),jv 61 (.conv .i64 (.t 60)),jm 2 61]) .ret)
def zsS:AC:=(.seq (.seq (rr [jm 44 0,jv 45 (.nilc (.t 44)),jv 46 (.fld (.t 45) 1 1),jl 47 46,jm 48 0,jv 49 (.nilc (.t 48)),jv 50 (.fld (.t 49) 0 0),jv 51 (.load .p (.t 50)),jk 52 51,jv 53 (.bin .leq (.t 47) (.t 52))]) zql) zpd)
def zsA:AC:=(.seq (rr [jm 32 0,jm 33 0,jv 34 (.nilc (.t 33)),jv 35 (.fld (.t 34) 2 2),jl 36 35,jv 37 (.bin .mul (.t 36) (.k (.int .u64 (.ofNat 6364136223846793005)))),jm 38 3,jv 39 (.conv .u64 (.t 38)),jv 40 (.bin .add (.t 37) (.t 39)),jv 41 (.bin .add (.t 40) (.k (.int .u64 (.ofNat 462197)))),jv 42 (.nilc (.t 32)),jv 43 (.fld (.t 42) 2 2),jz (.store .s (.t 43) (.t 41))]) zsS)
def zlu:AC:=(.seq (rr [jm 25 0,jv 26 (.nilc (.t 25)),jv 27 (.fld (.t 26) 1 1),jl 28 27,jv 29 (.bin .add (.t 28) (jn 1)),jv 30 (.nilc (.t 25)),jv 31 (.fld (.t 30) 1 1),jz (.store .s (.t 31) (.t 29))]) zsA)
def zs3:AC:=(.cond (.t 13) (rr [jm 14 0,jv 15 (.nilc (.t 14)),jv 16 (.fld (.t 15) 0 0),jv 17 (.load .p (.t 16)),jm 18 0,jv 19 (.nilc (.t 18)),jv 20 (.fld (.t 19) 1 1),jl 21 20,jv 22 (.idx (.t 17) (.t 21) 1),jl 23 22,jv 24 (.conv .i64 (.t 23)),jm 3 24]) .skip)
def zrR:AC:=(.seq (.seq (rr [jm 4 0,jv 5 (.nilc (.t 4)),jv 6 (.fld (.t 5) 1 1),jl 7 6,jm 8 0,jv 9 (.nilc (.t 8)),jv 10 (.fld (.t 9) 0 0),jv 11 (.load .p (.t 10)),jk 12 11,jv 13 (.bin .lss (.t 7) (.t 12))]) zs3) zlu)
def zuq:AC:=(.seq (rr [jv 3 (.mov (jn 0))]) zrR)
def A83:AC:=(.seq (rr [jv 2 (.mov (jn 0))]) zuq)
def zvq:List An:=[]
theorem c83:cq Try.prog Try.f83 zvq=some A83:=by kernel_rfl
structure H83 (D:Den) (σ:Sig) (F:Nat):Prop where
 mk ::
abbrev R83 (r:(Int×CU)):(Nat→V)→Prop:=RT Try.prog [.tmp 2] (Enc.enc (r.1:Int)) [cuV zO r.2]
section
variable {r:(Int×CU)}
def vR (F:Nat) (x1:CC)  (x3:Int):Option (Int×CU):=
 bif decide ((w64 (x1.v.b + 1))≤(x1.v.a.length:Int)) then
  some (x3,S3.mk x1.v.a (w64 (x1.v.b + 1)) (Kd.mk (IntKind.u64.wrap ((IntKind.u64.wrap ((IntKind.u64.wrap (x1.v.c.v * 6364136223846793005)) + (IntKind.u64.wrap x3))) + 462197)):Kd .u64))
 else
  (U4 .u64 (IntKind.u64.wrap ((IntKind.u64.wrap ((IntKind.u64.wrap (x1.v.c.v * 6364136223846793005)) + (IntKind.u64.wrap x3))) + 462197)) 40).bind fun q4=>
  some (w64 (yO .u64 q4 255),S3.mk x1.v.a (w64 (x1.v.b + 1)) (Kd.mk (IntKind.u64.wrap ((IntKind.u64.wrap ((IntKind.u64.wrap (x1.v.c.v * 6364136223846793005)) + (IntKind.u64.wrap x3))) + 462197)):Kd .u64))
theorem zc3 (H:H83 D σ F) (x1:CC)  (x3:Int) (s:Nat→V) (hs:zr [(0,bC x1.v),(2,ji 0),(3,ji x3)] s) (h:vR F x1  x3=some r):Run D σ (R83 r) (.nrm [.sq zlu]) s:=by
 unfold vR at h
 obtain ⟨h0,h2,h3⟩:=hs
 refine .nsq (.seq (rg (gm h0 fun h25=>g1 25 (bC x1.v) h25 fun h26=>g1 26 (.ref (.bx zO) 0 [1] (ji x1.v.b)) h26 fun h27=>g1 27 (ji x1.v.b) h27 fun h28=>g1 28 (ji (w64 (x1.v.b + 1))) h28 fun h29=>g1 25 (bC x1.v) h25 fun h30=>g1 30 (.ref (.bx zO) 0 [1] (ji x1.v.b)) h30 fun h31=>z5 (ji (w64 (x1.v.b + 1))) (zB h31 rfl) (zB h29 rfl) (xo (by first | rfl | simp [V.toks,V.tokss,Enc.toks_enc,zY])) (gz [(0,.ref (.bx zO) 0 [] (.agg [eB x1.v.a,ji (w64 (x1.v.b + 1)),.int .u64 x1.v.c.v])),(2,ji 0),(3,ji x3)] ⟨zd h0 rfl,zd h2 rfl,zd h3 rfl⟩ ?_))))
 rintro s ⟨h0,h2,h3⟩
 refine .nsq (.seq (rg (gm h0 fun h32=>gm h0 fun h33=>g1 33 (.ref (.bx zO) 0 [] (.agg [eB x1.v.a,ji (w64 (x1.v.b + 1)),.int .u64 x1.v.c.v])) h33 fun h34=>g1 34 (.ref (.bx zO) 0 [2] (.int .u64 x1.v.c.v)) h34 fun h35=>g1 35 (.int .u64 x1.v.c.v) h35 fun h36=>g1 36 (.int .u64 (IntKind.u64.wrap (x1.v.c.v * 6364136223846793005))) h36 fun h37=>gm h3 fun h38=>g1 38 (.int .u64 (IntKind.u64.wrap x3)) h38 fun h39=>g2 37 39 (.int .u64 (IntKind.u64.wrap ((IntKind.u64.wrap (x1.v.c.v * 6364136223846793005)) + (IntKind.u64.wrap x3)))) h37 h39 fun h40=>?_)))
 refine g1 40 (.int .u64 (IntKind.u64.wrap ((IntKind.u64.wrap ((IntKind.u64.wrap (x1.v.c.v * 6364136223846793005)) + (IntKind.u64.wrap x3))) + 462197))) h40 fun h41=>g1 32 (.ref (.bx zO) 0 [] (.agg [eB x1.v.a,ji (w64 (x1.v.b + 1)),.int .u64 x1.v.c.v])) h32 fun h42=>g1 42 (.ref (.bx zO) 0 [2] (.int .u64 x1.v.c.v)) h42 fun h43=>z5 (.int .u64 (IntKind.u64.wrap ((IntKind.u64.wrap ((IntKind.u64.wrap (x1.v.c.v * 6364136223846793005)) + (IntKind.u64.wrap x3))) + 462197))) (zB h43 rfl) (zB h41 rfl) (xo (by first | rfl | simp [V.toks,V.tokss,Enc.toks_enc,zY])) ?_
 refine gz [(0,.ref (.bx zO) 0 [] (.agg [eB x1.v.a,ji (w64 (x1.v.b + 1)),.int .u64 (IntKind.u64.wrap ((IntKind.u64.wrap ((IntKind.u64.wrap (x1.v.c.v * 6364136223846793005)) + (IntKind.u64.wrap x3))) + 462197))])),(2,ji 0),(3,ji x3)] ⟨zd h0 rfl,zd h2 rfl,zd h3 rfl⟩ ?_
 rintro s ⟨h0,h2,h3⟩
 refine .nsq (.seq (.seq (rg (gm h0 fun h44=>g1 44 (.ref (.bx zO) 0 [] (.agg [eB x1.v.a,ji (w64 (x1.v.b + 1)),.int .u64 (IntKind.u64.wrap ((IntKind.u64.wrap ((IntKind.u64.wrap (x1.v.c.v * 6364136223846793005)) + (IntKind.u64.wrap x3))) + 462197))])) h44 fun h45=>g1 45 (.ref (.bx zO) 0 [1] (ji (w64 (x1.v.b + 1)))) h45 fun h46=>g1 46 (ji (w64 (x1.v.b + 1))) h46 fun h47=>gm h0 fun h48=>g1 48 (.ref (.bx zO) 0 [] (.agg [eB x1.v.a,ji (w64 (x1.v.b + 1)),.int .u64 (IntKind.u64.wrap ((IntKind.u64.wrap ((IntKind.u64.wrap (x1.v.c.v * 6364136223846793005)) + (IntKind.u64.wrap x3))) + 462197))])) h48 fun h49=>g1 49 (.ref (.bx zO) 0 [0] (eB x1.v.a)) h49 fun h50=>?_))))
 refine g1 50 (eB x1.v.a) h50 fun h51=>gl x1.v.a h51 fun h52=>g2 47 52 (jb (decide ((w64 (x1.v.b + 1))≤(x1.v.a.length:Int)))) h47 h52 fun h53=>gq (.nsq (zn h53 h (fun h=>?_) (fun h=>?_)))
 · refine .seq (rg (gm h3 fun h54=>gm h54 fun h2=>gq (.nsq (.ret ?_))))
   obtain rfl:=oi h
   exact rt1 (t:=0) (zm h2) h0
 refine .skip (.nsq (.seq (rg (gm h0 fun h55=>g1 55 (.ref (.bx zO) 0 [] (.agg [eB x1.v.a,ji (w64 (x1.v.b + 1)),.int .u64 (IntKind.u64.wrap ((IntKind.u64.wrap ((IntKind.u64.wrap (x1.v.c.v * 6364136223846793005)) + (IntKind.u64.wrap x3))) + 462197))])) h55 fun h56=>g1 56 (.ref (.bx zO) 0 [2] (.int .u64 (IntKind.u64.wrap ((IntKind.u64.wrap ((IntKind.u64.wrap (x1.v.c.v * 6364136223846793005)) + (IntKind.u64.wrap x3))) + 462197)))) h56 fun h57=>g1 57 (.int .u64 (IntKind.u64.wrap ((IntKind.u64.wrap ((IntKind.u64.wrap (x1.v.c.v * 6364136223846793005)) + (IntKind.u64.wrap x3))) + 462197))) h57 fun h58=>?_))))
 obtain ⟨q4,Eq4,h⟩:=zc h
 refine gv (.int .u64 q4) (XP h58 rfl Eq4) fun h59=>g1 59 (.int .u64 (yO .u64 q4 255)) h59 fun h60=>g1 60 (ji (w64 (yO .u64 q4 255))) h60 fun h61=>gm h61 fun h2=>gq (.nsq (.ret ?_))
 obtain rfl:=oi h
 exact rt1 (t:=0) (zm h2) h0
def vk (F:Nat) (x1:CC):Option (Int×CU):=
 bif decide (x1.v.b < (x1.v.a.length:Int)) then
  (idx x1.v.a x1.v.b).bind fun v5=>
  vR F x1 (w64 v5.v)
 else
  vR F x1 0
theorem t83 (H:H83 D σ F) (x1:CC) (s:Nat→V) (hs:zr [(0,bC x1.v)] s) (h:vk F x1=some r):Run D σ (R83 r) (.run A83 []) s:=by
 unfold vk at h
 have h0:=hs
 refine .seq (rg (g0 (ji 0) fun h2=>gq (.nsq (.seq (rg (g0 (ji 0) fun h3=>gq (.nsq (.seq (.seq (rg (gm h0 fun h4=>g1 4 (bC x1.v) h4 fun h5=>g1 5 (.ref (.bx zO) 0 [1] (ji x1.v.b)) h5 fun h6=>g1 6 (ji x1.v.b) h6 fun h7=>gm h0 fun h8=>g1 8 (bC x1.v) h8 fun h9=>g1 9 (.ref (.bx zO) 0 [0] (eB x1.v.a)) h9 fun h10=>g1 10 (eB x1.v.a) h10 fun h11=>gl x1.v.a h11 fun h12=>g2 7 12 (jb (decide (x1.v.b < (x1.v.a.length:Int)))) h7 h12 fun h13=>gq (.nsq (zn h13 h (fun h=>?_) (fun h=>?_))))))))))))))
 · refine rg (gm h0 fun h14=>g1 14 (bC x1.v) h14 fun h15=>g1 15 (.ref (.bx zO) 0 [0] (eB x1.v.a)) h15 fun h16=>g1 16 (eB x1.v.a) h16 fun h17=>gm h0 fun h18=>g1 18 (bC x1.v) h18 fun h19=>g1 19 (.ref (.bx zO) 0 [1] (ji x1.v.b)) h19 fun h20=>g1 20 (ji x1.v.b) h20 fun h21=>?_)
   obtain ⟨v5,Ev5,h⟩:=zc h
   refine gv (.ref .sh 0 [] (.int .u8 v5.v)) (yg (t:=.sh) (lo:=0) (xs:=x1.v.a) h17 h21 Ev5 rfl rfl) fun h22=>g1 22 (.int .u8 v5.v) h22 fun h23=>g1 23 (ji (w64 v5.v)) h23 fun h24=>gm h24 fun h3=>gq ?_
   exact zc3 H x1 (w64 v5.v) _ ⟨h0,h2,h3⟩ h
 refine .skip ?_
 exact zc3 H x1 0 _ ⟨h0,h2,h3⟩ h
end
def e83 (F:Nat):Ent:=ent 83 (fun (x:(CC×Unit))=>vk F x.1) (fun (r:(Int×CU))=>(.tup [Enc.enc (r.1:Int),.tup [cuV zO r.2]])) uK false []
abbrev C83 (D:List V→Option V) (F:Nat):Prop:=∀ (x0:CC) r,vk F x0=some r→D [Arg.arg x0]=some (.tup [Enc.enc (r.1:Int),.tup [cuV zO r.2]])
theorem p83 {F:Nat}:C83 (e83 F).den F:=fun x0 _ h=>zS (x0,()) h
theorem o83 (hF:zG Try.prog D σ) (H:H83 D σ F):(e83 F).Ok Try.prog:=okZ (f:=83) Try.func83 fun ⟨x0,_⟩ y hy=>cT hF Try.func83 c83 (t83 H x0 _ rfl hy)
def zk2:AC:=(.seq (rr [jm 17 5,jm 18 1,jv 19 (.bin .rem (.t 17) (.t 18)),jm 4 19]) .ret)
def zpy:AC:=(.cond (.t 7) (.seq (rr [jv 4 (.mov (jn 0))]) .ret) .skip)
def zup:AC:=(.cond (.t 11) (rr [jm 12 5,jv 13 (.bin .mul (.t 12) (jn 256)),jm 14 0,jx 15 (.callT (jf 83) [.t 14] [0] []),jv 16 (.bin .add (.t 13) (.t 15)),jm 5 16]) .skip)
def zqg:AC:=(.seq (.seq (rr [jm 10 1,jv 11 (.bin .gtr (.t 10) (jn 200))]) zup) zk2)
def zqL:AC:=(.seq (rr [jm 8 0,jx 9 (.callT (jf 83) [.t 8] [0] []),jm 5 9]) zqg)
def zpC:AC:=(.seq (.seq (rr [jm 6 1,jv 7 (.bin .leq (.t 6) (jn 1))]) zpy) zqL)
def A69:AC:=(.seq (rr [jv 4 (.mov (jn 0))]) zpC)
def zuZ:List An:=[⟨3,[],[],[2000000],[]⟩,⟨5,[],[],[4000000],[]⟩]
theorem c69:cq Try.prog Try.f69 zuZ=some A69:=by kernel_rfl
structure H69 (D:Den) (σ:Sig) (F:Nat):Prop where
 c83:C83 (D 83) F
 g83:σ 83=some (uK,false)
abbrev R69 (r:(Int×CU)):(Nat→V)→Prop:=RT Try.prog [.tmp 4] (Enc.enc (r.1:Int)) [cuV zO r.2]
section
variable {r:(Int×CU)}
def vX (F:Nat) (x2:Int)  (x5:LB) (x6:Int) (x7:Int) (x8:Int):Option (Int×CU):=
 (zhL .i64 x8 x2).bind fun q9=>
 some (q9,S3.mk x5 x6 (Kd.mk x7:Kd .u64))
theorem zcL (H:H69 D σ F) (x2:Int)  (x5:LB) (x6:Int) (x7:Int) (x8:Int) (s:Nat→V) (hs:zr [(0,.ref (.bx zO) 0 [] (.agg [eB x5,ji x6,.int .u64 x7])),(1,ji x2),(4,ji 0),(5,ji x8)] s) (h:vX F x2  x5 x6 x7 x8=some r):Run D σ (R69 r) (.nrm [.sq zk2]) s:=by
 unfold vX at h
 obtain ⟨h0,h1,h4,h5⟩:=hs
 refine .nsq (.seq (rg (gm h5 fun h17=>gm h1 fun h18=>?_)))
 obtain ⟨q9,Eq9,h⟩:=zc h
 refine gv (ji q9) (zn8 h17 h18 Eq9) fun h19=>gm h19 fun h4=>gq (.nsq (.ret ?_))
 obtain rfl:=oi h
 exact rt1 (t:=0) (zm h4) h0
def yj (F:Nat) (x1:CC) (x2:Int):Option (Int×CU):=
 bif decide (x2≤1) then
  some (0,x1.v)
 else
  (vk F (Cu.mk x1.v)).bind fun r3=>
  bif decide (x2 > 200) then
   (vk F (Cu.mk r3.2)).bind fun r10=>
   vX F x2 r10.2.a r10.2.b r10.2.c.v (w64 ((w64 (r3.1 * 256)) + r10.1))
  else
   vX F x2 r3.2.a r3.2.b r3.2.c.v r3.1
theorem t69 (H:H69 D σ F) (x1:CC) (x2:Int) (s:Nat→V) (hs:zr [(0,bC x1.v),(1,ji x2)] s) (h:yj F x1 x2=some r):Run D σ (R69 r) (.run A69 []) s:=by
 unfold yj at h
 obtain ⟨h0,h1⟩:=hs
 refine .seq (rg (g0 (ji 0) fun h4=>gq (.nsq (.seq (.seq (rg (gm h1 fun h6=>g1 6 (jb (decide (x2≤1))) h6 fun h7=>gq (.nsq (zn h7 h (fun h=>?_) (fun h=>?_))))))))))
 · refine .seq (rg (g0 (ji 0) fun h4=>gq (.nsq (.ret ?_))))
   obtain rfl:=oi h
   exact rt1 (t:=0) (zm h4) h0
 refine .skip (.nsq (.seq (rg (gm h0 fun h8=>?_))))
 obtain ⟨r3,Er3,h⟩:=zc h
 refine vf (r:=zO) (b:=0) (x:=x1.v) (x':=r3.2) (vs:=[]) (res:=Enc.enc (r3.1:Int)) h0 (by exact (zJ (v:=cuV zO x1.v) h8 rfl yp)) yk (fun f=>zx) (H.c83 _ _ Er3) H.g83 te rfl (fun s1 hb1 ha1=>gm (rf (ji r3.1)) fun h5=>gz [(0,_),(1,ji x2),(4,ji 0),(5,_)] ⟨(show s1 0=(bC r3.2) from hb1 0 h0),(show s1 1=(ji x2) from ha1 1 _ _ h1 rfl mi),(show s1 4=(ji 0) from ha1 4 _ _ h4 rfl mi),h5⟩ ?_)
 rintro s ⟨h0,h1,h4,h5⟩
 refine .nsq (.seq (.seq (rg (gm h1 fun h10=>g1 10 (jb (decide (x2 > 200))) h10 fun h11=>gq (.nsq (zn h11 h (fun h=>?_) (fun h=>?_)))))))
 · refine rg (gm h5 fun h12=>g1 12 (ji (w64 (r3.1 * 256))) h12 fun h13=>gm h0 fun h14=>?_)
   obtain ⟨r10,Er10,h⟩:=zc h
   refine vf (r:=zO) (b:=0) (x:=r3.2) (x':=r10.2) (vs:=[]) (res:=Enc.enc (r10.1:Int)) h0 (by exact (zJ (v:=cuV zO r3.2) h14 rfl yp)) yk (fun f=>zx) (H.c83 _ _ Er10) H.g83 te rfl (fun s3 hb3 ha3=>g2 13 15 (ji (w64 ((w64 (r3.1 * 256)) + r10.1))) (show s3 13=(ji (w64 (r3.1 * 256))) from ha3 13 _ _ h13 rfl mi) (rf (ji r10.1)) fun h16=>gm h16 fun h5=>gz [(0,_),(1,ji x2),(4,ji 0),(5,_)] ⟨(show s3 0=(bC r10.2) from hb3 0 h0),(show s3 1=(ji x2) from ha3 1 _ _ h1 rfl mi),(show s3 4=(ji 0) from ha3 4 _ _ h4 rfl mi),h5⟩ ?_)
   rintro s ⟨h0,h1,h4,h5⟩
   exact zcL H x2 r10.2.a r10.2.b r10.2.c.v (w64 ((w64 (r3.1 * 256)) + r10.1)) _ ⟨h0,h1,h4,h5⟩ h
 refine .skip ?_
 exact zcL H x2 r3.2.a r3.2.b r3.2.c.v r3.1 _ ⟨h0,h1,h4,h5⟩ h
end
def e69 (F:Nat):Ent:=ent 69 (fun (x:(CC×Int×Unit))=>yj F x.1 x.2.1) (fun (r:(Int×CU))=>(.tup [Enc.enc (r.1:Int),.tup [cuV zO r.2]])) uK false []
abbrev C69 (D:List V→Option V) (F:Nat):Prop:=∀ (x0:CC) (x1:Int) r,yj F x0 x1=some r→D [Arg.arg x0,Enc.enc x1]=some (.tup [Enc.enc (r.1:Int),.tup [cuV zO r.2]])
theorem p69 {F:Nat}:C69 (e69 F).den F:=fun x0 x1 _ h=>zS (x0,x1,()) h
theorem o69 (hF:zG Try.prog D σ) (H:H69 D σ F):(e69 F).Ok Try.prog:=okZ (f:=69) Try.func69 fun ⟨x0,x1,_⟩ y hy=>cT hF Try.func69 c69 (t69 H x0 x1 _ ⟨rfl,rfl⟩ hy)
def ztV:AC:=(.seq (rr [jm 5 1,jm 6 0,jm 7 1,jk 8 7,jx 9 (.callT (jf 69) [.t 6,.t 8] [0] []),jv 10 (.idx (.t 5) (.t 9) 1),jl 11 10,jm 4 11]) .ret)
def A70:AC:=(.seq (rr [jv 4 (.mov (jn 0))]) ztV)
def zwb:List An:=[⟨1,[],[],[5000000],[]⟩]
theorem c70:cq Try.prog Try.f70 zwb=some A70:=by kernel_rfl
structure H70 (D:Den) (σ:Sig) (F:Nat):Prop where
 c69:C69 (D 69) F
 g69:σ 69=some (uK,false)
abbrev R70 (r:(Int×CU)):(Nat→V)→Prop:=RT Try.prog [.tmp 4] (Enc.enc (r.1:Int)) [cuV zO r.2]
section
variable {r:(Int×CU)}
def yR (F:Nat) (x1:CC) (x2:LI):Option (Int×CU):=
 (yj F (Cu.mk x1.v) (x2.length:Int)).bind fun r3=>
 (idx x2 r3.1).bind fun v4=>
 some (v4,r3.2)
theorem t70 (H:H70 D σ F) (x1:CC) (x2:LI) (s:Nat→V) (hs:zr [(0,bC x1.v),(1,eL x2)] s) (h:yR F x1 x2=some r):Run D σ (R70 r) (.run A70 []) s:=by
 unfold yR at h
 obtain ⟨h0,h1⟩:=hs
 refine .seq (rg (g0 (ji 0) fun h4=>gq (.nsq (.seq (rg (gm h1 fun h5=>gm h0 fun h6=>gm h1 fun h7=>gl x2 h7 fun h8=>?_))))))
 obtain ⟨r3,Er3,h⟩:=zc h
 refine vf (r:=zO) (b:=0) (x:=x1.v) (x':=r3.2) (vs:=[Enc.enc ((x2.length:Int):Int)]) (res:=Enc.enc (r3.1:Int)) h0 (by exact (zJ (v:=cuV zO x1.v) h6 rfl (zJ (v:=Enc.enc ((x2.length:Int):Int)) h8 rfl yp))) (yb te yk) fm1 (H.c69 _ _ _ Er3) H.g69 te rfl (fun s1 hb1 ha1=>?_)
 obtain ⟨v4,Ev4,h⟩:=zc h
 refine gv (.ref .sh 0 [] (ji v4)) (yg (t:=.sh) (lo:=0) (xs:=x2) (show s1 5=(eL x2) from ha1 5 _ _ h5 rfl me) rfl Ev4 rfl rfl) fun h10=>g1 10 (ji v4) h10 fun h11=>gm h11 fun h4=>gz [(0,_),(4,_)] ⟨(show s1 0=(bC r3.2) from hb1 0 h0),h4⟩ ?_
 rintro s ⟨h0,h4⟩
 refine .nsq (.ret ?_)
 obtain rfl:=oi h
 exact rt1 (t:=0) (zm h4) h0
end
def e70 (F:Nat):Ent:=ent 70 (fun (x:(CC×LI×Unit))=>yR F x.1 x.2.1) (fun (r:(Int×CU))=>(.tup [Enc.enc (r.1:Int),.tup [cuV zO r.2]])) uK false []
abbrev C70 (D:List V→Option V) (F:Nat):Prop:=∀ (x0:CC) (x1:LI) r,yR F x0 x1=some r→D [Arg.arg x0,Enc.enc x1]=some (.tup [Enc.enc (r.1:Int),.tup [cuV zO r.2]])
theorem p70 {F:Nat}:C70 (e70 F).den F:=fun x0 x1 _ h=>zS (x0,x1,()) h
theorem o70 (hF:zG Try.prog D σ) (H:H70 D σ F):(e70 F).Ok Try.prog:=okZ (f:=70) Try.func70 fun ⟨x0,x1,_⟩ y hy=>cT hF Try.func70 c70 (t70 H x0 x1 _ ⟨rfl,rfl⟩ hy)
def zoA:AC:=(.seq (rr [jm 5 0,jm 6 1,jx 7 (.callT (jf 69) [.t 5,.t 6] [0] []),jv 8 (.bin .eql (.t 7) (jn 0)),jm 4 8]) .ret)
def A48:AC:=(.seq (rr [jv 4 (.mov kf)]) zoA)
def zvH:List An:=[⟨1,[],[],[3000000],[]⟩]
theorem c48:cq Try.prog Try.f48 zvH=some A48:=by kernel_rfl
structure H48 (D:Den) (σ:Sig) (F:Nat):Prop where
 c69:C69 (D 69) F
 g69:σ 69=some (uK,false)
abbrev R48 (r:(Bool×CU)):(Nat→V)→Prop:=RT Try.prog [.tmp 4] (Enc.enc (r.1:Bool)) [cuV zO r.2]
section
variable {r:(Bool×CU)}
def xY (F:Nat) (x1:CC) (x2:Int):Option (Bool×CU):=
 (yj F (Cu.mk x1.v) x2).bind fun r3=>
 some ((r3.1 == 0),r3.2)
theorem t48 (H:H48 D σ F) (x1:CC) (x2:Int) (s:Nat→V) (hs:zr [(0,bC x1.v),(1,ji x2)] s) (h:xY F x1 x2=some r):Run D σ (R48 r) (.run A48 []) s:=by
 unfold xY at h
 obtain ⟨h0,h1⟩:=hs
 refine .seq (rg (g0 (jb false) fun h4=>gq (.nsq (.seq (rg (gm h0 fun h5=>gm h1 fun h6=>?_))))))
 obtain ⟨r3,Er3,h⟩:=zc h
 refine vf (r:=zO) (b:=0) (x:=x1.v) (x':=r3.2) (vs:=[Enc.enc (x2:Int)]) (res:=Enc.enc (r3.1:Int)) h0 (by exact (zJ (v:=cuV zO x1.v) h5 rfl (zJ (v:=Enc.enc (x2:Int)) h6 rfl yp))) (yb te yk) fm1 (H.c69 _ _ _ Er3) H.g69 te rfl (fun s1 hb1 ha1=>g1 7 (jb (r3.1 == 0)) (rf (ji r3.1)) fun h8=>gm h8 fun h4=>gz [(0,_),(4,_)] ⟨(show s1 0=(bC r3.2) from hb1 0 h0),h4⟩ ?_)
 rintro s ⟨h0,h4⟩
 refine .nsq (.ret ?_)
 obtain rfl:=oi h
 exact rt1 (t:=0) (zm h4) h0
end
def e48 (F:Nat):Ent:=ent 48 (fun (x:(CC×Int×Unit))=>xY F x.1 x.2.1) (fun (r:(Bool×CU))=>(.tup [Enc.enc (r.1:Bool),.tup [cuV zO r.2]])) uK false []
abbrev C48 (D:List V→Option V) (F:Nat):Prop:=∀ (x0:CC) (x1:Int) r,xY F x0 x1=some r→D [Arg.arg x0,Enc.enc x1]=some (.tup [Enc.enc (r.1:Bool),.tup [cuV zO r.2]])
theorem p48 {F:Nat}:C48 (e48 F).den F:=fun x0 x1 _ h=>zS (x0,x1,()) h
theorem o48 (hF:zG Try.prog D σ) (H:H48 D σ F):(e48 F).Ok Try.prog:=okZ (f:=48) Try.func48 fun ⟨x0,x1,_⟩ y hy=>cT hF Try.func48 c48 (t48 H x0 x1 _ ⟨rfl,rfl⟩ hy)
def zsU:AC:=(.cond (.t 7) (.seq (rr [jm 8 0,jm 4 8]) .ret) .skip)
def zsb:AC:=(.seq (rr [jm 9 1,jm 4 9]) .ret)
def zqb:AC:=(.seq (.seq (rr [jm 5 0,jm 6 1,jv 7 (.bin .lss (.t 5) (.t 6))]) zsU) zsb)
def A68:AC:=(.seq (rr [jv 4 (.mov (jn 0))]) zqb)
def zvi:List An:=[]
theorem c68:cq Try.prog Try.f68 zvi=some A68:=by kernel_rfl
structure H68 (D:Den) (σ:Sig) (F:Nat):Prop where
 mk ::
abbrev R68 (r:Int):(Nat→V)→Prop:=RR Try.prog [.tmp 4] 0 false (Enc.enc (r:Int))
section
variable {r:Int}
def YK (F:Nat) (x1:Int) (x2:Int):Option Int:=
 bif decide (x1 < x2) then
  some x1
 else
  some x2
theorem t68 (H:H68 D σ F) (x1:Int) (x2:Int) (s:Nat→V) (hs:zr [(0,ji x1),(1,ji x2)] s) (h:YK F x1 x2=some r):Run D σ (R68 r) (.run A68 []) s:=by
 unfold YK at h
 obtain ⟨h0,h1⟩:=hs
 refine .seq (rg (g0 (ji 0) fun h4=>gq (.nsq (.seq (.seq (rg (gm h0 fun h5=>gm h1 fun h6=>g2 5 6 (jb (decide (x1 < x2))) h5 h6 fun h7=>gq (.nsq (zn h7 h (fun h=>?_) (fun h=>?_))))))))))
 · refine .seq (rg (gm h0 fun h8=>gm h8 fun h4=>gq (.nsq (.ret ?_))))
   obtain rfl:=oi h
   exact rrA (zm h4) rfl
 refine .skip (.nsq (.seq (rg (gm h1 fun h9=>gm h9 fun h4=>gq (.nsq (.ret ?_))))))
 obtain rfl:=oi h
 exact rrA (zm h4) rfl
end
def e68 (F:Nat):Ent:=ent 68 (fun (x:(Int×Int×Unit))=>YK F x.1 x.2.1) (fun (r:Int)=>(Enc.enc (r:Int))) 0 false []
abbrev C68 (D:List V→Option V) (F:Nat):Prop:=∀ (x0:Int) (x1:Int) r,YK F x0 x1=some r→D [Enc.enc x0,Enc.enc x1]=some (Enc.enc (r:Int))
theorem p68 {F:Nat}:C68 (e68 F).den F:=fun x0 x1 _ h=>zS (x0,x1,()) h
theorem o68 (hF:zG Try.prog D σ) (H:H68 D σ F):(e68 F).Ok Try.prog:=okZ (f:=68) Try.func68 fun ⟨x0,x1,_⟩ y hy=>cR hF Try.func68 c68 (t68 H x0 x1 _ ⟨rfl,rfl⟩ hy)
def znn:AC:=(.cond (.t 11) .skip (.exit 0))
def zl8:AC:=(rr [jm 12 4,jv 13 (.bin .add (.t 12) (jn 1)),jm 4 13])
def zmB:AC:=(.seq (.block 1 (.reg [.clr [20,21]] [jv 14 (.fld (.t 3) 1 1),jv 15 (.load .p (.t 14)),jm 16 4,jm 17 4,jv 18 (.bin .add (.t 17) (jn 1)),jv 19 (.bld (.agg [i0,i0]) [(0,0,.t 16),(1,1,.t 18)]),jx 20 (.lit (.agg [i0,i0]) 1 [(0,0,.t 19)]),jx 21 (.app (.ag [.s,.s]) (.t 15) (.t 20)),jv 22 (.fld (.t 3) 1 1),jz (.store .p (.t 22) (.t 21))] [.drp 6,.home 21 6])) zl8)
def zdB:AC:=(.seq (.seq (rr [jm 8 4,jv 9 (.bin .add (.t 8) (jn 1)),jm 10 0,jv 11 (.bin .lss (.t 9) (.t 10))]) znn) zmB)
def zja:AC:=(.seq (rr [jv 23 (.load (.ag [.s,.p]) (.t 3)),jz (.store (.ag [.s,.p]) (.t 2) (.t 23))]) .ret)
def znU:AC:=(.block 0 (.loop zdB))
def zoj:AC:=(.seq (.seq (rr [jv 4 (.mov (jn 0))]) znU) zja)
def znl:AC:=(.seq (.reg [.clr [6,3]] [jm 5 0,jx 6 (.lit (.agg [i0,i0]) 0 []),jv 7 (.bld (.agg [i0,.sl .nl (.ag [.s,.s]) 0 []]) [(0,0,.t 5),(1,1,.t 6)]),jx 3 (.alloc (.agg [i0,.sl .nl (.ag [.s,.s]) 0 []])),jz (.store (.ag [.s,.p]) (.t 3) (.t 7))] []) zoj)
def zpK:AC:=(.seq (.reg [.clr [2]] [jx 2 (.alloc (.agg [i0,.sl .nl (.ag [.s,.s]) 0 []]))] []) znl)
def zrF:List An:=[⟨0,[.clr [2]],[],[],[]⟩,⟨1,[.clr [6,3]],[],[],[]⟩,⟨5,[.clr [20,21]],[],[],[.drp 6,.home 21 6]⟩]
theorem c78o:cq Try.prog Try.f78 zrF=some zpK:=by kernel_rfl
structure zl9 (D:Den) (σ:Sig) (F:Nat):Prop where
 mk ::
abbrev zr8 (r:(Int×(NL (Int×Int)))):(Nat→V)→Prop:=RR Try.prog [.cell 2 26] 1 false (.agg [Enc.enc (r.1:Int),zu .sh (r.2:NL (Int×Int))])
section
variable {r:(Int×(NL (Int×Int)))}
def Xr (F:Nat) (x1:Int) :Nat→TP→Int→Option (Int×(NL (Int×Int)))
 | 0,_,_=>none
 | k + 1,x3,x4=>
   bif decide ((w64 (x4 + 1)) < x1) then
    (vz x3 [(x4,w64 (x4 + 1))]).bind fun ap6=>
    (Xr F x1 k) ap6 (w64 (x4 + 1))
   else
    some (x1,.of x3)
theorem zf8 (H:zl9 D σ F) (x1:Int) :∀ (k:Nat) (x3:TP) (x4:Int) (s:Nat→V),zr [(0,ji x1),(2,bZ 2),(3,.ref (.bx 3) 0 [] (.agg [ji x1,zu (.at 6 []) (.of (x3:TP))])),(4,ji x4)] s→Xr F x1 k x3 x4=some r→Run D σ (zr8 r) (.run zdB [.lp zdB,.bk 0,.sq zja]) s:=by
 intro k
 induction k with
 | zero=>intro x3 x4 s _ h;exact nm h
 | succ k ih=>
   intro x3 x4 s hs h
   rw [Xr] at h
   obtain ⟨h0,h2,h3,h4⟩:=hs
   refine .seq (.seq (rg (gm h4 fun h8=>g1 8 (ji (w64 (x4 + 1))) h8 fun h9=>gm h0 fun h10=>g2 9 10 (jb (decide ((w64 (x4 + 1)) < x1))) h9 h10 fun h11=>gq (.nsq (zn h11 h (fun h=>?_) (fun h=>?_))))))
   · refine .skip (.nsq (.seq (.block (zw (zW ?_)))))
     refine ez [(0,_),(2,_),(3,_),(4,_),(20,_),(21,_)] ⟨za h0 rfl mi,za h2 rfl (zj rfl (mIx rfl)),za h3 rfl (zj rfl (zM (zg mi (zg (zl (r:=6) (p:=[]) rfl rfl) zx)))),za h4 rfl mi,ze rfl,ze rfl⟩ ?_
     rintro s ⟨h0,h2,h3,h4,h20,h21⟩
     refine g1 3 (.ref (.bx 3) 0 [1] (zu (.at 6 []) (.of (x3:TP)))) h3 fun h14=>g1 14 (zu (.at 6 []) (.of (x3:TP))) h14 fun h15=>gm h4 fun h16=>gm h4 fun h17=>g1 17 (ji (w64 (x4 + 1))) h17 fun h18=>g2 16 18 (.agg [ji x4,ji (w64 (x4 + 1))]) h16 h18 fun h19=>xb [(19,.agg [ji x4,ji (w64 (x4 + 1))])] [Enc.enc ((x4,w64 (x4 + 1)):(Int×Int))] h19 rfl rfl h20 ?_
     obtain ⟨ap6,Eap6,h⟩:=zc h
     refine Z0 (q:=6) (p:=[]) (o:=.of (x3:TP)) (ys:=([(x4,w64 (x4 + 1))]:TP)) (t2:=.at 20 []) (lo2:=0) h15 rfl rfl h21 (vK (o:=.of (x3:TP)) Eap6 trivial) (fun s12 ha12=>g1 3 (.ref (.bx 3) 0 [1] (kdO ((.of x3):NL (Int×Int)))) (show s12 3=(.ref (.bx 3) 0 [] (.agg [ji x1,kdO ((.of x3):NL (Int×Int))])) from YH ha12 h3 (zj rfl (zM (zg mi (zg WN zx)))) (by intro h;first | (cases h;done) | (subst h;rfl))) fun h22=>z5 (zu (.at 21 []) (.of (ap6:TP))) (zB h22 rfl) (zB rfl rfl) ⟨by decide,by decide,rfl,rfl,L7,WF rfl rfl⟩ (yK (Jt (x:=6) (fun s13 hx_13 hd_13=>?_))))
     refine yo (r:=21) (x:=6) (v:=_) (by exact hx_13) rfl (fun s14 hz14=>?_)
     refine ez [(0,ji x1),(2,bZ 2),(3,.ref (.bx 3) 0 [] (.agg [ji x1,zu (.at 6 []) (.of (ap6:TP))])),(4,ji x4)] ⟨hz14 0 _ _ (show s13 0=(ji x1) from (hd_13 0 (by decide)).trans (zd (show s12 0=(ji x1) from zy ha12 h0 mi) rfl)) mi,hz14 2 _ _ (show s13 2=(bZ 2) from (hd_13 2 (by decide)).trans (zd (show s12 2=(bZ 2) from zy ha12 h2 (zj rfl (mIx rfl))) (zH rfl rfl (yJ (zF rfl (zF rfl rfl)))))) (zj rfl (mIx rfl)),hz14 3 _ (.ref (.bx 3) 0 [] (.agg [ji x1,zu (.at 6 []) (.of (ap6:TP))])) (show s13 3=(.ref (.bx 3) 0 [] (.agg [ji x1,zu (.at 21 []) (.of (ap6:TP))])) from (hd_13 3 (by decide)).trans (zd (show s12 3=(.ref (.bx 3) 0 [] (.agg [ji x1,kdO ((.of x3):NL (Int×Int))])) from YH ha12 h3 (zj rfl (zM (zg mi (zg WN zx)))) (by intro h;first | (cases h;done) | (subst h;rfl))) (UH (zF rfl (zF Mf rfl))))) (zj rfl (zM (zg mi (zg (zl (r:=21) (p:=[]) rfl rfl) zx)))),hz14 4 _ _ (show s13 4=(ji x4) from (hd_13 4 (by decide)).trans (zd (show s12 4=(ji x4) from zy ha12 h4 mi) rfl)) mi⟩ ?_
     rintro s ⟨h0,h2,h3,h4⟩
     refine .nbk (.nsq (rg (gm h4 fun h12=>g1 12 (ji (w64 (x4 + 1))) h12 fun h13=>gm h13 fun h4=>gq (.nlp ?_))))
     exact ih ap6 (w64 (x4 + 1)) _ ⟨h0,h2,h3,h4⟩ h
   refine .exit (.esq (.elp (.ebk (.nsq (.seq (rg (g1 3 (.agg [ji x1,zu (.at 6 []) (.of (x3:TP))]) h3 fun h23=>z5 (.agg [ji x1,zu (.at 6 []) (.of (x3:TP))]) (zB h2 rfl) (zB h23 rfl) (xo (by first | rfl | simp [V.toks,V.tokss,Enc.toks_enc,zY])) (gz [(2,.ref (.bx 2) 0 [] (.agg [ji x1,zu (.at 6 []) (.of (x3:TP))]))] (zd h2 rfl) ?_))))))))
   rintro s h2
   refine .nsq (.ret ?_)
   obtain rfl:=oi h
   exact rrA (xZ h2 (by kernel_rfl)) (Km (Nv (Xd MM (Xd (KE (o:=((.of x3):NL (Int×Int)))) La))) rfl (Kv (yN rfl (yN (vB rfl) vr))))
def Yq (F:Nat) (x1:Int):Option (Int×(NL (Int×Int))):=
 Xr F x1 F [] 0
theorem zv0 (H:zl9 D σ F) (x1:Int) (s:Nat→V) (hs:zr [(0,ji x1)] s) (h:Yq F x1=some r):Run D σ (zr8 r) (.run zpK []) s:=by
 unfold Yq at h
 have h0:=hs
 refine .seq (zw (zW ?_))
 refine ez [(0,_),(2,_)] ⟨za h0 rfl mi,ze rfl⟩ ?_
 rintro s ⟨h0,h2⟩
 refine y9 h2 (gq (.nsq (.seq (zw (zW ?_)))))
 refine ez [(0,_),(2,_),(3,_),(6,_)] ⟨za h0 rfl mi,za rfl rfl (zj rfl (mIx rfl)),ze rfl,ze rfl⟩ ?_
 rintro s ⟨h0,h2,h3,h6⟩
 refine gm h0 fun h5=>xb [] [] trivial rfl rfl h6 (g2 5 6 (.agg [ji x1,zu (.at 6 []) (.of ([]:TP))]) h5 (rf (zu (.at 6 []) (.of ([]:TP)))) fun h7=>y9 h3 (z5 (.agg [ji x1,zu (.at 6 []) (.of ([]:TP))]) (zB rfl rfl) (zB h7 rfl) (xo (by first | rfl | simp [V.toks,V.tokss,Enc.toks_enc,zY])) (gz [(0,ji x1),(2,bZ 2),(3,.ref (.bx 3) 0 [] (.agg [ji x1,zu (.at 6 []) (.of ([]:TP))]))] ⟨zd h0 rfl,zd h2 (zH rfl rfl (yJ (zF rfl (zF rfl rfl)))),zd rfl rfl⟩ ?_)))
 rintro s ⟨h0,h2,h3⟩
 refine .nsq (.seq (.seq (rg (g0 (ji 0) fun h4=>gq (.nsq (.block (.loop ?_)))))))
 exact zf8 H x1 F [] 0 _ ⟨h0,h2,h3,h4⟩ h
end
def znC (F:Nat):Ent:=ent 1000000078 (fun (x:(Int×Unit))=>Yq F x.1) (fun (r:(Int×(NL (Int×Int))))=>(.agg [Enc.enc (r.1:Int),zu .sh (r.2:NL (Int×Int))])) 1 false []
abbrev zm4 (D:List V→Option V) (F:Nat):Prop:=∀ (x0:Int) r,Yq F x0=some r→D [Enc.enc x0]=some (.agg [Enc.enc (r.1:Int),zu .sh (r.2:NL (Int×Int))])
theorem zr6 {F:Nat}:zm4 (znC F).den F:=fun x0 _ h=>zS (x0,()) h
theorem zvK (hF:zG Try.prog D σ) (H:zl9 D σ F):(znC F).Ok Try.prog:=okZ (f:=78) Try.func78 fun ⟨x0,_⟩ y hy=>cR hF Try.func78 c78o (zv0 H x0 _ rfl hy)
def zsg:AC:=(.seq (rr [jv 5 (.idxA (.t 2) (jn 0) 2 1),jl 6 5,jv 7 (.idxA (.t 3) (jn 0) 2 1),jl 8 7,jv 9 (.bin .lss (.t 6) (.t 8)),jm 10 9,jg 11 10 false (.idxA (.t 2) (jn 0) 2 1),jg 12 10 false (.load .s (.t 11)),jg 13 10 false (.idxA (.t 3) (jn 0) 2 1),jg 14 10 false (.load .s (.t 13)),jg 15 10 false (.bin .eql (.t 12) (.t 14)),jg 16 10 false (.mov (.t 15)),jg 17 16 true (.idxA (.t 2) (jn 1) 2 1),jg 18 16 true (.load .s (.t 17)),jg 19 16 true (.idxA (.t 3) (jn 1) 2 1),jg 20 16 true (.load .s (.t 19)),jg 21 16 true (.bin .lss (.t 18) (.t 20)),jg 22 10 false (.pick (.t 16) (.t 21) kf),jv 23 (.pick (.t 10) kt (.t 22)),jm 4 23]) .ret)
def A51:AC:=(.seq (.reg [.clr [2,3]] [jx 2 (.box (.t 0)),jx 3 (.box (.t 1)),jv 4 (.mov kf)] []) zsg)
def zuu:List An:=[⟨0,[.clr [2,3]],[],[],[]⟩]
theorem c51:cq Try.prog Try.f51 zuu=some A51:=by kernel_rfl
structure H51 (D:Den) (σ:Sig) (F:Nat):Prop where
 mk ::
abbrev R51 (r:Bool):(Nat→V)→Prop:=RR Try.prog [.tmp 4] 0 false (Enc.enc (r:Bool))
section
variable {r:Bool}
def ZK (F:Nat) (x1:(Int×Int)) (x2:(Int×Int)):Option Bool:=
 bif decide (x1.1 < x2.1) then
  some true
 else
  bif (x1.1 == x2.1) then
   some (decide (x1.2 < x2.2))
  else
   some false
theorem t51 (H:H51 D σ F) (x1:(Int×Int)) (x2:(Int×Int)) (s:Nat→V) (hs:zr [(0,.agg [ji x1.1,ji x1.2]),(1,.agg [ji x2.1,ji x2.2])] s) (h:ZK F x1 x2=some r):Run D σ (R51 r) (.run A51 []) s:=by
 unfold ZK at h
 obtain ⟨h0,h1⟩:=hs
 refine .seq (zw (zW ?_))
 refine ez [(0,_),(1,_),(2,_),(3,_)] ⟨za h0 rfl mII,za h1 rfl mII,ze rfl,ze rfl⟩ ?_
 rintro s ⟨h0,h1,h2,h3⟩
 refine xn (.agg [ji x1.1,ji x1.2]) (zB h0 rfl) h2 rfl (xn (.agg [ji x2.1,ji x2.2]) (zB h1 rfl) h3 rfl (g0 (jb false) fun h4=>gq (.nsq (.seq (rg (g1 2 (.ref (.bx 2) 0 [0] (ji x1.1)) (rf (.ref (.bx 2) 0 [] (.agg [ji x1.1,ji x1.2]))) fun h5=>g1 5 (ji x1.1) h5 fun h6=>g1 3 (.ref (.bx 3) 0 [0] (ji x2.1)) (rf (.ref (.bx 3) 0 [] (.agg [ji x2.1,ji x2.2]))) fun h7=>g1 7 (ji x2.1) h7 fun h8=>g2 6 8 (jb (decide (x1.1 < x2.1))) h6 h8 fun h9=>gm h9 fun h10=>zX h (fun hg6 h=>?_) (fun hg6 h=>?_)))))))
 · iterate 6 refine yq (ct h10 hg6) ?_
   iterate 5 refine XO rfl ?_
   refine yq (ct h10 hg6) (g2 10 22 (jb true) (ct h10 hg6) (rf (.tup [])) fun h23=>gm h23 fun h4=>gq (.nsq (.ret ?_)))
   obtain rfl:=oi h
   exact rrA (zm h4) rfl
 refine zp (ct h10 hg6) (g1 2 (.ref (.bx 2) 0 [0] (ji x1.1)) (rf (.ref (.bx 2) 0 [] (.agg [ji x1.1,ji x1.2]))) fun h11=>zp (ct h10 hg6) (g1 11 (ji x1.1) h11 fun h12=>zp (ct h10 hg6) (g1 3 (.ref (.bx 3) 0 [0] (ji x2.1)) (rf (.ref (.bx 3) 0 [] (.agg [ji x2.1,ji x2.2]))) fun h13=>zp (ct h10 hg6) (g1 13 (ji x2.1) h13 fun h14=>zp (ct h10 hg6) (g2 12 14 (jb (x1.1 == x2.1)) h12 h14 fun h15=>zp (ct h10 hg6) (gm h15 fun h16=>zX h (fun hg12 h=>?_) (fun hg12 h=>?_)))))))
 · refine zp (ct h16 hg12) (g1 2 (.ref (.bx 2) 0 [1] (ji x1.2)) (rf (.ref (.bx 2) 0 [] (.agg [ji x1.1,ji x1.2]))) fun h17=>zp (ct h16 hg12) (g1 17 (ji x1.2) h17 fun h18=>zp (ct h16 hg12) (g1 3 (.ref (.bx 3) 0 [1] (ji x2.2)) (rf (.ref (.bx 3) 0 [] (.agg [ji x2.1,ji x2.2]))) fun h19=>zp (ct h16 hg12) (g1 19 (ji x2.2) h19 fun h20=>zp (ct h16 hg12) (g2 18 20 (jb (decide (x1.2 < x2.2))) h18 h20 fun h21=>zp (ct h10 hg6) (g2 16 21 (jb (decide (x1.2 < x2.2))) (ct h16 hg12) h21 fun h22=>g2 10 22 (jb (decide (x1.2 < x2.2))) (ct h10 hg6) h22 fun h23=>gm h23 fun h4=>gq (.nsq (.ret ?_))))))))
   obtain rfl:=oi h
   exact rrA (zm h4) rfl
 iterate 5 refine yq (ct h16 hg12) ?_
 refine zp (ct h10 hg6) (g2 16 21 (jb false) (ct h16 hg12) (rf (.tup [])) fun h22=>g2 10 22 (jb false) (ct h10 hg6) h22 fun h23=>gm h23 fun h4=>gq (.nsq (.ret ?_)))
 obtain rfl:=oi h
 exact rrA (zm h4) rfl
end
def e51 (F:Nat):Ent:=ent 51 (fun (x:((Int×Int)×(Int×Int)×Unit))=>ZK F x.1 x.2.1) (fun (r:Bool)=>(Enc.enc (r:Bool))) 0 false []
abbrev C51 (D:List V→Option V) (F:Nat):Prop:=∀ (x0:(Int×Int)) (x1:(Int×Int)) r,ZK F x0 x1=some r→D [Enc.enc x0,Enc.enc x1]=some (Enc.enc (r:Bool))
theorem p51 {F:Nat}:C51 (e51 F).den F:=fun x0 x1 _ h=>zS (x0,x1,()) h
theorem o51 (hF:zG Try.prog D σ) (H:H51 D σ F):(e51 F).Ok Try.prog:=okZ (f:=51) Try.func51 fun ⟨x0,x1,_⟩ y hy=>cR hF Try.func51 c51 (t51 H x0 x1 _ ⟨rfl,rfl⟩ hy)
def zhF:AC:=(.cond (.t 17) .skip (.exit 0))
def zhG:AC:=(.block 1 (rr [jm 18 5,jv 19 (.bin .add (.t 18) (jn 1)),jm 5 19]))
def LA:AC:=(.seq (.seq (rr [jm 6 5,jm 7 0,jk 8 7,jv 9 (.bin .lss (.t 6) (.t 8)),jm 10 9,jg 11 10 true (.mov (.t 0)),jg 12 10 true (.mov (.t 5)),jg 13 10 true (.idx (.t 11) (.t 12) 2),jg 14 10 true (.load (.ag [.s,.s]) (.t 13)),jg 15 10 true (.load (.ag [.s,.s]) (.t 3)),.mk (some 16) (some (10,true)) false (.call (jf 51) [.t 14,.t 15]),jv 17 (.pick (.t 10) (.t 16) kf)]) zhF) zhG)
def zaj:AC:=(.seq (.reg [.clr [20,24,26,27,31]] [jy 20 (.lit (.agg [i0,i0]) 0 []),jm 21 0,jm 22 5,jv 23 (.slice (.t 21) none (some (.t 22)) 2),jy 24 (.appS (.ag [.s,.s]) (.t 20) (.t 23)),jv 25 (.load (.ag [.s,.s]) (.t 3)),jx 26 (.lit (.agg [i0,i0]) 1 [(0,0,.t 25)]),jy 27 (.appS (.ag [.s,.s]) (.t 24) (.t 26)),jm 28 0,jm 29 5,jv 30 (.slice (.t 28) (some (.t 29)) none 2),jx 31 (.appS (.ag [.s,.s]) (.t 27) (.t 30)),jm 4 31] [.home 31 4]) .ret)
def zmb:AC:=(.seq (.block 0 (.loop LA)) zaj)
def zm3:AC:=(.seq (rr [jv 5 (.mov (jn 0))]) zmb)
def zrU:AC:=(.seq (.reg [.clr [3]] [jx 3 (.box (.t 1)),jv 4 (.mov (.k (.sl .nl (.ag [.s,.s]) 0 [])))] []) zm3)
def zov:List An:=[⟨0,[.clr [3]],[],[],[]⟩,⟨4,[.clr [20,24,26,27,31]],[0,4,7],[4,7,11],[.home 31 4]⟩]
theorem c81o:cq Try.prog Try.f81 zov=some zrU:=by kernel_rfl
structure zjW (D:Den) (σ:Sig) (F:Nat):Prop where
 c51:C51 (D 51) F
 g51:σ 51=some (0,false)
abbrev zkh (r:(NL (Int×Int))):(Nat→V)→Prop:=RR Try.prog [.tmp 4] 1 false (zu .sh (r:NL (Int×Int)))
section
variable {r:(NL (Int×Int))}
def uZ (F:Nat) (x1:TP) (v2:(Int×Int)) (x8:Int) (c1:Int→Option (NL (Int×Int))) (x16:Bool):Option (NL (Int×Int)):=
 bif x16 then
  c1 (w64 (x8 + 1))
 else
  (sub x1 0 x8).bind fun sub17=>
  (vz [] sub17).bind fun ap18=>
  (vz ap18 [v2]).bind fun ap19=>
  (sub x1 x8 (x1.length:Int)).bind fun sub20=>
  (vz ap19 sub20).bind fun ap21=>
  some (.of ap21)
theorem N6 (H:zjW D σ F) (x1:TP) (v2:(Int×Int)) (x8:Int) (c1:Int→Option (NL (Int×Int))) (Hc1:∀ (x8:Int) (s:Nat→V),zr [(0,eP x1),(3,.ref (.bx 3) 0 [] (.agg [ji v2.1,ji v2.2])),(4,nP),(5,ji x8)] s→c1 x8=some r→Run D σ (zkh r) (.run LA [.lp LA,.bk 0,.sq zaj]) s) (x16:Bool) (s:Nat→V) (hs:zr [(0,eP x1),(3,.ref (.bx 3) 0 [] (.agg [ji v2.1,ji v2.2])),(4,nP),(5,ji x8),(17,jb x16)] s) (h:uZ F x1 v2 x8 c1 x16=some r):Run D σ (zkh r) (.nrm [.sq zhF,.sq zhG,.lp LA,.bk 0,.sq zaj]) s:=by
 unfold uZ at h
 obtain ⟨h0,h3,h4,h5,h17⟩:=hs
 refine .nsq (zn h17 h (fun h=>?_) (fun h=>?_))
 · refine .skip (.nsq (.block (rg (gm h5 fun h18=>g1 18 (ji (w64 (x8 + 1))) h18 fun h19=>gm h19 fun h5=>gq (.nbk (.nlp ?_))))))
   exact Hc1 (w64 (x8 + 1)) _ ⟨h0,h3,h4,h5⟩ h
 refine .exit (.esq (.elp (.ebk (.nsq (.seq (zw (zW ?_)))))))
 refine ez [(0,_),(3,_),(4,_),(5,_),(20,_),(24,_),(26,_),(27,_),(31,_)] ⟨za h0 rfl me,za h3 rfl (zj rfl mII),za h4 rfl rfl,za h5 rfl mi,ze rfl,ze rfl,ze rfl,ze rfl,ze rfl⟩ ?_
 rintro s ⟨h0,h3,h4,h5,h20,h24,h26,h27,h31⟩
 refine zaz [] [] trivial rfl rfl h20 (gm h0 fun h21=>gm h5 fun h22=>?_)
 obtain ⟨sub17,Esub17,h⟩:=zc h
 refine gv (eP sub17) (W6 (xs:=x1) h21 (YN) (YD h22) Esub17 rfl) fun h23=>?_
 obtain ⟨ap18,Eap18,h⟩:=zc h
 refine UT (p:=[]) (xs:=[]) (ys:=(sub17:TP)) (t2:=.sh) (lo2:=0) rfl h23 rfl h24 rfl Eap18 (g1 3 (.agg [ji v2.1,ji v2.2]) h3 fun h25=>xb [(25,.agg [ji v2.1,ji v2.2])] [Enc.enc (v2:(Int×Int))] h25 rfl rfl h26 ?_)
 obtain ⟨ap19,Eap19,h⟩:=zc h
 refine UT (p:=[]) (xs:=ap18) (ys:=([v2]:TP)) (t2:=.at 26 []) (lo2:=0) rfl rfl rfl h27 rfl Eap19 (gm h0 fun h28=>gm h5 fun h29=>?_)
 obtain ⟨sub20,Esub20,h⟩:=zc h
 refine gv (eP sub20) (W6 (xs:=x1) h28 (YD h29) (YN) Esub20 rfl) fun h30=>?_
 obtain ⟨ap21,Eap21,h⟩:=zc h
 refine UT (p:=[]) (xs:=ap19) (ys:=(sub20:TP)) (t2:=.sh) (lo2:=0) rfl h30 rfl h31 rfl Eap21 (gm (rf (zu (.at 31 []) (.of (ap21:TP)))) fun h4=>yK (yo (r:=31) (x:=4) (v:=_) h4 rfl (fun s3 hz3=>?_)))
 refine ez [(4,zu (.at 4 []) (.of (ap21:TP)))] (hz3 4 _ _ h4 (zl (r:=31) (p:=[]) rfl rfl)) ?_
 rintro s h4
 refine .nsq (.ret ?_)
 obtain rfl:=oi h
 exact rrA (zm h4) (Km (KE (o:=((.of ap21):NL (Int×Int)))) rfl (vB rfl))
def wl (F:Nat) (x1:TP) (v2:(Int×Int)) :Nat→Int→Option (NL (Int×Int))
 | 0,_=>none
 | k + 1,x8=>
   bif decide (x8 < (x1.length:Int)) then
    (idx x1 x8).bind fun v22=>
    (ZK F v22 v2).bind fun r23=>
    uZ F x1 v2 x8 (wl F x1 v2 k) r23
   else
    uZ F x1 v2 x8 (wl F x1 v2 k) false
theorem zgo (H:zjW D σ F) (x1:TP) (v2:(Int×Int)) :∀ (k:Nat) (x8:Int) (s:Nat→V),zr [(0,eP x1),(3,.ref (.bx 3) 0 [] (.agg [ji v2.1,ji v2.2])),(4,nP),(5,ji x8)] s→wl F x1 v2 k x8=some r→Run D σ (zkh r) (.run LA [.lp LA,.bk 0,.sq zaj]) s:=by
 intro k
 induction k with
 | zero=>intro x8 s _ h;exact nm h
 | succ k ih=>
   intro x8 s hs h
   rw [wl] at h
   obtain ⟨h0,h3,h4,h5⟩:=hs
   refine .seq (.seq (rg (gm h5 fun h6=>gm h0 fun h7=>gl x1 h7 fun h8=>g2 6 8 (jb (decide (x8 < (x1.length:Int)))) h6 h8 fun h9=>gm h9 fun h10=>zX h (fun hg5 h=>?_) (fun hg5 h=>?_))))
   · refine zp (ct h10 hg5) (gm h0 fun h11=>zp (ct h10 hg5) (gm h5 fun h12=>?_))
     obtain ⟨v22,Ev22,h⟩:=zc h
     refine zp (ct h10 hg5) (gv (.ref .sh 0 [] (.agg [ji v22.1,ji v22.2])) (yg (t:=.sh) (lo:=0) (xs:=x1) h11 h12 Ev22 rfl rfl) fun h13=>zp (ct h10 hg5) (g1 13 (.agg [ji v22.1,ji v22.2]) h13 fun h14=>zp (ct h10 hg5) (g1 3 (.agg [ji v2.1,ji v2.2]) h3 fun h15=>?_)))
     obtain ⟨r23,Er23,h⟩:=zc h
     refine zp (ct h10 hg5) (gcF [Enc.enc (v22:(Int×Int)),Enc.enc (v2:(Int×Int))] (zf h14 rfl (Enc.erase_enc (v22:(Int×Int))) (zf h15 rfl (Enc.erase_enc (v2:(Int×Int))) zC)) (H.c51 _ _ _ Er23) H.g51 (g2 10 16 (jb r23) (ct h10 hg5) (rf (jb r23)) fun h17=>gq ?_))
     exact N6 H x1 v2 x8 (wl F x1 v2 k) ih r23 _ ⟨h0,h3,h4,h5,h17⟩ h
   iterate 6 refine yq (ct h10 hg5) ?_
   refine g2 10 16 (jb false) (ct h10 hg5) (rf (.tup [])) fun h17=>gq ?_
   exact N6 H x1 v2 x8 (wl F x1 v2 k) ih false _ ⟨h0,h3,h4,h5,h17⟩ h
def ZS (F:Nat) (x1:TP) (v2:(Int×Int)):Option (NL (Int×Int)):=
 wl F x1 v2 F 0
theorem zuG (H:zjW D σ F) (x1:TP) (v2:(Int×Int)) (s:Nat→V) (hs:zr [(0,eP x1),(1,.agg [ji v2.1,ji v2.2])] s) (h:ZS F x1 v2=some r):Run D σ (zkh r) (.run zrU []) s:=by
 unfold ZS at h
 obtain ⟨h0,h1⟩:=hs
 refine .seq (zw (zW ?_))
 refine ez [(0,_),(1,_),(3,_)] ⟨za h0 rfl me,za h1 rfl mII,ze rfl⟩ ?_
 rintro s ⟨h0,h1,h3⟩
 refine xn (.agg [ji v2.1,ji v2.2]) (zB h1 rfl) h3 rfl (g0 nP fun h4=>gq (.nsq (.seq (rg (g0 (ji 0) fun h5=>gq (.nsq (.seq (.block (.loop ?_)))))))))
 exact zgo H x1 v2 F 0 _ ⟨h0,rfl,h4,h5⟩ h
end
def znI (F:Nat):Ent:=ent 1000000081 (fun (x:(TP×(Int×Int)×Unit))=>ZS F x.1 x.2.1) (fun (r:(NL (Int×Int)))=>(zu .sh (r:NL (Int×Int)))) 1 false []
abbrev zmJ (D:List V→Option V) (F:Nat):Prop:=∀ (x0:TP) (x1:(Int×Int)) r,ZS F x0 x1=some r→D [Enc.enc x0,Enc.enc x1]=some (zu .sh (r:NL (Int×Int)))
theorem zqG {F:Nat}:zmJ (znI F).den F:=fun x0 x1 _ h=>zS (x0,x1,()) h
theorem zu0 (hF:zG Try.prog D σ) (H:zjW D σ F):(znI F).Ok Try.prog:=okZ (f:=81) Try.func81 fun ⟨x0,x1,_⟩ y hy=>cR hF Try.func81 c81o (zuG H x0 x1 _ ⟨rfl,rfl⟩ hy)
def zog:AC:=(.seq (rr [jv 13 (.load (.ag [.s,.p]) (.t 3)),jz (.store (.ag [.s,.p]) (.t 2) (.t 13))]) .ret)
def zol:AC:=(.seq (.reg [.clr [11]] [jv 6 (.fld (.t 3) 1 1),jv 7 (.load .p (.t 6)),jm 8 0,jv 9 (.bin .sub (.t 8) (jn 1)),jv 10 (.bld (.agg [i0,i0]) [(0,0,jn 0),(1,1,.t 9)]),jx 11 (.callO (jf 81) [.t 7,.t 10]),jv 12 (.fld (.t 3) 1 1),jz (.store .p (.t 12) (.t 11))] [.drp 5,.home 11 5]) zog)
def zmV:AC:=(.seq (.reg [.clr [5,3]] [jm 4 0,jx 5 (.callO (jf 78) [.t 4]),jx 3 (.alloc (.agg [i0,.sl .nl (.ag [.s,.s]) 0 []])),jz (.store (.ag [.s,.p]) (.t 3) (.t 5))] []) zol)
def zt1:AC:=(.seq (.reg [.clr [2]] [jx 2 (.alloc (.agg [i0,.sl .nl (.ag [.s,.s]) 0 []]))] []) zmV)
def zq0:List An:=[⟨0,[.clr [2]],[],[],[]⟩,⟨1,[.clr [5,3]],[],[1001],[]⟩,⟨2,[.clr [11]],[],[1005],[.drp 5,.home 11 5]⟩]
theorem c79o:cq Try.prog Try.f79 zq0=some zt1:=by kernel_rfl
structure zoD (D:Den) (σ:Sig) (F:Nat):Prop where
 c78o:zm4 (D 1000000078) F
 g78o:σ 1000000078=some (1,false)
 c81o:zmJ (D 1000000081) F
 g81o:σ 1000000081=some (1,false)
abbrev zvl (r:(Int×(NL (Int×Int)))):(Nat→V)→Prop:=RR Try.prog [.cell 2 26] 1 false (.agg [Enc.enc (r.1:Int),zu .sh (r.2:NL (Int×Int))])
section
variable {r:(Int×(NL (Int×Int)))}
def ZL (F:Nat) (x1:Int):Option (Int×(NL (Int×Int))):=
 (Yq F x1).bind fun r2=>
 (ZS F r2.2.list (0,w64 (x1 - 1))).bind fun r3=>
 some (r2.1,r3)
theorem zwg (H:zoD D σ F) (x1:Int) (s:Nat→V) (hs:zr [(0,ji x1)] s) (h:ZL F x1=some r):Run D σ (zvl r) (.run zt1 []) s:=by
 unfold ZL at h
 have h0:=hs
 refine .seq (zw (zW ?_))
 refine ez [(0,_),(2,_)] ⟨za h0 rfl mi,ze rfl⟩ ?_
 rintro s ⟨h0,h2⟩
 refine y9 h2 (gq (.nsq (.seq (zw (zW ?_)))))
 refine ez [(0,_),(2,_),(3,_),(5,_)] ⟨za h0 rfl mi,za rfl rfl (zj rfl (mIx rfl)),ze rfl,ze rfl⟩ ?_
 rintro s ⟨h0,h2,h3,h5⟩
 refine gm h0 fun h4=>?_
 obtain ⟨r2,Er2,h⟩:=zc h
 refine UV (m:=1) (al:=false) (r:=.agg [Enc.enc (r2.1:Int),zu .sh (r2.2:NL (Int×Int))]) (v:=.agg [ji r2.1,zu (.at 5 [1]) (r2.2:NL (Int×Int))]) (kk:=1000000078) [Enc.enc (x1:Int)] (zf h4 rfl rfl zC) (H.c78o _ _ Er2) H.g78o rfl (KJ (yb rfl (yb Xe yk))) (Mj (Ys rfl (Ys WC KH))) rfl h5 (y9 h3 (z5 (.agg [ji r2.1,zu (.at 5 [1]) (r2.2:NL (Int×Int))]) (zB rfl rfl) (zB rfl rfl) ⟨by decide,by decide,rfl,(by simp [V.shape,V.shapes,wk,Sh.beq,Sh.beqs]),(by simp [V.shape,V.shapes,wk,Sh.beq,Sh.beqs]),(by simp [V.toks,V.tokss,zY])⟩ ?_))
 refine gz [(0,ji x1),(2,bZ 2),(3,.ref (.bx 3) 0 [] (.agg [ji r2.1,zu (.at 5 [1]) (r2.2:NL (Int×Int))]))] ⟨zd h0 rfl,zd h2 (zH rfl rfl (yJ (zF rfl (zF rfl rfl)))),zd rfl rfl⟩ ?_
 rintro s ⟨h0,h2,h3⟩
 refine .nsq (.seq (zw (zW ?_)))
 refine ez [(0,_),(2,_),(3,_),(11,_)] ⟨za h0 rfl mi,za h2 rfl (zj rfl (mIx rfl)),za h3 rfl (zj rfl (zM (zg mi (zg (zl (r:=5) (p:=[1]) rfl rfl) zx)))),ze rfl⟩ ?_
 rintro s ⟨h0,h2,h3,h11⟩
 refine g1 3 (.ref (.bx 3) 0 [1] (zu (.at 5 [1]) (r2.2:NL (Int×Int)))) h3 fun h6=>gv (zu (.at 5 [1]) (r2.2:NL (Int×Int))) (Ud h6 Nn) fun h7=>gm h0 fun h8=>g1 8 (ji (w64 (x1 - 1))) h8 fun h9=>g1 9 (.agg [ji 0,ji (w64 (x1 - 1))]) h9 fun h10=>?_
 obtain ⟨r3,Er3,h⟩:=zc h
 refine UV (m:=1) (al:=false) (r:=zu .sh (r3:NL (Int×Int))) (v:=zu (.at 11 []) (r3:NL (Int×Int))) (kk:=1000000081) [eP r2.2.list,Enc.enc ((0,w64 (x1 - 1)):(Int×Int))] (zf h7 XV (We (o:=r2.2)) (zf h10 rfl (Enc.erase_enc ((0,w64 (x1 - 1)):(Int×Int))) zC)) (H.c81o _ _ _ Er3) H.g81o rfl Xe WC XV h11 (g1 3 (.ref (.bx 3) 0 [1] (zu (.at 5 [1]) (r2.2:NL (Int×Int)))) h3 fun h12=>z5 (zu (.at 11 []) (r3:NL (Int×Int))) (zB h12 rfl) (zB rfl XV) ⟨by decide,by decide,Mx,Uy,Uy,WF rfl rfl⟩ (yK (Jt (x:=5) (fun s4 hx_4 hd_4=>?_))))
 refine yo (r:=11) (x:=5) (v:=_) (by exact hx_4) rfl (fun s5 hz5=>?_)
 refine ez [(2,bZ 2),(3,.ref (.bx 3) 0 [] (.agg [ji r2.1,zu (.at 5 []) (r3:NL (Int×Int))]))] ⟨hz5 2 _ _ (show s4 2=(bZ 2) from (hd_4 2 (by decide)).trans (zd h2 (zH rfl rfl (yJ (zF rfl (zF rfl rfl)))))) (zj rfl (mIx rfl)),hz5 3 _ (.ref (.bx 3) 0 [] (.agg [ji r2.1,zu (.at 5 []) (r3:NL (Int×Int))])) (show s4 3=(.ref (.bx 3) 0 [] (.agg [ji r2.1,zu (.at 11 []) (r3:NL (Int×Int))])) from (hd_4 3 (by decide)).trans (zd h3 (UH (zF rfl (zF (wm rfl rfl) rfl))))) (zj rfl (zM (zg mi (zg (zl (r:=11) (p:=[]) rfl rfl) zx))))⟩ ?_
 rintro s ⟨h2,h3⟩
 refine .nsq (.seq (rg (gv (.agg [ji r2.1,zu (.at 5 []) (r3:NL (Int×Int))]) (Ud (c:=.agg [ji r2.1,zu (.at 5 []) (r3:NL (Int×Int))]) h3 (by simp [V.shape,V.shapes,wk,J7,Sh.beq,Sh.beqs])) fun h13=>z5 (.agg [ji r2.1,zu (.at 5 []) (r3:NL (Int×Int))]) (zB h2 rfl) (zB h13 rfl) ⟨by decide,by decide,rfl,(by simp [V.shape,V.shapes,wk,Sh.beq,Sh.beqs]),(by simp [V.shape,V.shapes,wk,Sh.beq,Sh.beqs]),(by simp [V.toks,V.tokss,zY])⟩ (gz [(2,.ref (.bx 2) 0 [] (.agg [ji r2.1,zu (.at 5 []) (r3:NL (Int×Int))]))] (zd h2 rfl) ?_))))
 rintro s h2
 refine .nsq (.ret ?_)
 obtain rfl:=oi h
 exact rrA (xZ h2 (by simp only [V.shape,V.shapes,wk];kernel_rfl)) (Km (Nv (Xd MM (Xd (KE (o:=(r3:NL (Int×Int)))) La))) rfl (Kv (yN rfl (yN (vB rfl) vr))))
end
def zn9 (F:Nat):Ent:=ent 1000000079 (fun (x:(Int×Unit))=>ZL F x.1) (fun (r:(Int×(NL (Int×Int))))=>(.agg [Enc.enc (r.1:Int),zu .sh (r.2:NL (Int×Int))])) 1 false []
abbrev ztn (D:List V→Option V) (F:Nat):Prop:=∀ (x0:Int) r,ZL F x0=some r→D [Enc.enc x0]=some (.agg [Enc.enc (r.1:Int),zu .sh (r.2:NL (Int×Int))])
theorem zvm {F:Nat}:ztn (zn9 F).den F:=fun x0 _ h=>zS (x0,()) h
theorem zuD (hF:zG Try.prog D σ) (H:zoD D σ F):(zn9 F).Ok Try.prog:=okZ (f:=79) Try.func79 fun ⟨x0,_⟩ y hy=>cR hF Try.func79 c79o (zwg H x0 _ rfl hy)
def zmW:AC:=(.cond (.t 11) .skip (.exit 0))
def zm9:AC:=(.cond (.t 18) .skip (.exit 2))
def zne:AC:=(rr [jm 19 5,jv 20 (.bin .add (.t 19) (jn 1)),jm 5 20])
def znT:AC:=(.seq (.block 3 (.reg [.clr [26,27]] [jv 21 (.fld (.t 3) 1 1),jv 22 (.load .p (.t 21)),jm 23 4,jm 24 5,jv 25 (.bld (.agg [i0,i0]) [(0,0,.t 23),(1,1,.t 24)]),jx 26 (.lit (.agg [i0,i0]) 1 [(0,0,.t 25)]),jx 27 (.app (.ag [.s,.s]) (.t 22) (.t 26)),jv 28 (.fld (.t 3) 1 1),jz (.store .p (.t 28) (.t 27))] [.drp 7,.home 27 7])) zne)
def zdy:AC:=(.seq (.seq (rr [jm 16 5,jm 17 0,jv 18 (.bin .lss (.t 16) (.t 17))]) zm9) znT)
def znj:AC:=(.block 2 (.loop zdy))
def zho:AC:=(rr [jm 12 4,jv 13 (.bin .add (.t 12) (jn 1)),jm 4 13])
def zmh:AC:=(.seq (.block 1 (.seq (rr [jm 14 4,jv 15 (.bin .add (.t 14) (jn 1)),jm 5 15]) znj)) zho)
def K4:AC:=(.seq (.seq (rr [jm 9 4,jm 10 0,jv 11 (.bin .lss (.t 9) (.t 10))]) zmW) zmh)
def L6:AC:=(.seq (rr [jv 29 (.load (.ag [.s,.p]) (.t 3)),jz (.store (.ag [.s,.p]) (.t 2) (.t 29))]) .ret)
def zkI:AC:=(.block 0 (.loop K4))
def zku:AC:=(.seq (.seq (rr [jv 4 (.mov (jn 0))]) zkI) L6)
def zjV:AC:=(.seq (.reg [.clr [7,3]] [jm 6 0,jx 7 (.lit (.agg [i0,i0]) 0 []),jv 8 (.bld (.agg [i0,.sl .nl (.ag [.s,.s]) 0 []]) [(0,0,.t 6),(1,1,.t 7)]),jx 3 (.alloc (.agg [i0,.sl .nl (.ag [.s,.s]) 0 []])),jz (.store (.ag [.s,.p]) (.t 3) (.t 8))] []) zku)
def zrJ:AC:=(.seq (.reg [.clr [2]] [jx 2 (.alloc (.agg [i0,.sl .nl (.ag [.s,.s]) 0 []]))] []) zjV)
def zsp:List An:=[⟨0,[.clr [2]],[],[],[]⟩,⟨1,[.clr [7,3]],[],[],[]⟩,⟨8,[.clr [26,27]],[],[],[.drp 7,.home 27 7]⟩]
theorem c80o:cq Try.prog Try.f80 zsp=some zrJ:=by kernel_rfl
structure zkp (D:Den) (σ:Sig) (F:Nat):Prop where
 mk ::
abbrev zky (r:(Int×(NL (Int×Int)))):(Nat→V)→Prop:=RR Try.prog [.cell 2 26] 1 false (.agg [Enc.enc (r.1:Int),zu .sh (r.2:NL (Int×Int))])
section
variable {r:(Int×(NL (Int×Int)))}
def Zn (F:Nat) (x1:Int) (x8:Int) (c1:TP→Int→Option (Int×(NL (Int×Int)))):Nat→TP→Int→Option (Int×(NL (Int×Int)))
 | 0,_,_=>none
 | k + 1,x15,x16=>
   bif decide (x16 < x1) then
    (vz x15 [(x8,x16)]).bind fun ap18=>
    (Zn F x1 x8 c1 k) ap18 (w64 (x16 + 1))
   else
    c1 x15 (w64 (x8 + 1))
theorem zgF (H:zkp D σ F) (x1:Int) (x8:Int) (c1:TP→Int→Option (Int×(NL (Int×Int)))) (Hc1:∀ (x7:TP) (x8:Int) (s:Nat→V),zr [(0,ji x1),(2,bZ 2),(3,.ref (.bx 3) 0 [] (.agg [ji x1,zu (.at 7 []) (.of (x7:TP))])),(4,ji x8)] s→c1 x7 x8=some r→Run D σ (zky r) (.run K4 [.lp K4,.bk 0,.sq L6]) s):∀ (k:Nat) (x15:TP) (x16:Int) (s:Nat→V),zr [(0,ji x1),(2,bZ 2),(3,.ref (.bx 3) 0 [] (.agg [ji x1,zu (.at 7 []) (.of (x15:TP))])),(4,ji x8),(5,ji x16)] s→Zn F x1 x8 c1 k x15 x16=some r→Run D σ (zky r) (.run zdy [.lp zdy,.bk 2,.bk 1,.sq zho,.lp K4,.bk 0,.sq L6]) s:=by
 intro k
 induction k with
 | zero=>intro x15 x16 s _ h;exact nm h
 | succ k ih=>
   intro x15 x16 s hs h
   rw [Zn] at h
   obtain ⟨h0,h2,h3,h4,h5⟩:=hs
   refine .seq (.seq (rg (gm h5 fun h16=>gm h0 fun h17=>g2 16 17 (jb (decide (x16 < x1))) h16 h17 fun h18=>gq (.nsq (zn h18 h (fun h=>?_) (fun h=>?_))))))
   · refine .skip (.nsq (.seq (.block (zw (zW ?_)))))
     refine ez [(0,_),(2,_),(3,_),(4,_),(5,_),(26,_),(27,_)] ⟨za h0 rfl mi,za h2 rfl (zj rfl (mIx rfl)),za h3 rfl (zj rfl (zM (zg mi (zg (zl (r:=7) (p:=[]) rfl rfl) zx)))),za h4 rfl mi,za h5 rfl mi,ze rfl,ze rfl⟩ ?_
     rintro s ⟨h0,h2,h3,h4,h5,h26,h27⟩
     refine g1 3 (.ref (.bx 3) 0 [1] (zu (.at 7 []) (.of (x15:TP)))) h3 fun h21=>g1 21 (zu (.at 7 []) (.of (x15:TP))) h21 fun h22=>gm h4 fun h23=>gm h5 fun h24=>g2 23 24 (.agg [ji x8,ji x16]) h23 h24 fun h25=>xb [(25,.agg [ji x8,ji x16])] [Enc.enc ((x8,x16):(Int×Int))] h25 rfl rfl h26 ?_
     obtain ⟨ap18,Eap18,h⟩:=zc h
     refine Z0 (q:=7) (p:=[]) (o:=.of (x15:TP)) (ys:=([(x8,x16)]:TP)) (t2:=.at 26 []) (lo2:=0) h22 rfl rfl h27 (vK (o:=.of (x15:TP)) Eap18 trivial) (fun s36 ha36=>g1 3 (.ref (.bx 3) 0 [1] (kdO ((.of x15):NL (Int×Int)))) (show s36 3=(.ref (.bx 3) 0 [] (.agg [ji x1,kdO ((.of x15):NL (Int×Int))])) from YH ha36 h3 (zj rfl (zM (zg mi (zg WN zx)))) (by intro h;first | (cases h;done) | (subst h;rfl))) fun h28=>z5 (zu (.at 27 []) (.of (ap18:TP))) (zB h28 rfl) (zB rfl rfl) ⟨by decide,by decide,rfl,rfl,L7,WF rfl rfl⟩ (yK (Jt (x:=7) (fun s37 hx_37 hd_37=>?_))))
     refine yo (r:=27) (x:=7) (v:=_) (by exact hx_37) rfl (fun s38 hz38=>?_)
     refine ez [(0,ji x1),(2,bZ 2),(3,.ref (.bx 3) 0 [] (.agg [ji x1,zu (.at 7 []) (.of (ap18:TP))])),(4,ji x8),(5,ji x16)] ⟨hz38 0 _ _ (show s37 0=(ji x1) from (hd_37 0 (by decide)).trans (zd (show s36 0=(ji x1) from zy ha36 h0 mi) rfl)) mi,hz38 2 _ _ (show s37 2=(bZ 2) from (hd_37 2 (by decide)).trans (zd (show s36 2=(bZ 2) from zy ha36 h2 (zj rfl (mIx rfl))) (zH rfl rfl (yJ (zF rfl (zF rfl rfl)))))) (zj rfl (mIx rfl)),hz38 3 _ (.ref (.bx 3) 0 [] (.agg [ji x1,zu (.at 7 []) (.of (ap18:TP))])) (show s37 3=(.ref (.bx 3) 0 [] (.agg [ji x1,zu (.at 27 []) (.of (ap18:TP))])) from (hd_37 3 (by decide)).trans (zd (show s36 3=(.ref (.bx 3) 0 [] (.agg [ji x1,kdO ((.of x15):NL (Int×Int))])) from YH ha36 h3 (zj rfl (zM (zg mi (zg WN zx)))) (by intro h;first | (cases h;done) | (subst h;rfl))) (UH (zF rfl (zF Mf rfl))))) (zj rfl (zM (zg mi (zg (zl (r:=27) (p:=[]) rfl rfl) zx)))),hz38 4 _ _ (show s37 4=(ji x8) from (hd_37 4 (by decide)).trans (zd (show s36 4=(ji x8) from zy ha36 h4 mi) rfl)) mi,hz38 5 _ _ (show s37 5=(ji x16) from (hd_37 5 (by decide)).trans (zd (show s36 5=(ji x16) from zy ha36 h5 mi) rfl)) mi⟩ ?_
     rintro s ⟨h0,h2,h3,h4,h5⟩
     refine .nbk (.nsq (rg (gm h5 fun h19=>g1 19 (ji (w64 (x16 + 1))) h19 fun h20=>gm h20 fun h5=>gq (.nlp ?_))))
     exact ih ap18 (w64 (x16 + 1)) _ ⟨h0,h2,h3,h4,h5⟩ h
   refine .exit (.esq (.elp (.ebk (.nbk (.nsq (rg (gm h4 fun h12=>g1 12 (ji (w64 (x8 + 1))) h12 fun h13=>gm h13 fun h4=>gq (.nlp ?_))))))))
   exact Hc1 x15 (w64 (x8 + 1)) _ ⟨h0,h2,h3,h4⟩ h
def ua (F:Nat) (x1:Int) :Nat→TP→Int→Option (Int×(NL (Int×Int)))
 | 0,_,_=>none
 | k + 1,x7,x8=>
   bif decide (x8 < x1) then
    Zn F x1 x8 (ua F x1 k) F x7 (w64 (x8 + 1))
   else
    some (x1,.of x7)
theorem zgn (H:zkp D σ F) (x1:Int) :∀ (k:Nat) (x7:TP) (x8:Int) (s:Nat→V),zr [(0,ji x1),(2,bZ 2),(3,.ref (.bx 3) 0 [] (.agg [ji x1,zu (.at 7 []) (.of (x7:TP))])),(4,ji x8)] s→ua F x1 k x7 x8=some r→Run D σ (zky r) (.run K4 [.lp K4,.bk 0,.sq L6]) s:=by
 intro k
 induction k with
 | zero=>intro x7 x8 s _ h;exact nm h
 | succ k ih=>
   intro x7 x8 s hs h
   rw [ua] at h
   obtain ⟨h0,h2,h3,h4⟩:=hs
   refine .seq (.seq (rg (gm h4 fun h9=>gm h0 fun h10=>g2 9 10 (jb (decide (x8 < x1))) h9 h10 fun h11=>gq (.nsq (zn h11 h (fun h=>?_) (fun h=>?_))))))
   · refine .skip (.nsq (.seq (.block (.seq (rg (gm h4 fun h14=>g1 14 (ji (w64 (x8 + 1))) h14 fun h15=>gm h15 fun h5=>gq (.nsq (.block (.loop ?_)))))))))
     exact zgF H x1 x8 (ua F x1 k) ih F x7 (w64 (x8 + 1)) _ ⟨h0,h2,h3,h4,h5⟩ h
   refine .exit (.esq (.elp (.ebk (.nsq (.seq (rg (g1 3 (.agg [ji x1,zu (.at 7 []) (.of (x7:TP))]) h3 fun h29=>z5 (.agg [ji x1,zu (.at 7 []) (.of (x7:TP))]) (zB h2 rfl) (zB h29 rfl) (xo (by first | rfl | simp [V.toks,V.tokss,Enc.toks_enc,zY])) (gz [(2,.ref (.bx 2) 0 [] (.agg [ji x1,zu (.at 7 []) (.of (x7:TP))]))] (zd h2 rfl) ?_))))))))
   rintro s h2
   refine .nsq (.ret ?_)
   obtain rfl:=oi h
   exact rrA (xZ h2 (by kernel_rfl)) (Km (Nv (Xd MM (Xd (KE (o:=((.of x7):NL (Int×Int)))) La))) rfl (Kv (yN rfl (yN (vB rfl) vr))))
def uD (F:Nat) (x1:Int):Option (Int×(NL (Int×Int))):=
 ua F x1 F [] 0
theorem zuQ (H:zkp D σ F) (x1:Int) (s:Nat→V) (hs:zr [(0,ji x1)] s) (h:uD F x1=some r):Run D σ (zky r) (.run zrJ []) s:=by
 unfold uD at h
 have h0:=hs
 refine .seq (zw (zW ?_))
 refine ez [(0,_),(2,_)] ⟨za h0 rfl mi,ze rfl⟩ ?_
 rintro s ⟨h0,h2⟩
 refine y9 h2 (gq (.nsq (.seq (zw (zW ?_)))))
 refine ez [(0,_),(2,_),(3,_),(7,_)] ⟨za h0 rfl mi,za rfl rfl (zj rfl (mIx rfl)),ze rfl,ze rfl⟩ ?_
 rintro s ⟨h0,h2,h3,h7⟩
 refine gm h0 fun h6=>xb [] [] trivial rfl rfl h7 (g2 6 7 (.agg [ji x1,zu (.at 7 []) (.of ([]:TP))]) h6 (rf (zu (.at 7 []) (.of ([]:TP)))) fun h8=>y9 h3 (z5 (.agg [ji x1,zu (.at 7 []) (.of ([]:TP))]) (zB rfl rfl) (zB h8 rfl) (xo (by first | rfl | simp [V.toks,V.tokss,Enc.toks_enc,zY])) (gz [(0,ji x1),(2,bZ 2),(3,.ref (.bx 3) 0 [] (.agg [ji x1,zu (.at 7 []) (.of ([]:TP))]))] ⟨zd h0 rfl,zd h2 (zH rfl rfl (yJ (zF rfl (zF rfl rfl)))),zd rfl rfl⟩ ?_)))
 rintro s ⟨h0,h2,h3⟩
 refine .nsq (.seq (.seq (rg (g0 (ji 0) fun h4=>gq (.nsq (.block (.loop ?_)))))))
 exact zgn H x1 F [] 0 _ ⟨h0,h2,h3,h4⟩ h
end
def znN (F:Nat):Ent:=ent 1000000080 (fun (x:(Int×Unit))=>uD F x.1) (fun (r:(Int×(NL (Int×Int))))=>(.agg [Enc.enc (r.1:Int),zu .sh (r.2:NL (Int×Int))])) 1 false []
abbrev zs2 (D:List V→Option V) (F:Nat):Prop:=∀ (x0:Int) r,uD F x0=some r→D [Enc.enc x0]=some (.agg [Enc.enc (r.1:Int),zu .sh (r.2:NL (Int×Int))])
theorem zuP {F:Nat}:zs2 (znN F).den F:=fun x0 _ h=>zS (x0,()) h
theorem zwm (hF:zG Try.prog D σ) (H:zkp D σ F):(znN F).Ok Try.prog:=okZ (f:=80) Try.func80 fun ⟨x0,_⟩ y hy=>cR hF Try.func80 c80o (zuQ H x0 _ rfl hy)
def zta:AC:=(.cond (.t 7) (.seq (rr [jm 8 0,jm 4 8]) .ret) .skip)
def zqe:AC:=(.seq (rr [jm 9 1,jm 4 9]) .ret)
def zoH:AC:=(.seq (.seq (rr [jm 5 0,jm 6 1,jv 7 (.bin .gtr (.t 5) (.t 6))]) zta) zqe)
def A37:AC:=(.seq (rr [jv 4 (.mov (jn 0))]) zoH)
def zuz:List An:=[]
theorem c37:cq Try.prog Try.f37 zuz=some A37:=by kernel_rfl
structure H37 (D:Den) (σ:Sig) (F:Nat):Prop where
 mk ::
abbrev R37 (r:Int):(Nat→V)→Prop:=RR Try.prog [.tmp 4] 0 false (Enc.enc (r:Int))
section
variable {r:Int}
def YX (F:Nat) (x1:Int) (x2:Int):Option Int:=
 bif decide (x1 > x2) then
  some x1
 else
  some x2
theorem t37 (H:H37 D σ F) (x1:Int) (x2:Int) (s:Nat→V) (hs:zr [(0,ji x1),(1,ji x2)] s) (h:YX F x1 x2=some r):Run D σ (R37 r) (.run A37 []) s:=by
 unfold YX at h
 obtain ⟨h0,h1⟩:=hs
 refine .seq (rg (g0 (ji 0) fun h4=>gq (.nsq (.seq (.seq (rg (gm h0 fun h5=>gm h1 fun h6=>g2 5 6 (jb (decide (x1 > x2))) h5 h6 fun h7=>gq (.nsq (zn h7 h (fun h=>?_) (fun h=>?_))))))))))
 · refine .seq (rg (gm h0 fun h8=>gm h8 fun h4=>gq (.nsq (.ret ?_))))
   obtain rfl:=oi h
   exact rrA (zm h4) rfl
 refine .skip (.nsq (.seq (rg (gm h1 fun h9=>gm h9 fun h4=>gq (.nsq (.ret ?_))))))
 obtain rfl:=oi h
 exact rrA (zm h4) rfl
end
def e37 (F:Nat):Ent:=ent 37 (fun (x:(Int×Int×Unit))=>YX F x.1 x.2.1) (fun (r:Int)=>(Enc.enc (r:Int))) 0 false []
abbrev C37 (D:List V→Option V) (F:Nat):Prop:=∀ (x0:Int) (x1:Int) r,YX F x0 x1=some r→D [Enc.enc x0,Enc.enc x1]=some (Enc.enc (r:Int))
theorem p37 {F:Nat}:C37 (e37 F).den F:=fun x0 x1 _ h=>zS (x0,x1,()) h
theorem o37 (hF:zG Try.prog D σ) (H:H37 D σ F):(e37 F).Ok Try.prog:=okZ (f:=37) Try.func37 fun ⟨x0,x1,_⟩ y hy=>cR hF Try.func37 c37 (t37 H x0 x1 _ ⟨rfl,rfl⟩ hy)
def zsl:AC:=(.cond (.t 13) .skip (.exit 0))
def zlZ:AC:=(.cond (.t 42) (.seq (rr [jv 6 (.mov kt)]) .ret) .skip)
def zoM:AC:=(.seq (rr [jv 21 (.idxA (.t 8) (jn 0) 2 1),jl 22 21,jm 23 1,jv 24 (.bin .eql (.t 22) (.t 23)),jm 25 24,jg 26 25 true (.idxA (.t 8) (jn 1) 2 1),jg 27 25 true (.load .s (.t 26)),jg 28 25 true (.mov (.t 2)),jg 29 25 true (.bin .eql (.t 27) (.t 28)),jv 30 (.pick (.t 25) (.t 29) kf),jm 31 30,jg 32 31 false (.idxA (.t 8) (jn 0) 2 1),jg 33 31 false (.load .s (.t 32)),jg 34 31 false (.mov (.t 2)),jg 35 31 false (.bin .eql (.t 33) (.t 34)),jg 36 31 false (.mov (.t 35)),jg 37 36 true (.idxA (.t 8) (jn 1) 2 1),jg 38 36 true (.load .s (.t 37)),jg 39 36 true (.mov (.t 1)),jg 40 36 true (.bin .eql (.t 38) (.t 39)),jg 41 31 false (.pick (.t 36) (.t 40) kf),jv 42 (.pick (.t 31) kt (.t 41))]) zlZ)
def zlK:AC:=(rr [jm 14 7,jv 15 (.bin .add (.t 14) (jn 1)),jm 7 15])
def zsM:AC:=(.seq (.block 1 (.seq (.reg [.clr [8]] [jv 16 (.fld (.t 3) 1 1),jv 17 (.load .p (.t 16)),jm 18 7,jv 19 (.idx (.t 17) (.t 18) 2),jv 20 (.load (.ag [.s,.s]) (.t 19)),jx 8 (.alloc (.agg [i0,i0])),jz (.store (.ag [.s,.s]) (.t 8) (.t 20))] []) zoM)) zlK)
def Qe:AC:=(.seq (.seq (rr [jm 9 7,jv 10 (.fld (.t 3) 1 1),jv 11 (.load .p (.t 10)),jk 12 11,jv 13 (.bin .lss (.t 9) (.t 12))]) zsl) zsM)
def zfL:AC:=(.seq (rr [jv 6 (.mov kf)]) .ret)
def ztL:AC:=(.block 0 (.loop Qe))
def zqt:AC:=(.seq (.seq (rr [jv 7 (.mov (jn 0))]) ztL) zfL)
def A65:AC:=(.seq (.reg [.clr [3]] [jx 3 (.box (.t 0)),jv 6 (.mov kf)] []) zqt)
def zvL:List An:=[⟨0,[.clr [3]],[],[],[]⟩,⟨4,[.clr [8]],[],[],[]⟩]
theorem c65:cq Try.prog Try.f65 zvL=some A65:=by kernel_rfl
structure H65 (D:Den) (σ:Sig) (F:Nat):Prop where
 mk ::
abbrev R65 (r:Bool):(Nat→V)→Prop:=RR Try.prog [.tmp 6] 0 false (Enc.enc (r:Bool))
section
variable {r:Bool}
def uO (F:Nat) (x2:Int) (x3:Int) (x1:GR) (x6:Int) (c1:Int→Option Bool) (x10:Bool):Option Bool:=
 bif x10 then
  some true
 else
  c1 (w64 (x6 + 1))
theorem U7 (H:H65 D σ F) (x2:Int) (x3:Int) (x1:GR) (x6:Int) (c1:Int→Option Bool) (Hc1:∀ (x6:Int) (s:Nat→V),zr [(1,ji x2),(2,ji x3),(3,bG 3 x1),(6,jb false),(7,ji x6)] s→c1 x6=some r→Run D σ (R65 r) (.run Qe [.lp Qe,.bk 0,.sq zfL]) s) (x10:Bool) (s:Nat→V) (hs:zr [(1,ji x2),(2,ji x3),(3,bG 3 x1),(6,jb false),(7,ji x6),(42,jb x10)] s) (h:uO F x2 x3 x1 x6 c1 x10=some r):Run D σ (R65 r) (.nrm [.sq zlZ,.bk 1,.sq zlK,.lp Qe,.bk 0,.sq zfL]) s:=by
 unfold uO at h
 obtain ⟨h1,h2,h3,h6,h7,h42⟩:=hs
 refine .nsq (zn h42 h (fun h=>?_) (fun h=>?_))
 · refine .seq (rg (g0 (jb true) fun h6=>gq (.nsq (.ret ?_))))
   obtain rfl:=oi h
   exact rrA (zm h6) rfl
 refine .skip (.nbk (.nsq (rg (gm h7 fun h14=>g1 14 (ji (w64 (x6 + 1))) h14 fun h15=>gm h15 fun h7=>gq (.nlp ?_)))))
 exact Hc1 (w64 (x6 + 1)) _ ⟨h1,h2,h3,h6,h7⟩ h
def xq (F:Nat) (x2:Int) (x3:Int) (x1:GR) :Nat→Int→Option Bool
 | 0,_=>none
 | k + 1,x6=>
   bif decide (x6 < (x1.2.length:Int)) then
    (idx x1.2 x6).bind fun v9=>
    bif (v9.1 == x2) then
     bif (v9.2 == x3) then
      uO F x2 x3 x1 x6 (xq F x2 x3 x1 k) true
     else
      bif (v9.1 == x3) then
       uO F x2 x3 x1 x6 (xq F x2 x3 x1 k) (v9.2 == x2)
      else
       uO F x2 x3 x1 x6 (xq F x2 x3 x1 k) false
    else
     bif (v9.1 == x3) then
      uO F x2 x3 x1 x6 (xq F x2 x3 x1 k) (v9.2 == x2)
     else
      uO F x2 x3 x1 x6 (xq F x2 x3 x1 k) false
   else
    some false
theorem zhw (H:H65 D σ F) (x2:Int) (x3:Int) (x1:GR) :∀ (k:Nat) (x6:Int) (s:Nat→V),zr [(1,ji x2),(2,ji x3),(3,bG 3 x1),(6,jb false),(7,ji x6)] s→xq F x2 x3 x1 k x6=some r→Run D σ (R65 r) (.run Qe [.lp Qe,.bk 0,.sq zfL]) s:=by
 intro k
 induction k with
 | zero=>intro x6 s _ h;exact nm h
 | succ k ih=>
   intro x6 s hs h
   rw [xq] at h
   obtain ⟨h1,h2,h3,h6,h7⟩:=hs
   refine .seq (.seq (rg (gm h7 fun h9=>g1 3 (.ref (.bx 3) 0 [1] (eP x1.2)) h3 fun h10=>g1 10 (eP x1.2) h10 fun h11=>gl x1.2 h11 fun h12=>g2 9 12 (jb (decide (x6 < (x1.2.length:Int)))) h9 h12 fun h13=>gq (.nsq (zn h13 h (fun h=>?_) (fun h=>?_))))))
   · refine .skip (.nsq (.seq (.block (.seq (zw (zW ?_))))))
     refine ez [(1,_),(2,_),(3,_),(6,_),(7,_),(8,_)] ⟨za h1 rfl mi,za h2 rfl mi,za h3 rfl (zj rfl mIE),za h6 rfl mb,za h7 rfl mi,ze rfl⟩ ?_
     rintro s ⟨h1,h2,h3,h6,h7,h8⟩
     refine g1 3 (.ref (.bx 3) 0 [1] (eP x1.2)) h3 fun h16=>g1 16 (eP x1.2) h16 fun h17=>gm h7 fun h18=>?_
     obtain ⟨v9,Ev9,h⟩:=zc h
     refine gv (.ref .sh 0 [] (.agg [ji v9.1,ji v9.2])) (yg (t:=.sh) (lo:=0) (xs:=x1.2) h17 h18 Ev9 rfl rfl) fun h19=>g1 19 (.agg [ji v9.1,ji v9.2]) h19 fun h20=>y9 h8 (z5 (.agg [ji v9.1,ji v9.2]) (zB rfl rfl) (zB h20 rfl) (xo (by first | rfl | simp [V.toks,V.tokss,Enc.toks_enc,zY])) (gz [(1,ji x2),(2,ji x3),(3,bG 3 x1),(6,jb false),(7,ji x6),(8,.ref (.bx 8) 0 [] (.agg [ji v9.1,ji v9.2]))] ⟨zd h1 rfl,zd h2 rfl,zd h3 (zH rfl rfl uIE),zd h6 rfl,zd h7 rfl,zd rfl rfl⟩ ?_))
     rintro s ⟨h1,h2,h3,h6,h7,h8⟩
     refine .nsq (.seq (rg (g1 8 (.ref (.bx 8) 0 [0] (ji v9.1)) h8 fun h21=>g1 21 (ji v9.1) h21 fun h22=>gm h1 fun h23=>g2 22 23 (jb (v9.1 == x2)) h22 h23 fun h24=>gm h24 fun h25=>zX h (fun hg5 h=>?_) (fun hg5 h=>?_))))
     · refine zp (ct h25 hg5) (g1 8 (.ref (.bx 8) 0 [1] (ji v9.2)) h8 fun h26=>zp (ct h25 hg5) (g1 26 (ji v9.2) h26 fun h27=>zp (ct h25 hg5) (gm h2 fun h28=>zp (ct h25 hg5) (g2 27 28 (jb (v9.2 == x3)) h27 h28 fun h29=>g2 25 29 (jb (v9.2 == x3)) (ct h25 hg5) h29 fun h30=>gm h30 fun h31=>zX h (fun hg11 h=>?_) (fun hg11 h=>?_)))))
       · iterate 5 refine yq (ct h31 hg11) ?_
         iterate 4 refine XO rfl ?_
         refine yq (ct h31 hg11) (g2 31 41 (jb true) (ct h31 hg11) (rf (.tup [])) fun h42=>gq ?_)
         exact U7 H x2 x3 x1 x6 (xq F x2 x3 x1 k) ih true _ ⟨h1,h2,h3,h6,h7,h42⟩ h
       refine zp (ct h31 hg11) (g1 8 (.ref (.bx 8) 0 [0] (ji v9.1)) h8 fun h32=>zp (ct h31 hg11) (g1 32 (ji v9.1) h32 fun h33=>zp (ct h31 hg11) (gm h2 fun h34=>zp (ct h31 hg11) (g2 33 34 (jb (v9.1 == x3)) h33 h34 fun h35=>zp (ct h31 hg11) (gm h35 fun h36=>zX h (fun hg16 h=>?_) (fun hg16 h=>?_))))))
       · refine zp (ct h36 hg16) (g1 8 (.ref (.bx 8) 0 [1] (ji v9.2)) h8 fun h37=>zp (ct h36 hg16) (g1 37 (ji v9.2) h37 fun h38=>zp (ct h36 hg16) (gm h1 fun h39=>zp (ct h36 hg16) (g2 38 39 (jb (v9.2 == x2)) h38 h39 fun h40=>zp (ct h31 hg11) (g2 36 40 (jb (v9.2 == x2)) (ct h36 hg16) h40 fun h41=>g2 31 41 (jb (v9.2 == x2)) (ct h31 hg11) h41 fun h42=>gq ?_)))))
         exact U7 H x2 x3 x1 x6 (xq F x2 x3 x1 k) ih (v9.2 == x2) _ ⟨h1,h2,h3,h6,h7,h42⟩ h
       iterate 4 refine yq (ct h36 hg16) ?_
       refine zp (ct h31 hg11) (g2 36 40 (jb false) (ct h36 hg16) (rf (.tup [])) fun h41=>g2 31 41 (jb false) (ct h31 hg11) h41 fun h42=>gq ?_)
       exact U7 H x2 x3 x1 x6 (xq F x2 x3 x1 k) ih false _ ⟨h1,h2,h3,h6,h7,h42⟩ h
     iterate 4 refine yq (ct h25 hg5) ?_
     refine g2 25 29 (jb false) (ct h25 hg5) (rf (.tup [])) fun h30=>gm h30 fun h31=>zp h31 (g1 8 (.ref (.bx 8) 0 [0] (ji v9.1)) h8 fun h32=>zp h31 (g1 32 (ji v9.1) h32 fun h33=>zp h31 (gm h2 fun h34=>zp h31 (g2 33 34 (jb (v9.1 == x3)) h33 h34 fun h35=>zp h31 (gm h35 fun h36=>zX h (fun hg16 h=>?_) (fun hg16 h=>?_))))))
     · refine zp (ct h36 hg16) (g1 8 (.ref (.bx 8) 0 [1] (ji v9.2)) h8 fun h37=>zp (ct h36 hg16) (g1 37 (ji v9.2) h37 fun h38=>zp (ct h36 hg16) (gm h1 fun h39=>zp (ct h36 hg16) (g2 38 39 (jb (v9.2 == x2)) h38 h39 fun h40=>zp h31 (g2 36 40 (jb (v9.2 == x2)) (ct h36 hg16) h40 fun h41=>g2 31 41 (jb (v9.2 == x2)) h31 h41 fun h42=>gq ?_)))))
       exact U7 H x2 x3 x1 x6 (xq F x2 x3 x1 k) ih (v9.2 == x2) _ ⟨h1,h2,h3,h6,h7,h42⟩ h
     iterate 4 refine yq (ct h36 hg16) ?_
     refine zp h31 (g2 36 40 (jb false) (ct h36 hg16) (rf (.tup [])) fun h41=>g2 31 41 (jb false) h31 h41 fun h42=>gq ?_)
     exact U7 H x2 x3 x1 x6 (xq F x2 x3 x1 k) ih false _ ⟨h1,h2,h3,h6,h7,h42⟩ h
   refine .exit (.esq (.elp (.ebk (.nsq (.seq (rg (g0 (jb false) fun h6=>gq (.nsq (.ret ?_)))))))))
   obtain rfl:=oi h
   exact rrA (zm h6) rfl
def Z4 (F:Nat) (x1:GR) (x2:Int) (x3:Int):Option Bool:=
 xq F x2 x3 x1 F 0
theorem t65 (H:H65 D σ F) (x1:GR) (x2:Int) (x3:Int) (s:Nat→V) (hs:zr [(0,gV x1),(1,ji x2),(2,ji x3)] s) (h:Z4 F x1 x2 x3=some r):Run D σ (R65 r) (.run A65 []) s:=by
 unfold Z4 at h
 obtain ⟨h0,h1,h2⟩:=hs
 refine .seq (zw (zW ?_))
 refine ez [(0,_),(1,_),(2,_),(3,_)] ⟨za h0 rfl mIE,za h1 rfl mi,za h2 rfl mi,ze rfl⟩ ?_
 rintro s ⟨h0,h1,h2,h3⟩
 refine xn (gV x1) (zB h0 rfl) h3 rfl (g0 (jb false) fun h6=>gq (.nsq (.seq (.seq (rg (g0 (ji 0) fun h7=>gq (.nsq (.block (.loop ?_)))))))))
 exact zhw H x2 x3 x1 F 0 _ ⟨h1,h2,rfl,h6,h7⟩ h
end
def e65 (F:Nat):Ent:=ent 65 (fun (x:(GR×Int×Int×Unit))=>Z4 F x.1 x.2.1 x.2.2.1) (fun (r:Bool)=>(Enc.enc (r:Bool))) 0 false []
abbrev C65 (D:List V→Option V) (F:Nat):Prop:=∀ (x0:GR) (x1:Int) (x2:Int) r,Z4 F x0 x1 x2=some r→D [Enc.enc x0,Enc.enc x1,Enc.enc x2]=some (Enc.enc (r:Bool))
theorem p65 {F:Nat}:C65 (e65 F).den F:=fun x0 x1 x2 _ h=>zS (x0,x1,x2,()) h
theorem o65 (hF:zG Try.prog D σ) (H:H65 D σ F):(e65 F).Ok Try.prog:=okZ (f:=65) Try.func65 fun ⟨x0,x1,x2,_⟩ y hy=>cR hF Try.func65 c65 (t65 H x0 x1 x2 _ ⟨rfl,rfl,rfl⟩ hy)
def zp0:AC:=(.cond (.t 31) (.reg [.clr [43,44]] [jx 32 (.vN (.fld (.t 3) 1 1) [0]),jx 33 (.vN (.load .p (.t 32)) [0]),jx 34 (.vN (.fld (.t 3) 1 1) [0]),jx 35 (.vN (.load .p (.t 34)) [0]),jm 36 0,jx 37 (.vN (.fld (.t 3) 1 1) [0]),jx 38 (.vN (.load .p (.t 37)) [0]),jx 39 (.vN (.len (.t 38)) [0]),jx 40 (.callT (jf 69) [.t 36,.t 39] [0] []),jv 41 (.idx (.t 35) (.t 40) 2),jv 42 (.load (.ag [.s,.s]) (.t 41)),jx 43 (.lit (.agg [i0,i0]) 1 [(0,0,.t 42)]),jx 44 (.app (.ag [.s,.s]) (.t 33) (.t 43)),jv 45 (.fld (.t 3) 1 1),jz (.store .p (.t 45) (.t 44))] [.drp 2061,.home 44 2061]) .skip)
def zoV:AC:=(.cond (.t 26) (.seq (rr [jv 28 (.fld (.t 3) 1 1),jv 29 (.load .p (.t 28)),jk 30 29,jv 31 (.bin .gtr (.t 30) (jn 0))]) zp0) .skip)
def zq9:AC:=(.cond (.t 13) (.reg [.clr [23,24]] [jx 15 (.vN (.fld (.t 3) 1 1) [0]),jx 16 (.vN (.load .p (.t 15)) [0]),jm 17 0,jx 18 (.callT (jf 69) [.t 17,jn 4] [0] []),jm 19 0,jx 20 (.callT (jf 69) [.t 19,jn 9] [0] []),jv 21 (.bin .sub (.t 20) (jn 1)),jv 22 (.bld (.agg [i0,i0]) [(0,0,.t 18),(1,1,.t 21)]),jx 23 (.lit (.agg [i0,i0]) 1 [(0,0,.t 22)]),jx 24 (.app (.ag [.s,.s]) (.t 16) (.t 23)),jv 25 (.fld (.t 3) 1 1),jz (.store .p (.t 25) (.t 24))] [.drp 2061,.home 24 2061]) (.seq (rr [jv 27 (.bin .eql (.t 6) (jn 2)),jm 26 27]) zoV))
def zrE:AC:=(.cond (.t 7) (.reg [.clr [10]] [jm 9 0,jx 10 (.litS i0 5 [(0,0,jn (-1)),(1,1,jn 8),(2,2,jn 9),(3,3,jn 0),(4,4,jn 4611686018427387904)]),jx 11 (.callT (jf 70) [.t 9,.t 10] [0] []),jv 12 (.fld (.t 3) 0 0),jz (.store .s (.t 12) (.t 11))] []) (.seq (rr [jv 14 (.bin .eql (.t 6) (jn 1)),jm 13 14]) zq9))
def zte:AC:=(.block 0 (.seq (rr [jv 8 (.bin .eql (.t 6) (jn 0)),jm 7 8]) zrE))
def zpi:AC:=(.seq (.reg [] [jv 46 (.load (.ag [.s,.p]) (.t 3)),jz (.store (.ag [.s,.p]) (.t 4) (.t 46))] [.frz 46]) .ret)
def zpH:AC:=(.seq (.seq (rr [jm 5 0,jx 6 (.callT (jf 69) [.t 5,jn 50] [0] [])]) zte) zpi)
def A82:AC:=(.seq (.reg [.clr [3,4]] [jx 3 (.box (.t 1)),jx 4 (.alloc (.agg [i0,.sl .nl (.ag [.s,.s]) 0 []]))] [.drp 2061,.home uL 2061]) zpH)
def zvD:List An:=[⟨0,[.clr [3,4]],[],[],[.drp 2061,.home uL 2061]⟩,⟨1,[],[],[2000000],[]⟩,⟨3,[.clr [10]],[],[3000000,6001],[]⟩,⟨5,[.clr [23,24]],[],[4000000,1000000,2000000,6000000],[.drp 2061,.home 24 2061]⟩,⟨8,[.clr [43,44]],[],[9000000,1000000,2000000,3000000,4000000,6000000,7000000,8000000],[.drp 2061,.home 44 2061]⟩,⟨9,[],[],[],[.frz 46]⟩]
theorem c82:cq Try.prog Try.f82 zvD=some A82:=by kernel_rfl
structure H82 (D:Den) (σ:Sig) (F:Nat):Prop where
 c69:C69 (D 69) F
 g69:σ 69=some (uK,false)
 c70:C70 (D 70) F
 g70:σ 70=some (uK,false)
abbrev R82 (r:(GR×CU)):(Nat→V)→Prop:=RT Try.prog [.cell 4 26] (Enc.enc (r.1:GR)) [cuV zO r.2]
section
variable {r:(GR×CU)}
def vF (F:Nat) (x1:CC) (x2:(Oh (Int×Int))):Option (GR×CU):=
 (yj F (Cu.mk x1.v) 50).bind fun r3=>
 bif (r3.1 == 0) then
  (yR F (Cu.mk r3.2) [(-1),8,9,0,4611686018427387904]).bind fun r4=>
  some ((r4.1,x2.v),r4.2)
 else
  bif (r3.1 == 1) then
   (yj F (Cu.mk r3.2) 4).bind fun r5=>
   (yj F (Cu.mk r5.2) 9).bind fun r6=>
   (vz x2.v [(r5.1,w64 (r6.1 - 1))]).bind fun ap7=>
   some ((x2.a,ap7),r6.2)
  else
   bif (r3.1 == 2) then
    bif decide ((x2.v.length:Int) > 0) then
     (yj F (Cu.mk r3.2) (x2.v.length:Int)).bind fun r8=>
     (idx x2.v r8.1).bind fun v9=>
     (vz x2.v [v9]).bind fun ap10=>
     some ((x2.a,ap10),r8.2)
    else
     some ((x2.a,x2.v),r3.2)
   else
    some ((x2.a,x2.v),r3.2)
theorem t82 (H:H82 D σ F) (x1:CC) (x2:(Oh (Int×Int))) (s:Nat→V) (hs:zr [(0,bC x1.v),(1,.agg [ji x2.a,zu (.at uL []) (.of (x2.v:TP))])] s) (h:vF F x1 x2=some r):Run D σ (R82 r) (.run A82 []) s:=by
 unfold vF at h
 obtain ⟨h0,h1⟩:=hs
 refine .seq (zw (zW ?_))
 refine ez [(0,_),(1,_),(3,_),(4,_)] ⟨za h0 rfl (zj rfl wW),za h1 rfl (zM (zg mi (zg (zl (r:=uL) (p:=[]) rfl rfl) zx))),ze rfl,ze rfl⟩ ?_
 rintro s ⟨h0,h1,h3,h4⟩
 refine xn (.agg [ji x2.a,zu (.at uL []) (.of (x2.v:TP))]) (zB h1 rfl) h3 rfl (y9 h4 (yK (Jt (x:=2061) (fun s2 hx_2 hd_2=>yo (r:=uL) (x:=2061) (v:=_) (by exact hx_2) rfl (fun s3 hz3=>?_)))))
 refine ez [(0,bC x1.v),(3,.ref (.bx 3) 0 [] (.agg [ji x2.a,zu (.at 2061 []) (.of (x2.v:TP))])),(4,bZ 4)] ⟨hz3 0 _ _ (show s2 0=(bC x1.v) from (hd_2 0 (by decide)).trans h0) (zj rfl wW),hz3 3 _ (.ref (.bx 3) 0 [] (.agg [ji x2.a,zu (.at 2061 []) (.of (x2.v:TP))])) (show s2 3=(.ref (.bx 3) 0 [] (.agg [ji x2.a,zu (.at uL []) (.of (x2.v:TP))])) from (hd_2 3 (by decide)).trans rfl) (zj rfl (zM (zg mi (zg (zl (r:=uL) (p:=[]) rfl rfl) zx)))),hz3 4 _ _ (show s2 4=(bZ 4) from (hd_2 4 (by decide)).trans rfl) (zj rfl (mIx rfl))⟩ ?_
 rintro s ⟨h0,h3,h4⟩
 refine .nsq (.seq (.seq (rg (gm h0 fun h5=>?_))))
 obtain ⟨r3,Er3,h⟩:=zc h
 refine vf (r:=zO) (b:=0) (x:=x1.v) (x':=r3.2) (vs:=[Enc.enc (50:Int)]) (res:=Enc.enc (r3.1:Int)) h0 (by exact (zJ (v:=cuV zO x1.v) h5 rfl (zJ (v:=Enc.enc (50:Int)) rfl rfl yp))) (yb te yk) fm1 (H.c69 _ _ _ Er3) H.g69 te rfl (fun s4 hb4 ha4=>?_)
 refine gz [(0,_),(3,.ref (.bx 3) 0 [] (.agg [ji x2.a,zu (.at 2061 []) (.of (x2.v:TP))])),(4,bZ 4),(6,ji r3.1)] ⟨(show s4 0=(bC r3.2) from hb4 0 h0),(show s4 3=(.ref (.bx 3) 0 [] (.agg [ji x2.a,zu (.at 2061 []) (.of (x2.v:TP))])) from ha4 3 _ _ h3 rfl (zj rfl (zM (zg mi (zg (zl (r:=2061) (p:=[]) rfl rfl) zx))))),(show s4 4=(bZ 4) from ha4 4 _ _ h4 rfl (zj rfl (mIx rfl))),rfl⟩ ?_
 rintro s ⟨h0,h3,h4,h6⟩
 refine .nsq (.block (.seq (rg (g1 6 (jb (r3.1 == 0)) h6 fun h8=>gm h8 fun h7=>gq (.nsq (zn h7 h (fun h=>?_) (fun h=>?_)))))))
 · refine zw (zW ?_)
   refine ez [(0,_),(3,_),(4,_),(10,_)] ⟨za h0 rfl (zj rfl wW),za h3 rfl (zj rfl (zM (zg mi (zg (zl (r:=2061) (p:=[]) rfl rfl) zx)))),za h4 rfl (zj rfl (mIx rfl)),ze rfl⟩ ?_
   rintro s ⟨h0,h3,h4,h10⟩
   refine gm h0 fun h9=>KU [] ([(-1),8,9,0,4611686018427387904]:LI) trivial rfl rfl rfl h10 (fun s6 hd_6 hl_6=>?_)
   obtain ⟨r4,Er4,h⟩:=zc h
   refine vf (r:=zO) (b:=0) (x:=r3.2) (x':=r4.2) (vs:=[Enc.enc ([(-1),8,9,0,4611686018427387904]:LI)]) (res:=Enc.enc (r4.1:Int)) (show s6 0=(bC r3.2) from (hl_6 0 (by decide)).trans h0) (by exact (zJ (v:=cuV zO r3.2) (show s6 9=(bC r3.2) from (hl_6 9 (by decide)).trans h9) rfl (zJ (v:=Enc.enc ([(-1),8,9,0,4611686018427387904]:LI)) (show s6 10=(eL [(-1),8,9,0,4611686018427387904]) from hd_6) rfl yp))) (yb te yk) fm1 (H.c70 _ _ _ Er4) H.g70 te rfl (fun s7 hb7 ha7=>?_)
   refine g1 3 (.ref (.bx 3) 0 [0] (ji x2.a)) (show s7 3=(.ref (.bx 3) 0 [] (.agg [ji x2.a,zu (.at 2061 []) (.of (x2.v:TP))])) from ha7 3 _ _ (show s6 3=(.ref (.bx 3) 0 [] (.agg [ji x2.a,zu (.at 2061 []) (.of (x2.v:TP))])) from (hl_6 3 (by decide)).trans h3) rfl (zj rfl (zM (zg mi (zg (zl (r:=2061) (p:=[]) rfl rfl) zx))))) fun h12=>z5 (ji r4.1) (zB h12 rfl) (zB rfl rfl) (xo (by first | rfl | simp [V.toks,V.tokss,Enc.toks_enc,zY])) ?_
   refine gz [(0,bC r4.2),(3,.ref (.bx 3) 0 [] (.agg [ji r4.1,zu (.at 2061 []) (.of (x2.v:TP))])),(4,bZ 4)] ⟨zd (show s7 0=(bC r4.2) from hb7 0 (show s6 0=(bC r3.2) from (hl_6 0 (by decide)).trans h0)) (zH rfl rfl WI),zd (show s7 3=(.ref (.bx 3) 0 [] (.agg [ji x2.a,zu (.at 2061 []) (.of (x2.v:TP))])) from ha7 3 _ _ (show s6 3=(.ref (.bx 3) 0 [] (.agg [ji x2.a,zu (.at 2061 []) (.of (x2.v:TP))])) from (hl_6 3 (by decide)).trans h3) rfl (zj rfl (zM (zg mi (zg (zl (r:=2061) (p:=[]) rfl rfl) zx))))) rfl,zd (show s7 4=(bZ 4) from ha7 4 _ _ (show s6 4=(bZ 4) from (hl_6 4 (by decide)).trans h4) rfl (zj rfl (mIx rfl))) (zH rfl rfl (yJ (zF rfl (zF rfl rfl))))⟩ ?_
   rintro s ⟨h0,h3,h4⟩
   refine .nbk (.nsq (.seq (rg (g1 3 (.agg [ji r4.1,zu (.at 2061 []) (.of (x2.v:TP))]) h3 fun h46=>z5 (.agg [ji r4.1,zu (.at 2061 []) (.of (x2.v:TP))]) (zB h4 rfl) (zB h46 rfl) (xo (by first | rfl | simp [V.toks,V.tokss,Enc.toks_enc,zY])) (yK (Yt (x:=46) (v:=.agg [ji r4.1,zu (.at 2061 []) (.of (x2.v:TP))]) [.at 2061 []] (by exact (zd h46 (yJ (zF rfl (zF (wm rfl rfl) rfl))))) (by simp [V.toks,V.tokss,z8,Enc.toks_enc]) (fun s8 hz8=>?_)))))))
   refine ez [(0,bC r4.2),(4,.ref (.bx 4) 0 [] (.agg [ji r4.1,eP x2.v]))] ⟨hz8 0 (bC r4.2) (bC r4.2) (zd h0 (zH rfl rfl WI)) (yV rfl Nu rfl),hz8 4 (.ref (.bx 4) 0 [] (.agg [ji r4.1,zu (.at 2061 []) (.of (x2.v:TP))])) (.ref (.bx 4) 0 [] (.agg [ji r4.1,eP x2.v])) (zd h4 rfl) (yV rfl (UU (wC rfl (wC vJ rfl))) rfl)⟩ ?_
   rintro s ⟨h0,h4⟩
   refine .nsq (.ret ?_)
   obtain rfl:=oi h
   exact rt1 (t:=0) (xZ h4 (by kernel_rfl)) h0
 refine .seq (rg (g1 6 (jb (r3.1 == 1)) h6 fun h14=>gm h14 fun h13=>gq (.nsq (zn h13 h (fun h=>?_) (fun h=>?_)))))
 · refine zw (zW ?_)
   refine ez [(0,_),(3,_),(4,_),(23,_),(24,_)] ⟨za h0 rfl (zj rfl wW),za h3 rfl (zj rfl (zM (zg mi (zg (zl (r:=2061) (p:=[]) rfl rfl) zx)))),za h4 rfl (zj rfl (mIx rfl)),ze rfl,ze rfl⟩ ?_
   rintro s ⟨h0,h3,h4,h23,h24⟩
   refine LE (r:=zO) (b:=0) (x:=r3.2) (.ref (.bx 3) 0 [1] (zu (.at 2061 []) (.of (x2.v:TP)))) h0 (Ye [(3,.ref (.bx 3) 0 [] (.agg [ji x2.a,zu (.at 2061 []) (.of (x2.v:TP))]))] h3 rfl rfl) [(3,.ref (.bx 3) 0 [] (.agg [ji x2.a,zu (.at 2061 []) (.of (x2.v:TP))]))] h3 rfl (by simp [V.live,V.lives,vt,ZR (α:=(Int×Int)) (fun _=>rfl),V.toks,V.tokss,z8,Y8,Enc.toks_enc,zO,uL]) (by simp [V.toks,V.tokss,z8,Enc.toks_enc,zO,uL]) ?_
   refine LE (r:=zO) (b:=0) (x:=r3.2) (zu (.at 2061 []) (.of (x2.v:TP))) h0 (Ye [(15,.ref (.bx 3) 0 [1] (zu (.at 2061 []) (.of (x2.v:TP))))] rfl rfl rfl) [(15,.ref (.bx 3) 0 [1] (zu (.at 2061 []) (.of (x2.v:TP))))] rfl rfl (by simp [V.live,V.lives,vt,ZR (α:=(Int×Int)) (fun _=>rfl),V.toks,V.tokss,z8,Y8,Enc.toks_enc,zO,uL]) (by simp [V.toks,V.tokss,z8,Enc.toks_enc,zO,uL]) (gm h0 fun h17=>?_)
   obtain ⟨r5,Er5,h⟩:=zc h
   refine vf (r:=zO) (b:=0) (x:=r3.2) (x':=r5.2) (vs:=[Enc.enc (4:Int)]) (res:=Enc.enc (r5.1:Int)) h0 (by exact (zJ (v:=cuV zO r3.2) h17 rfl (zJ (v:=Enc.enc (4:Int)) rfl rfl yp))) (yb te yk) fm1 (H.c69 _ _ _ Er5) H.g69 te rfl (fun s10 hb10 ha10=>gm (show s10 0=(bC r5.2) from hb10 0 h0) fun h19=>?_)
   obtain ⟨r6,Er6,h⟩:=zc h
   refine vf (r:=zO) (b:=0) (x:=r5.2) (x':=r6.2) (vs:=[Enc.enc (9:Int)]) (res:=Enc.enc (r6.1:Int)) (show s10 0=(bC r5.2) from hb10 0 h0) (by exact (zJ (v:=cuV zO r5.2) h19 rfl (zJ (v:=Enc.enc (9:Int)) rfl rfl yp))) (yb te yk) fm1 (H.c69 _ _ _ Er6) H.g69 te rfl (fun s11 hb11 ha11=>g1 20 (ji (w64 (r6.1 - 1))) (rf (ji r6.1)) fun h21=>g2 18 21 (.agg [ji r5.1,ji (w64 (r6.1 - 1))]) (show s11 18=(ji r5.1) from ha11 18 (ji r5.1) _ rfl rfl mi) h21 fun h22=>?_)
   refine xb [(22,.agg [ji r5.1,ji (w64 (r6.1 - 1))])] [Enc.enc ((r5.1,w64 (r6.1 - 1)):(Int×Int))] h22 rfl rfl (show s11 23 = .gone from ha11 23 .gone _ (show s10 23 = .gone from ha10 23 _ _ h23 rfl rfl) rfl rfl) ?_
   obtain ⟨ap7,Eap7,h⟩:=zc h
   refine Z0 (q:=2061) (p:=[]) (o:=.of (x2.v:TP)) (ys:=([(r5.1,w64 (r6.1 - 1))]:TP)) (t2:=.at 23 []) (lo2:=0) (show s11 16=(zu (.at 2061 []) (.of (x2.v:TP))) from ha11 16 (zu (.at 2061 []) (.of (x2.v:TP))) _ (show s10 16=(zu (.at 2061 []) (.of (x2.v:TP))) from ha10 16 (zu (.at 2061 []) (.of (x2.v:TP))) _ rfl rfl (zl (r:=2061) (p:=[]) rfl rfl)) rfl (zl (r:=2061) (p:=[]) rfl rfl)) rfl rfl (show s11 24 = .gone from ha11 24 .gone _ (show s10 24 = .gone from ha10 24 _ _ h24 rfl rfl) rfl rfl) (vK (o:=.of (x2.v:TP)) Eap7 trivial) (fun s12 ha12=>?_)
   refine g1 3 (.ref (.bx 3) 0 [1] (kdO ((.of x2.v):NL (Int×Int)))) (show s12 3=(.ref (.bx 3) 0 [] (.agg [ji x2.a,kdO ((.of x2.v):NL (Int×Int))])) from YH ha12 (show s11 3=(.ref (.bx 3) 0 [] (.agg [ji x2.a,zu (.at 2061 []) (.of (x2.v:TP))])) from ha11 3 (.ref (.bx 3) 0 [] (.agg [ji x2.a,zu (.at 2061 []) (.of (x2.v:TP))])) _ (show s10 3=(.ref (.bx 3) 0 [] (.agg [ji x2.a,zu (.at 2061 []) (.of (x2.v:TP))])) from ha10 3 _ _ h3 rfl (zj rfl (zM (zg mi (zg (zl (r:=2061) (p:=[]) rfl rfl) zx))))) rfl (zj rfl (zM (zg mi (zg (zl (r:=2061) (p:=[]) rfl rfl) zx))))) (zj rfl (zM (zg mi (zg WN zx)))) (by intro h;first | (cases h;done) | (subst h;rfl))) fun h25=>?_
   refine z5 (zu (.at 24 []) (.of (ap7:TP))) (zB h25 rfl) (zB rfl rfl) ⟨by decide,by decide,rfl,rfl,L7,WF rfl rfl⟩ (yK (Jt (x:=2061) (fun s13 hx_13 hd_13=>yo (r:=24) (x:=2061) (v:=_) (by exact hx_13) rfl (fun s14 hz14=>?_))))
   refine ez [(0,bC r6.2),(3,.ref (.bx 3) 0 [] (.agg [ji x2.a,zu (.at 2061 []) (.of (ap7:TP))])),(4,bZ 4)] ⟨hz14 0 _ _ (show s13 0=(bC r6.2) from (hd_13 0 (by decide)).trans (zd (show s12 0=(bC r6.2) from zy ha12 (show s11 0=(bC r6.2) from hb11 0 (show s10 0=(bC r5.2) from hb10 0 h0)) (zj rfl wW)) (zH rfl rfl WI))) (zj rfl wW),hz14 3 _ (.ref (.bx 3) 0 [] (.agg [ji x2.a,zu (.at 2061 []) (.of (ap7:TP))])) (show s13 3=(.ref (.bx 3) 0 [] (.agg [ji x2.a,zu (.at 24 []) (.of (ap7:TP))])) from (hd_13 3 (by decide)).trans (zd (show s12 3=(.ref (.bx 3) 0 [] (.agg [ji x2.a,kdO ((.of x2.v):NL (Int×Int))])) from YH ha12 (show s11 3=(.ref (.bx 3) 0 [] (.agg [ji x2.a,zu (.at 2061 []) (.of (x2.v:TP))])) from ha11 3 (.ref (.bx 3) 0 [] (.agg [ji x2.a,zu (.at 2061 []) (.of (x2.v:TP))])) _ (show s10 3=(.ref (.bx 3) 0 [] (.agg [ji x2.a,zu (.at 2061 []) (.of (x2.v:TP))])) from ha10 3 _ _ h3 rfl (zj rfl (zM (zg mi (zg (zl (r:=2061) (p:=[]) rfl rfl) zx))))) rfl (zj rfl (zM (zg mi (zg (zl (r:=2061) (p:=[]) rfl rfl) zx))))) (zj rfl (zM (zg mi (zg WN zx)))) (by intro h;first | (cases h;done) | (subst h;rfl))) (UH (zF rfl (zF Mf rfl))))) (zj rfl (zM (zg mi (zg (zl (r:=24) (p:=[]) rfl rfl) zx)))),hz14 4 _ _ (show s13 4=(bZ 4) from (hd_13 4 (by decide)).trans (zd (show s12 4=(bZ 4) from zy ha12 (show s11 4=(bZ 4) from ha11 4 (bZ 4) _ (show s10 4=(bZ 4) from ha10 4 _ _ h4 rfl (zj rfl (mIx rfl))) rfl (zj rfl (mIx rfl))) (zj rfl (mIx rfl))) (zH rfl rfl (yJ (zF rfl (zF rfl rfl)))))) (zj rfl (mIx rfl))⟩ ?_
   rintro s ⟨h0,h3,h4⟩
   refine .nbk (.nsq (.seq (rg (g1 3 (.agg [ji x2.a,zu (.at 2061 []) (.of (ap7:TP))]) h3 fun h46=>z5 (.agg [ji x2.a,zu (.at 2061 []) (.of (ap7:TP))]) (zB h4 rfl) (zB h46 rfl) (xo (by first | rfl | simp [V.toks,V.tokss,Enc.toks_enc,zY])) (yK (Yt (x:=46) (v:=.agg [ji x2.a,zu (.at 2061 []) (.of (ap7:TP))]) [.at 2061 []] (by exact (zd h46 (yJ (zF rfl (zF (wm rfl rfl) rfl))))) (by simp [V.toks,V.tokss,z8,Enc.toks_enc]) (fun s15 hz15=>?_)))))))
   refine ez [(0,bC r6.2),(4,.ref (.bx 4) 0 [] (.agg [ji x2.a,eP ap7]))] ⟨hz15 0 (bC r6.2) (bC r6.2) (zd h0 (zH rfl rfl WI)) (yV rfl Nu rfl),hz15 4 (.ref (.bx 4) 0 [] (.agg [ji x2.a,zu (.at 2061 []) (.of (ap7:TP))])) (.ref (.bx 4) 0 [] (.agg [ji x2.a,eP ap7])) (zd h4 rfl) (yV rfl (UU (wC rfl (wC vJ rfl))) rfl)⟩ ?_
   rintro s ⟨h0,h4⟩
   refine .nsq (.ret ?_)
   obtain rfl:=oi h
   exact rt1 (t:=0) (xZ h4 (by kernel_rfl)) h0
 refine .seq (rg (g1 6 (jb (r3.1 == 2)) h6 fun h27=>gm h27 fun h26=>gq (.nsq (zn h26 h (fun h=>?_) (fun h=>?_)))))
 · refine .seq (rg (g1 3 (.ref (.bx 3) 0 [1] (zu (.at 2061 []) (.of (x2.v:TP)))) h3 fun h28=>g1 28 (zu (.at 2061 []) (.of (x2.v:TP))) h28 fun h29=>gv (ji (x2.v.length:Int)) (Mi (o:=.of x2.v) h29) fun h30=>g1 30 (jb (decide ((x2.v.length:Int) > 0))) h30 fun h31=>gq (.nsq (zn h31 h (fun h=>?_) (fun h=>?_)))))
   · refine zw (zW ?_)
     refine ez [(0,_),(3,_),(4,_),(43,_),(44,_)] ⟨za h0 rfl (zj rfl wW),za h3 rfl (zj rfl (zM (zg mi (zg (zl (r:=2061) (p:=[]) rfl rfl) zx)))),za h4 rfl (zj rfl (mIx rfl)),ze rfl,ze rfl⟩ ?_
     rintro s ⟨h0,h3,h4,h43,h44⟩
     refine LE (r:=zO) (b:=0) (x:=r3.2) (.ref (.bx 3) 0 [1] (zu (.at 2061 []) (.of (x2.v:TP)))) h0 (Ye [(3,.ref (.bx 3) 0 [] (.agg [ji x2.a,zu (.at 2061 []) (.of (x2.v:TP))]))] h3 rfl rfl) [(3,.ref (.bx 3) 0 [] (.agg [ji x2.a,zu (.at 2061 []) (.of (x2.v:TP))]))] h3 rfl (by simp [V.live,V.lives,vt,ZR (α:=(Int×Int)) (fun _=>rfl),V.toks,V.tokss,z8,Y8,Enc.toks_enc,zO,uL]) (by simp [V.toks,V.tokss,z8,Enc.toks_enc,zO,uL]) ?_
     refine LE (r:=zO) (b:=0) (x:=r3.2) (zu (.at 2061 []) (.of (x2.v:TP))) h0 (Ye [(32,.ref (.bx 3) 0 [1] (zu (.at 2061 []) (.of (x2.v:TP))))] rfl rfl rfl) [(32,.ref (.bx 3) 0 [1] (zu (.at 2061 []) (.of (x2.v:TP))))] rfl rfl (by simp [V.live,V.lives,vt,ZR (α:=(Int×Int)) (fun _=>rfl),V.toks,V.tokss,z8,Y8,Enc.toks_enc,zO,uL]) (by simp [V.toks,V.tokss,z8,Enc.toks_enc,zO,uL]) ?_
     refine LE (r:=zO) (b:=0) (x:=r3.2) (.ref (.bx 3) 0 [1] (zu (.at 2061 []) (.of (x2.v:TP)))) h0 (Ye [(3,.ref (.bx 3) 0 [] (.agg [ji x2.a,zu (.at 2061 []) (.of (x2.v:TP))]))] h3 rfl rfl) [(3,.ref (.bx 3) 0 [] (.agg [ji x2.a,zu (.at 2061 []) (.of (x2.v:TP))]))] h3 rfl (by simp [V.live,V.lives,vt,ZR (α:=(Int×Int)) (fun _=>rfl),V.toks,V.tokss,z8,Y8,Enc.toks_enc,zO,uL]) (by simp [V.toks,V.tokss,z8,Enc.toks_enc,zO,uL]) ?_
     refine LE (r:=zO) (b:=0) (x:=r3.2) (zu (.at 2061 []) (.of (x2.v:TP))) h0 (Ye [(34,.ref (.bx 3) 0 [1] (zu (.at 2061 []) (.of (x2.v:TP))))] rfl rfl rfl) [(34,.ref (.bx 3) 0 [1] (zu (.at 2061 []) (.of (x2.v:TP))))] rfl rfl (by simp [V.live,V.lives,vt,ZR (α:=(Int×Int)) (fun _=>rfl),V.toks,V.tokss,z8,Y8,Enc.toks_enc,zO,uL]) (by simp [V.toks,V.tokss,z8,Enc.toks_enc,zO,uL]) ?_
     refine gm h0 fun h36=>LE (r:=zO) (b:=0) (x:=r3.2) (.ref (.bx 3) 0 [1] (zu (.at 2061 []) (.of (x2.v:TP)))) h0 (Ye [(3,.ref (.bx 3) 0 [] (.agg [ji x2.a,zu (.at 2061 []) (.of (x2.v:TP))]))] h3 rfl rfl) [(3,.ref (.bx 3) 0 [] (.agg [ji x2.a,zu (.at 2061 []) (.of (x2.v:TP))]))] h3 rfl (by simp [V.live,V.lives,vt,ZR (α:=(Int×Int)) (fun _=>rfl),V.toks,V.tokss,z8,Y8,Enc.toks_enc,zO,uL]) (by simp [V.toks,V.tokss,z8,Enc.toks_enc,zO,uL]) ?_
     refine LE (r:=zO) (b:=0) (x:=r3.2) (zu (.at 2061 []) (.of (x2.v:TP))) h0 (Ye [(37,.ref (.bx 3) 0 [1] (zu (.at 2061 []) (.of (x2.v:TP))))] rfl rfl rfl) [(37,.ref (.bx 3) 0 [1] (zu (.at 2061 []) (.of (x2.v:TP))))] rfl rfl (by simp [V.live,V.lives,vt,ZR (α:=(Int×Int)) (fun _=>rfl),V.toks,V.tokss,z8,Y8,Enc.toks_enc,zO,uL]) (by simp [V.toks,V.tokss,z8,Enc.toks_enc,zO,uL]) ?_
     refine LE (r:=zO) (b:=0) (x:=r3.2) (ji (x2.v.length:Int)) h0 (Mi (o:=.of x2.v) rfl) [(38,zu (.at 2061 []) (.of (x2.v:TP)))] rfl rfl (by simp [V.live,V.lives,vt,ZR (α:=(Int×Int)) (fun _=>rfl),V.toks,V.tokss,z8,Y8,Enc.toks_enc,zO,uL]) (by simp [V.toks,V.tokss,z8,Enc.toks_enc,zO,uL]) ?_
     obtain ⟨r8,Er8,h⟩:=zc h
     refine vf (r:=zO) (b:=0) (x:=r3.2) (x':=r8.2) (vs:=[Enc.enc ((x2.v.length:Int):Int)]) (res:=Enc.enc (r8.1:Int)) h0 (by exact (zJ (v:=cuV zO r3.2) h36 rfl (zJ (v:=Enc.enc ((x2.v.length:Int):Int)) rfl rfl yp))) (yb te yk) fm1 (H.c69 _ _ _ Er8) H.g69 te rfl (fun s17 hb17 ha17=>?_)
     obtain ⟨v9,Ev9,h⟩:=zc h
     refine gv (.ref (.at 2061 []) r8.1.toNat [] (.agg [ji v9.1,ji v9.2])) (Yg (o:=.of x2.v) (show s17 35=(zu (.at 2061 []) (.of (x2.v:TP))) from ha17 35 (zu (.at 2061 []) (.of (x2.v:TP))) _ rfl rfl (zl (r:=2061) (p:=[]) rfl rfl)) rfl Ev9 rfl) fun h41=>g1 41 (.agg [ji v9.1,ji v9.2]) h41 fun h42=>xb [(42,.agg [ji v9.1,ji v9.2])] [Enc.enc (v9:(Int×Int))] h42 rfl rfl (show s17 43 = .gone from ha17 43 _ _ h43 rfl rfl) ?_
     obtain ⟨ap10,Eap10,h⟩:=zc h
     refine Z0 (q:=2061) (p:=[]) (o:=.of (x2.v:TP)) (ys:=([v9]:TP)) (t2:=.at 43 []) (lo2:=0) (show s17 33=(zu (.at 2061 []) (.of (x2.v:TP))) from ha17 33 (zu (.at 2061 []) (.of (x2.v:TP))) _ rfl rfl (zl (r:=2061) (p:=[]) rfl rfl)) rfl rfl (show s17 44 = .gone from ha17 44 _ _ h44 rfl rfl) (vK (o:=.of (x2.v:TP)) Eap10 trivial) (fun s18 ha18=>?_)
     refine g1 3 (.ref (.bx 3) 0 [1] (kdO ((.of x2.v):NL (Int×Int)))) (show s18 3=(.ref (.bx 3) 0 [] (.agg [ji x2.a,kdO ((.of x2.v):NL (Int×Int))])) from YH ha18 (show s17 3=(.ref (.bx 3) 0 [] (.agg [ji x2.a,zu (.at 2061 []) (.of (x2.v:TP))])) from ha17 3 _ _ h3 rfl (zj rfl (zM (zg mi (zg (zl (r:=2061) (p:=[]) rfl rfl) zx))))) (zj rfl (zM (zg mi (zg WN zx)))) (by intro h;first | (cases h;done) | (subst h;rfl))) fun h45=>z5 (zu (.at 44 []) (.of (ap10:TP))) (zB h45 rfl) (zB rfl rfl) ⟨by decide,by decide,rfl,rfl,L7,WF rfl rfl⟩ (yK ?_)
     refine Jt (x:=2061) (fun s19 hx_19 hd_19=>yo (r:=44) (x:=2061) (v:=_) (by exact hx_19) rfl (fun s20 hz20=>?_))
     refine ez [(0,bC r8.2),(3,.ref (.bx 3) 0 [] (.agg [ji x2.a,zu (.at 2061 []) (.of (ap10:TP))])),(4,bZ 4)] ⟨hz20 0 _ _ (show s19 0=(bC r8.2) from (hd_19 0 (by decide)).trans (zd (show s18 0=(bC r8.2) from zy ha18 (show s17 0=(bC r8.2) from hb17 0 h0) (zj rfl wW)) (zH rfl rfl WI))) (zj rfl wW),hz20 3 _ (.ref (.bx 3) 0 [] (.agg [ji x2.a,zu (.at 2061 []) (.of (ap10:TP))])) (show s19 3=(.ref (.bx 3) 0 [] (.agg [ji x2.a,zu (.at 44 []) (.of (ap10:TP))])) from (hd_19 3 (by decide)).trans (zd (show s18 3=(.ref (.bx 3) 0 [] (.agg [ji x2.a,kdO ((.of x2.v):NL (Int×Int))])) from YH ha18 (show s17 3=(.ref (.bx 3) 0 [] (.agg [ji x2.a,zu (.at 2061 []) (.of (x2.v:TP))])) from ha17 3 _ _ h3 rfl (zj rfl (zM (zg mi (zg (zl (r:=2061) (p:=[]) rfl rfl) zx))))) (zj rfl (zM (zg mi (zg WN zx)))) (by intro h;first | (cases h;done) | (subst h;rfl))) (UH (zF rfl (zF Mf rfl))))) (zj rfl (zM (zg mi (zg (zl (r:=44) (p:=[]) rfl rfl) zx)))),hz20 4 _ _ (show s19 4=(bZ 4) from (hd_19 4 (by decide)).trans (zd (show s18 4=(bZ 4) from zy ha18 (show s17 4=(bZ 4) from ha17 4 _ _ h4 rfl (zj rfl (mIx rfl))) (zj rfl (mIx rfl))) (zH rfl rfl (yJ (zF rfl (zF rfl rfl)))))) (zj rfl (mIx rfl))⟩ ?_
     rintro s ⟨h0,h3,h4⟩
     refine .nbk (.nsq (.seq (rg (g1 3 (.agg [ji x2.a,zu (.at 2061 []) (.of (ap10:TP))]) h3 fun h46=>z5 (.agg [ji x2.a,zu (.at 2061 []) (.of (ap10:TP))]) (zB h4 rfl) (zB h46 rfl) (xo (by first | rfl | simp [V.toks,V.tokss,Enc.toks_enc,zY])) (yK (Yt (x:=46) (v:=.agg [ji x2.a,zu (.at 2061 []) (.of (ap10:TP))]) [.at 2061 []] (by exact (zd h46 (yJ (zF rfl (zF (wm rfl rfl) rfl))))) (by simp [V.toks,V.tokss,z8,Enc.toks_enc]) (fun s21 hz21=>?_)))))))
     refine ez [(0,bC r8.2),(4,.ref (.bx 4) 0 [] (.agg [ji x2.a,eP ap10]))] ⟨hz21 0 (bC r8.2) (bC r8.2) (zd h0 (zH rfl rfl WI)) (yV rfl Nu rfl),hz21 4 (.ref (.bx 4) 0 [] (.agg [ji x2.a,zu (.at 2061 []) (.of (ap10:TP))])) (.ref (.bx 4) 0 [] (.agg [ji x2.a,eP ap10])) (zd h4 rfl) (yV rfl (UU (wC rfl (wC vJ rfl))) rfl)⟩ ?_
     rintro s ⟨h0,h4⟩
     refine .nsq (.ret ?_)
     obtain rfl:=oi h
     exact rt1 (t:=0) (xZ h4 (by kernel_rfl)) h0
   refine .skip (.nbk (.nsq (.seq (rg (g1 3 (.agg [ji x2.a,zu (.at 2061 []) (.of (x2.v:TP))]) h3 fun h46=>z5 (.agg [ji x2.a,zu (.at 2061 []) (.of (x2.v:TP))]) (zB h4 rfl) (zB h46 rfl) (xo (by first | rfl | simp [V.toks,V.tokss,Enc.toks_enc,zY])) (yK (Yt (x:=46) (v:=.agg [ji x2.a,zu (.at 2061 []) (.of (x2.v:TP))]) [.at 2061 []] (by exact (zd h46 (yJ (zF rfl (zF (wm rfl rfl) rfl))))) (by simp [V.toks,V.tokss,z8,Enc.toks_enc]) (fun s22 hz22=>?_))))))))
   refine ez [(0,bC r3.2),(4,.ref (.bx 4) 0 [] (.agg [ji x2.a,eP x2.v]))] ⟨hz22 0 (bC r3.2) (bC r3.2) (zd h0 (zH rfl rfl WI)) (yV rfl Nu rfl),hz22 4 (.ref (.bx 4) 0 [] (.agg [ji x2.a,zu (.at 2061 []) (.of (x2.v:TP))])) (.ref (.bx 4) 0 [] (.agg [ji x2.a,eP x2.v])) (zd h4 rfl) (yV rfl (UU (wC rfl (wC vJ rfl))) rfl)⟩ ?_
   rintro s ⟨h0,h4⟩
   refine .nsq (.ret ?_)
   obtain rfl:=oi h
   exact rt1 (t:=0) (xZ h4 (by kernel_rfl)) h0
 refine .skip (.nbk (.nsq (.seq (rg (g1 3 (.agg [ji x2.a,zu (.at 2061 []) (.of (x2.v:TP))]) h3 fun h46=>z5 (.agg [ji x2.a,zu (.at 2061 []) (.of (x2.v:TP))]) (zB h4 rfl) (zB h46 rfl) (xo (by first | rfl | simp [V.toks,V.tokss,Enc.toks_enc,zY])) (yK (Yt (x:=46) (v:=.agg [ji x2.a,zu (.at 2061 []) (.of (x2.v:TP))]) [.at 2061 []] (by exact (zd h46 (yJ (zF rfl (zF (wm rfl rfl) rfl))))) (by simp [V.toks,V.tokss,z8,Enc.toks_enc]) (fun s23 hz23=>?_))))))))
 refine ez [(0,bC r3.2),(4,.ref (.bx 4) 0 [] (.agg [ji x2.a,eP x2.v]))] ⟨hz23 0 (bC r3.2) (bC r3.2) (zd h0 (zH rfl rfl WI)) (yV rfl Nu rfl),hz23 4 (.ref (.bx 4) 0 [] (.agg [ji x2.a,zu (.at 2061 []) (.of (x2.v:TP))])) (.ref (.bx 4) 0 [] (.agg [ji x2.a,eP x2.v])) (zd h4 rfl) (yV rfl (UU (wC rfl (wC vJ rfl))) rfl)⟩ ?_
 rintro s ⟨h0,h4⟩
 refine .nsq (.ret ?_)
 obtain rfl:=oi h
 exact rt1 (t:=0) (xZ h4 (by kernel_rfl)) h0
end
def e82 (F:Nat):Ent:=ent 82 (fun (x:(CC×(Oh (Int×Int))×Unit))=>vF F x.1 x.2.1) (fun (r:(GR×CU))=>(.tup [Enc.enc (r.1:GR),.tup [cuV zO r.2]])) uK false []
abbrev C82 (D:List V→Option V) (F:Nat):Prop:=∀ (x0:CC) (x1:(Oh (Int×Int))) r,vF F x0 x1=some r→D [Arg.arg x0,Arg.arg x1]=some (.tup [Enc.enc (r.1:GR),.tup [cuV zO r.2]])
theorem p82 {F:Nat}:C82 (e82 F).den F:=fun x0 x1 _ h=>zS (x0,x1,()) h
theorem o82 (hF:zG Try.prog D σ) (H:H82 D σ F):(e82 F).Ok Try.prog:=okZ (f:=82) Try.func82 fun ⟨x0,x1,_⟩ y hy=>cT hF Try.func82 c82 (t82 H x0 x1 _ ⟨rfl,rfl⟩ hy)
def U1:AC:=(.seq (rr [jm 98 0,jv 99 (.load (.ag [.s,.p]) (.t 6)),jx 100 (.callT (jf 82) [.t 98,.t 99] [0] [99]),jz (.store (.ag [.s,.p]) (.t 4) (.t 100))]) .ret)
def zpf:AC:=(.cond (.t 39) .skip (.exit 1))
def zpO:AC:=(.cond (.t 46) .skip (.exit 3))
def zsO:AC:=(.cond (.t 52) (.reg [.clr [58]] [jv 53 (.fld (.t 6) 1 1),jv 54 (.load .p (.t 53)),jm 55 9,jm 56 10,jv 57 (.bld (.agg [i0,i0]) [(0,0,.t 55),(1,1,.t 56)]),jx 58 (.callO (jf 81) [.t 54,.t 57]),jv 59 (.fld (.t 6) 1 1),jz (.store .p (.t 59) (.t 58))] [.drp 28,.home 58 28]) .skip)
def zhP:AC:=(rr [jm 47 10,jv 48 (.bin .add (.t 47) (jn 1)),jm 10 48])
def zst:AC:=(.seq (.block 4 (.seq (rr [jm 49 0,jm 50 7,jx 51 (.callT (jf 69) [.t 49,.t 50] [0] []),jv 52 (.bin .eql (.t 51) (jn 0))]) zsO)) zhP)
def Qc:AC:=(.seq (.seq (rr [jm 44 10,jm 45 5,jv 46 (.bin .lss (.t 44) (.t 45))]) zpO) zst)
def ztb:AC:=(.block 3 (.loop Qc))
def zhx:AC:=(.cond (.t 76) (.reg [.clr [82]] [jv 77 (.fld (.t 6) 1 1),jv 78 (.load .p (.t 77)),jm 79 11,jm 80 9,jv 81 (.bld (.agg [i0,i0]) [(0,0,.t 79),(1,1,.t 80)]),jx 82 (.callO (jf 81) [.t 78,.t 81]),jv 83 (.fld (.t 6) 1 1),jz (.store .p (.t 83) (.t 82))] [.drp 28,.home 82 28]) .skip)
def znb:AC:=(.seq (rr [jm 64 9,jv 65 (.bin .gtr (.t 64) (jn 0)),jm 66 65,jg 67 66 true (.mov (.t 8)),jg 68 66 true (.un .not (.t 67)),jv 69 (.pick (.t 66) (.t 68) kf),jm 70 69,jg 71 70 true (.load (.ag [.s,.p]) (.t 6)),jg 72 70 true (.mov (.t 9)),jg 73 70 true (.mov (.t 11)),.mk (some 74) (some (70,true)) false (.call (jf 65) [.t 71,.t 72,.t 73]),jg 75 70 true (.un .not (.t 74)),jv 76 (.pick (.t 70) (.t 75) kf)]) zhx)
def Q7:AC:=(.seq (rr [jm 60 0,jm 61 9,jx 62 (.call (jf 37) [.t 61,jn 1]),jx 63 (.callT (jf 69) [.t 60,.t 62] [0] []),jm 11 63]) znb)
def KW:AC:=(rr [jm 40 9,jv 41 (.bin .add (.t 40) (jn 1)),jm 9 41])
def zp7:AC:=(.seq (.block 2 (.seq (.seq (rr [jm 42 9,jv 43 (.bin .add (.t 42) (jn 1)),jm 10 43]) ztb) Q7)) KW)
def XS:AC:=(.seq (.seq (rr [jm 37 9,jm 38 5,jv 39 (.bin .lss (.t 37) (.t 38))]) zpf) zp7)
def zmO:AC:=(.cond (.t 91) (.reg [.clr [93]] [jm 92 5,jx 93 (.callO (jf 79) [.t 92]),jz (.store (.ag [.s,.p]) (.t 6) (.t 93))] [.drp 28,.ren 28 93 [1]]) .skip)
def zmK:AC:=(.block 1 (.loop XS))
def znZ:AC:=(.seq (rr [jv 9 (.mov (jn 0))]) zmK)
def znW:AC:=(.cond (.t 94) (.reg [.clr [97]] [jm 96 5,jx 97 (.callO (jf 80) [.t 96]),jz (.store (.ag [.s,.p]) (.t 6) (.t 97))] [.drp 28,.ren 28 97 [1]]) (.seq (.reg [.clr [33]] [jm 32 0,jx 33 (.litS i0 3 [(0,0,jn 3),(1,1,jn 4),(2,2,jn 6)]),jx 34 (.callT (jf 70) [.t 32,.t 33] [0] []),jm 35 0,jx 36 (.callT (jf 48) [.t 35,jn 6] [0] []),jm 7 34,jm 8 36] []) znZ))
def zod:AC:=(.cond (.t 88) (.seq (rr [jm 90 5,jv 91 (.bin .gtr (.t 90) (jn 2))]) zmO) (.seq (rr [jv 95 (.bin .eql (.t 31) (jn 2)),jm 94 95]) znW))
def znB:AC:=(.cond (.t 84) (.reg [.clr [87]] [jm 86 5,jx 87 (.callO (jf 78) [.t 86]),jz (.store (.ag [.s,.p]) (.t 6) (.t 87))] [.drp 28,.ren 28 87 [1]]) (.seq (rr [jv 89 (.bin .eql (.t 31) (jn 1)),jm 88 89]) zod))
def zmA:AC:=(.block 0 (.seq (rr [jv 85 (.bin .eql (.t 31) (jn 0)),jm 84 85]) znB))
def zor:AC:=(.seq (.seq (rr [jm 30 0,jx 31 (.callT (jf 69) [.t 30,jn 8] [0] [])]) zmA) U1)
def znf:AC:=(.seq (.reg [.clr [28,6]] [jm 27 5,jx 28 (.lit (.agg [i0,i0]) 0 []),jv 29 (.bld (.agg [i0,.sl .nl (.ag [.s,.s]) 0 []]) [(0,0,.t 27),(1,1,.t 28)]),jx 6 (.alloc (.agg [i0,.sl .nl (.ag [.s,.s]) 0 []])),jz (.store (.ag [.s,.p]) (.t 6) (.t 29))] []) zor)
def zdG:AC:=(.seq (rr [jm 24 5,jm 25 1,jx 26 (.call (jf 68) [.t 24,.t 25]),jm 5 26]) znf)
def zji:AC:=(.cond (.t 20) (rr [jm 21 0,jx 22 (.callT (jf 69) [.t 21,jn 2] [0] []),jv 23 (.bin .add (jn 7) (.t 22)),jm 5 23]) .skip)
def znX:AC:=(.seq (.seq (rr [jm 15 1,jv 16 (.bin .gtr (.t 15) (jn 6)),jm 17 16,jg 18 17 true (.mov (.t 0)),.mk (some 19) (some (17,true)) false (.callT (jf 48) [.t 18,jn 4] [0] []),jv 20 (.pick (.t 17) (.t 19) kf)]) zji) zdG)
def znA:AC:=(.seq (.reg [.clr [13]] [jm 12 0,jx 13 (.litS i0 7 [(0,0,jn 4),(1,1,jn 5),(2,2,jn 3),(3,3,jn 6),(4,4,jn 2),(5,5,jn 1),(6,6,jn 0)]),jx 14 (.callT (jf 70) [.t 12,.t 13] [0] []),jm 5 14] []) znX)
def A67:AC:=(.seq (.reg [.clr [4]] [jx 4 (.alloc (.agg [i0,.sl .nl (.ag [.s,.s]) 0 []]))] []) znA)
def zvg:List An:=[⟨0,[.clr [4]],[],[],[]⟩,⟨1,[.clr [13]],[],[3000000,6001],[]⟩,⟨2,[],[],[5000000],[]⟩,⟨3,[],[],[2000000],[]⟩,⟨5,[.clr [28,6]],[],[],[]⟩,⟨6,[],[],[2000000],[]⟩,⟨7,[.clr [33]],[],[3000000,6001,5000000],[]⟩,⟨14,[],[],[3000000],[]⟩,⟨15,[.clr [58]],[],[1005],[.drp 28,.home 58 28]⟩,⟨16,[],[],[4000000],[]⟩,⟨18,[.clr [82]],[],[1005],[.drp 28,.home 82 28]⟩,⟨20,[.clr [87]],[],[1001],[.drp 28,.ren 28 87 [1]]⟩,⟨23,[.clr [93]],[],[1001],[.drp 28,.ren 28 93 [1]]⟩,⟨25,[.clr [97]],[],[1001],[.drp 28,.ren 28 97 [1]]⟩,⟨26,[],[],[3000000,3500099],[]⟩]
theorem c67:cq Try.prog Try.f67 zvg=some A67:=by kernel_rfl
structure H67 (D:Den) (σ:Sig) (F:Nat):Prop where
 c70:C70 (D 70) F
 g70:σ 70=some (uK,false)
 c48:C48 (D 48) F
 g48:σ 48=some (uK,false)
 c69:C69 (D 69) F
 g69:σ 69=some (uK,false)
 c68:C68 (D 68) F
 g68:σ 68=some (0,false)
 c78o:zm4 (D 1000000078) F
 g78o:σ 1000000078=some (1,false)
 c79o:ztn (D 1000000079) F
 g79o:σ 1000000079=some (1,false)
 c80o:zs2 (D 1000000080) F
 g80o:σ 1000000080=some (1,false)
 c81o:zmJ (D 1000000081) F
 g81o:σ 1000000081=some (1,false)
 c37:C37 (D 37) F
 g37:σ 37=some (0,false)
 c65:C65 (D 65) F
 g65:σ 65=some (0,false)
 c82:C82 (D 82) F
 g82:σ 82=some (uK,false)
abbrev R67 (r:(GR×CU)):(Nat→V)→Prop:=RT Try.prog [.cell 4 26] (Enc.enc (r.1:GR)) [cuV zO r.2]
section
variable {r:(GR×CU)}
def yW (F:Nat)   (x101:LB) (x102:Int) (x103:Int) (x104:Int) (x105:(NL (Int×Int))):Option (GR×CU):=
 (zok x105).bind fun li107=>
 (vF F (cu x101 x102 x103) (Oh.mk x104 li107:Oh (Int×Int))).bind fun r106=>
 some (r106.1,r106.2)
theorem Jq (H:H67 D σ F)   (x101:LB) (x102:Int) (x103:Int) (x104:Int) (x105:(NL (Int×Int))) (s:Nat→V) (hs:zr [(0,.ref (.bx zO) 0 [] (.agg [eB x101,ji x102,.int .u64 x103])),(4,bZ 4),(6,.ref (.bx 6) 0 [] (.agg [ji x104,zu (.at 28 []) (x105:NL (Int×Int))]))] s) (h:yW F   x101 x102 x103 x104 x105=some r):Run D σ (R67 r) (.nrm [.bk 0,.sq U1]) s:=by
 unfold yW at h
 obtain ⟨h0,h4,h6⟩:=hs
 refine .nbk (.nsq (.seq (rg (gm h0 fun h98=>gv (.agg [ji x104,zu (.at 28 []) (x105:NL (Int×Int))]) (Ud (c:=.agg [ji x104,zu (.at 28 []) (x105:NL (Int×Int))]) h6 (by simp [V.shape,V.shapes,wk,J7,Sh.beq,Sh.beqs])) fun h99=>?_))))
 obtain ⟨li107,Eli107,h⟩:=zc h
 obtain ⟨r106,Er106,h⟩:=zc h
 refine zn1 (r:=zO) (b:=0) (e:=99) (q:=28) (ρ:=[]) (x:=((S3.mk x101 x102 (Kd.mk x103:Kd .u64)):CU)) (x':=r106.2) (n:=x104) (xs:=(li107:TP)) (res:=Enc.enc (r106.1:GR)) h0 (zcn Eli107 h99) (by exact (zJ (v:=cuV zO ((S3.mk x101 x102 (Kd.mk x103:Kd .u64)):CU)) h98 rfl (zJ (v:=.agg [ji x104,zu (.at 28 []) (.of (li107:TP))]) (zcn Eli107 h99) rfl yp))) (H.c82 _ _ _ Er106) H.g82 te rfl (fun s106 hb106 ha106=>z5 (gV r106.1) (zB (show s106 4=(bZ 4) from ha106 4 _ _ h4 rfl (zj rfl (mIx rfl))) rfl) (zB rfl rfl) (xo (by first | rfl | simp [V.toks,V.tokss,Enc.toks_enc,zY])) ?_)
 refine gz [(0,bC r106.2),(4,bG 4 r106.1)] ⟨zd (show s106 0=(bC r106.2) from hb106 0 h0) (zH rfl rfl WI),zd (show s106 4=(bZ 4) from ha106 4 _ _ h4 rfl (zj rfl (mIx rfl))) rfl⟩ ?_
 rintro s ⟨h0,h4⟩
 refine .nsq (.ret ?_)
 obtain rfl:=oi h
 exact rt1 (t:=0) (xZ h4 (by kernel_rfl)) h0
def vZ (F:Nat) (r181:(Int×CU)) (r14:Int) (r111:(Int×CU)) (r112:(Bool×CU)) (x142:Int) (x176:Int) (c5:LB→Int→Int→(NL (Int×Int))→Int→Option (GR×CU)) (c8:LB→Int→Int→(NL (Int×Int))→Int→Option (GR×CU)) (x183:(NL (Int×Int))):Option (GR×CU):=
 c8 r181.2.a r181.2.b r181.2.c.v x183 (w64 (x176 + 1))
theorem zcx (H:H67 D σ F) (r181:(Int×CU)) (r14:Int) (r111:(Int×CU)) (r112:(Bool×CU)) (x142:Int) (x176:Int) (c5:LB→Int→Int→(NL (Int×Int))→Int→Option (GR×CU)) (Hc5:∀ (x138:LB) (x139:Int) (x140:Int) (x141:(NL (Int×Int))) (x142:Int) (s:Nat→V),zr [(0,.ref (.bx zO) 0 [] (.agg [eB x138,ji x139,.int .u64 x140])),(4,bZ 4),(5,ji r14),(6,.ref (.bx 6) 0 [] (.agg [ji r14,zu (.at 28 []) (x141:NL (Int×Int))])),(7,ji r111.1),(8,jb r112.1),(9,ji x142)] s→c5 x138 x139 x140 x141 x142=some r→Run D σ (R67 r) (.run XS [.lp XS,.bk 1,.bk 0,.sq U1]) s) (c8:LB→Int→Int→(NL (Int×Int))→Int→Option (GR×CU)) (Hc8:∀ (x172:LB) (x173:Int) (x174:Int) (x175:(NL (Int×Int))) (x176:Int) (s:Nat→V),zr [(0,.ref (.bx zO) 0 [] (.agg [eB x172,ji x173,.int .u64 x174])),(4,bZ 4),(5,ji r14),(6,.ref (.bx 6) 0 [] (.agg [ji r14,zu (.at 28 []) (x175:NL (Int×Int))])),(7,ji r111.1),(8,jb r112.1),(9,ji x142),(10,ji x176)] s→c8 x172 x173 x174 x175 x176=some r→Run D σ (R67 r) (.run Qc [.lp Qc,.bk 3,.sq Q7,.bk 2,.sq KW,.lp XS,.bk 1,.bk 0,.sq U1]) s) (x183:(NL (Int×Int))) (s:Nat→V) (hs:zr [(0,bC r181.2),(4,bZ 4),(5,ji r14),(6,.ref (.bx 6) 0 [] (.agg [ji r14,zu (.at 28 []) (x183:NL (Int×Int))])),(7,ji r111.1),(8,jb r112.1),(9,ji x142),(10,ji x176)] s) (h:vZ F r181 r14 r111 r112 x142 x176 c5 c8 x183=some r):Run D σ (R67 r) (.nrm [.bk 4,.sq zhP,.lp Qc,.bk 3,.sq Q7,.bk 2,.sq KW,.lp XS,.bk 1,.bk 0,.sq U1]) s:=by
 unfold vZ at h
 obtain ⟨h0,h4,h5,h6,h7,h8,h9,h10⟩:=hs
 refine .nbk (.nsq (rg (gm h10 fun h47=>g1 47 (ji (w64 (x176 + 1))) h47 fun h48=>gm h48 fun h10=>gq (.nlp ?_))))
 exact Hc8 r181.2.a r181.2.b r181.2.c.v x183 (w64 (x176 + 1)) _ ⟨h0,h4,h5,h6,h7,h8,h9,h10⟩ h
def ud (F:Nat) (r186:(Int×CU)) (r14:Int) (r111:(Int×CU)) (r112:(Bool×CU)) (x142:Int) (c5:LB→Int→Int→(NL (Int×Int))→Int→Option (GR×CU)) (x190:(NL (Int×Int))):Option (GR×CU):=
 c5 r186.2.a r186.2.b r186.2.c.v x190 (w64 (x142 + 1))
theorem zbV (H:H67 D σ F) (r186:(Int×CU)) (r14:Int) (r111:(Int×CU)) (r112:(Bool×CU)) (x142:Int) (c5:LB→Int→Int→(NL (Int×Int))→Int→Option (GR×CU)) (Hc5:∀ (x138:LB) (x139:Int) (x140:Int) (x141:(NL (Int×Int))) (x142:Int) (s:Nat→V),zr [(0,.ref (.bx zO) 0 [] (.agg [eB x138,ji x139,.int .u64 x140])),(4,bZ 4),(5,ji r14),(6,.ref (.bx 6) 0 [] (.agg [ji r14,zu (.at 28 []) (x141:NL (Int×Int))])),(7,ji r111.1),(8,jb r112.1),(9,ji x142)] s→c5 x138 x139 x140 x141 x142=some r→Run D σ (R67 r) (.run XS [.lp XS,.bk 1,.bk 0,.sq U1]) s) (x190:(NL (Int×Int))) (s:Nat→V) (hs:zr [(0,bC r186.2),(4,bZ 4),(5,ji r14),(6,.ref (.bx 6) 0 [] (.agg [ji r14,zu (.at 28 []) (x190:NL (Int×Int))])),(7,ji r111.1),(8,jb r112.1),(9,ji x142)] s) (h:ud F r186 r14 r111 r112 x142 c5 x190=some r):Run D σ (R67 r) (.nrm [.bk 2,.sq KW,.lp XS,.bk 1,.bk 0,.sq U1]) s:=by
 unfold ud at h
 obtain ⟨h0,h4,h5,h6,h7,h8,h9⟩:=hs
 refine .nbk (.nsq (rg (gm h9 fun h40=>g1 40 (ji (w64 (x142 + 1))) h40 fun h41=>gm h41 fun h9=>gq (.nlp ?_))))
 exact Hc5 r186.2.a r186.2.b r186.2.c.v x190 (w64 (x142 + 1)) _ ⟨h0,h4,h5,h6,h7,h8,h9⟩ h
def xk (F:Nat) (r186:(Int×CU)) (r14:Int) (x175:(NL (Int×Int))) (r111:(Int×CU)) (r112:(Bool×CU)) (x142:Int) (c5:LB→Int→Int→(NL (Int×Int))→Int→Option (GR×CU)) (x188:Bool):Option (GR×CU):=
 bif x188 then
  (ZS F x175.list (r186.1,x142)).bind fun r191=>
  ud F r186 r14 r111 r112 x142 c5 r191
 else
  ud F r186 r14 r111 r112 x142 c5 x175
theorem Nj (H:H67 D σ F) (r186:(Int×CU)) (r14:Int) (x175:(NL (Int×Int))) (r111:(Int×CU)) (r112:(Bool×CU)) (x142:Int) (c5:LB→Int→Int→(NL (Int×Int))→Int→Option (GR×CU)) (Hc5:∀ (x138:LB) (x139:Int) (x140:Int) (x141:(NL (Int×Int))) (x142:Int) (s:Nat→V),zr [(0,.ref (.bx zO) 0 [] (.agg [eB x138,ji x139,.int .u64 x140])),(4,bZ 4),(5,ji r14),(6,.ref (.bx 6) 0 [] (.agg [ji r14,zu (.at 28 []) (x141:NL (Int×Int))])),(7,ji r111.1),(8,jb r112.1),(9,ji x142)] s→c5 x138 x139 x140 x141 x142=some r→Run D σ (R67 r) (.run XS [.lp XS,.bk 1,.bk 0,.sq U1]) s) (x188:Bool) (s:Nat→V) (hs:zr [(0,bC r186.2),(4,bZ 4),(5,ji r14),(6,.ref (.bx 6) 0 [] (.agg [ji r14,zu (.at 28 []) (x175:NL (Int×Int))])),(7,ji r111.1),(8,jb r112.1),(9,ji x142),(11,ji r186.1),(76,jb x188)] s) (h:xk F r186 r14 x175 r111 r112 x142 c5 x188=some r):Run D σ (R67 r) (.nrm [.sq zhx,.bk 2,.sq KW,.lp XS,.bk 1,.bk 0,.sq U1]) s:=by
 unfold xk at h
 obtain ⟨h0,h4,h5,h6,h7,h8,h9,h11,h76⟩:=hs
 refine .nsq (zn h76 h (fun h=>?_) (fun h=>?_))
 · refine zw (zW ?_)
   refine ez [(0,_),(4,_),(5,_),(6,_),(7,_),(8,_),(9,_),(11,_),(82,_)] ⟨za h0 rfl (zj rfl wW),za h4 rfl (zj rfl (mIx rfl)),za h5 rfl mi,za h6 rfl (zj rfl (zM (zg mi (zg (zl (r:=28) (p:=[]) rfl rfl) zx)))),za h7 rfl mi,za h8 rfl mb,za h9 rfl mi,za h11 rfl mi,ze rfl⟩ ?_
   rintro s ⟨h0,h4,h5,h6,h7,h8,h9,h11,h82⟩
   refine g1 6 (.ref (.bx 6) 0 [1] (zu (.at 28 []) (x175:NL (Int×Int)))) h6 fun h77=>gv (zu (.at 28 []) (x175:NL (Int×Int))) (Ud h77 Nn) fun h78=>gm h11 fun h79=>gm h9 fun h80=>g2 79 80 (.agg [ji r186.1,ji x142]) h79 h80 fun h81=>?_
   obtain ⟨r191,Er191,h⟩:=zc h
   refine UV (m:=1) (al:=false) (r:=zu .sh (r191:NL (Int×Int))) (v:=zu (.at 82 []) (r191:NL (Int×Int))) (kk:=1000000081) [eP x175.list,Enc.enc ((r186.1,x142):(Int×Int))] (zf h78 XV (We (o:=x175)) (zf h81 rfl (Enc.erase_enc ((r186.1,x142):(Int×Int))) zC)) (H.c81o _ _ _ Er191) H.g81o rfl Xe WC XV h82 (g1 6 (.ref (.bx 6) 0 [1] (zu (.at 28 []) (x175:NL (Int×Int)))) h6 fun h83=>z5 (zu (.at 82 []) (r191:NL (Int×Int))) (zB h83 rfl) (zB rfl XV) ⟨by decide,by decide,Mx,Uy,Uy,WF rfl rfl⟩ (yK (Jt (x:=28) (fun s202 hx_202 hd_202=>?_))))
   refine yo (r:=82) (x:=28) (v:=_) (by exact hx_202) rfl (fun s203 hz203=>?_)
   refine ez [(0,bC r186.2),(4,bZ 4),(5,ji r14),(6,.ref (.bx 6) 0 [] (.agg [ji r14,zu (.at 28 []) (r191:NL (Int×Int))])),(7,ji r111.1),(8,jb r112.1),(9,ji x142)] ⟨hz203 0 _ _ (show s202 0=(bC r186.2) from (hd_202 0 (by decide)).trans (zd h0 (zH rfl rfl WI))) (zj rfl wW),hz203 4 _ _ (show s202 4=(bZ 4) from (hd_202 4 (by decide)).trans (zd h4 (zH rfl rfl (yJ (zF rfl (zF rfl rfl)))))) (zj rfl (mIx rfl)),hz203 5 _ _ (show s202 5=(ji r14) from (hd_202 5 (by decide)).trans (zd h5 rfl)) mi,hz203 6 _ (.ref (.bx 6) 0 [] (.agg [ji r14,zu (.at 28 []) (r191:NL (Int×Int))])) (show s202 6=(.ref (.bx 6) 0 [] (.agg [ji r14,zu (.at 82 []) (r191:NL (Int×Int))])) from (hd_202 6 (by decide)).trans (zd h6 (UH (zF rfl (zF (wm rfl rfl) rfl))))) (zj rfl (zM (zg mi (zg (zl (r:=82) (p:=[]) rfl rfl) zx)))),hz203 7 _ _ (show s202 7=(ji r111.1) from (hd_202 7 (by decide)).trans (zd h7 rfl)) mi,hz203 8 _ _ (show s202 8=(jb r112.1) from (hd_202 8 (by decide)).trans (zd h8 rfl)) mb,hz203 9 _ _ (show s202 9=(ji x142) from (hd_202 9 (by decide)).trans (zd h9 rfl)) mi⟩ ?_
   rintro s ⟨h0,h4,h5,h6,h7,h8,h9⟩
   exact zbV H r186 r14 r111 r112 x142 c5 Hc5 r191 _ ⟨h0,h4,h5,h6,h7,h8,h9⟩ h
 refine .skip ?_
 exact zbV H r186 r14 r111 r112 x142 c5 Hc5 x175 _ ⟨h0,h4,h5,h6,h7,h8,h9⟩ h
def yr (F:Nat) (r14:Int) (r111:(Int×CU)) (r112:(Bool×CU)) (x142:Int) (c5:LB→Int→Int→(NL (Int×Int))→Int→Option (GR×CU)):Nat→LB→Int→Int→(NL (Int×Int))→Int→Option (GR×CU)
 | 0,_,_,_,_,_=>none
 | k + 1,x172,x173,x174,x175,x176=>
   bif decide (x176 < r14) then
    (yj F (cu x172 x173 x174) r111.1).bind fun r181=>
    bif (r181.1 == 0) then
     (ZS F x175.list (x142,x176)).bind fun r184=>
     vZ F r181 r14 r111 r112 x142 x176 c5 (yr F r14 r111 r112 x142 c5 k) r184
    else
     vZ F r181 r14 r111 r112 x142 x176 c5 (yr F r14 r111 r112 x142 c5 k) x175
   else
    (YX F x142 1).bind fun r185=>
    (yj F (cu x172 x173 x174) r185).bind fun r186=>
    bif decide (x142 > 0) then
     bif (!r112.1) then
      (Z4 F (r14,x175.list) x142 r186.1).bind fun r192=>
      xk F r186 r14 x175 r111 r112 x142 c5 (!r192)
     else
      xk F r186 r14 x175 r111 r112 x142 c5 false
    else
     xk F r186 r14 x175 r111 r112 x142 c5 false
theorem zhO (H:H67 D σ F) (r14:Int) (r111:(Int×CU)) (r112:(Bool×CU)) (x142:Int) (c5:LB→Int→Int→(NL (Int×Int))→Int→Option (GR×CU)) (Hc5:∀ (x138:LB) (x139:Int) (x140:Int) (x141:(NL (Int×Int))) (x142:Int) (s:Nat→V),zr [(0,.ref (.bx zO) 0 [] (.agg [eB x138,ji x139,.int .u64 x140])),(4,bZ 4),(5,ji r14),(6,.ref (.bx 6) 0 [] (.agg [ji r14,zu (.at 28 []) (x141:NL (Int×Int))])),(7,ji r111.1),(8,jb r112.1),(9,ji x142)] s→c5 x138 x139 x140 x141 x142=some r→Run D σ (R67 r) (.run XS [.lp XS,.bk 1,.bk 0,.sq U1]) s):∀ (k:Nat) (x172:LB) (x173:Int) (x174:Int) (x175:(NL (Int×Int))) (x176:Int) (s:Nat→V),zr [(0,.ref (.bx zO) 0 [] (.agg [eB x172,ji x173,.int .u64 x174])),(4,bZ 4),(5,ji r14),(6,.ref (.bx 6) 0 [] (.agg [ji r14,zu (.at 28 []) (x175:NL (Int×Int))])),(7,ji r111.1),(8,jb r112.1),(9,ji x142),(10,ji x176)] s→yr F r14 r111 r112 x142 c5 k x172 x173 x174 x175 x176=some r→Run D σ (R67 r) (.run Qc [.lp Qc,.bk 3,.sq Q7,.bk 2,.sq KW,.lp XS,.bk 1,.bk 0,.sq U1]) s:=by
 intro k
 induction k with
 | zero=>intro x172 x173 x174 x175 x176 s _ h;exact nm h
 | succ k ih=>
   intro x172 x173 x174 x175 x176 s hs h
   rw [yr] at h
   obtain ⟨h0,h4,h5,h6,h7,h8,h9,h10⟩:=hs
   refine .seq (.seq (rg (gm h10 fun h44=>gm h5 fun h45=>g2 44 45 (jb (decide (x176 < r14))) h44 h45 fun h46=>gq (.nsq (zn h46 h (fun h=>?_) (fun h=>?_))))))
   · refine .skip (.nsq (.seq (.block (.seq (rg (gm h0 fun h49=>gm h7 fun h50=>?_))))))
     obtain ⟨r181,Er181,h⟩:=zc h
     refine vf (r:=zO) (b:=0) (x:=((S3.mk x172 x173 (Kd.mk x174:Kd .u64)):CU)) (x':=r181.2) (vs:=[Enc.enc (r111.1:Int)]) (res:=Enc.enc (r181.1:Int)) h0 (by exact (zJ (v:=cuV zO ((S3.mk x172 x173 (Kd.mk x174:Kd .u64)):CU)) h49 rfl (zJ (v:=Enc.enc (r111.1:Int)) h50 rfl yp))) (yb te yk) fm1 (H.c69 _ _ _ Er181) H.g69 te rfl (fun s190 hb190 ha190=>g1 51 (jb (r181.1 == 0)) (rf (ji r181.1)) fun h52=>?_)
     refine gz [(0,_),(4,bZ 4),(5,ji r14),(6,.ref (.bx 6) 0 [] (.agg [ji r14,zu (.at 28 []) (x175:NL (Int×Int))])),(7,ji r111.1),(8,jb r112.1),(9,ji x142),(10,ji x176),(52,_)] ⟨(show s190 0=(bC r181.2) from hb190 0 h0),(show s190 4=(bZ 4) from ha190 4 _ _ h4 rfl (zj rfl (mIx rfl))),(show s190 5=(ji r14) from ha190 5 _ _ h5 rfl mi),(show s190 6=(.ref (.bx 6) 0 [] (.agg [ji r14,zu (.at 28 []) (x175:NL (Int×Int))])) from ha190 6 _ _ h6 rfl (zj rfl (zM (zg mi (zg (zl (r:=28) (p:=[]) rfl rfl) zx))))),(show s190 7=(ji r111.1) from ha190 7 _ _ h7 rfl mi),(show s190 8=(jb r112.1) from ha190 8 _ _ h8 rfl mb),(show s190 9=(ji x142) from ha190 9 _ _ h9 rfl mi),(show s190 10=(ji x176) from ha190 10 _ _ h10 rfl mi),h52⟩ ?_
     rintro s ⟨h0,h4,h5,h6,h7,h8,h9,h10,h52⟩
     refine .nsq (zn h52 h (fun h=>?_) (fun h=>?_))
     · refine zw (zW ?_)
       refine ez [(0,_),(4,_),(5,_),(6,_),(7,_),(8,_),(9,_),(10,_),(58,_)] ⟨za h0 rfl (zj rfl wW),za h4 rfl (zj rfl (mIx rfl)),za h5 rfl mi,za h6 rfl (zj rfl (zM (zg mi (zg (zl (r:=28) (p:=[]) rfl rfl) zx)))),za h7 rfl mi,za h8 rfl mb,za h9 rfl mi,za h10 rfl mi,ze rfl⟩ ?_
       rintro s ⟨h0,h4,h5,h6,h7,h8,h9,h10,h58⟩
       refine g1 6 (.ref (.bx 6) 0 [1] (zu (.at 28 []) (x175:NL (Int×Int)))) h6 fun h53=>gv (zu (.at 28 []) (x175:NL (Int×Int))) (Ud h53 Nn) fun h54=>gm h9 fun h55=>gm h10 fun h56=>g2 55 56 (.agg [ji x142,ji x176]) h55 h56 fun h57=>?_
       obtain ⟨r184,Er184,h⟩:=zc h
       refine UV (m:=1) (al:=false) (r:=zu .sh (r184:NL (Int×Int))) (v:=zu (.at 58 []) (r184:NL (Int×Int))) (kk:=1000000081) [eP x175.list,Enc.enc ((x142,x176):(Int×Int))] (zf h54 XV (We (o:=x175)) (zf h57 rfl (Enc.erase_enc ((x142,x176):(Int×Int))) zC)) (H.c81o _ _ _ Er184) H.g81o rfl Xe WC XV h58 (g1 6 (.ref (.bx 6) 0 [1] (zu (.at 28 []) (x175:NL (Int×Int)))) h6 fun h59=>z5 (zu (.at 58 []) (r184:NL (Int×Int))) (zB h59 rfl) (zB rfl XV) ⟨by decide,by decide,Mx,Uy,Uy,WF rfl rfl⟩ (yK (Jt (x:=28) (fun s195 hx_195 hd_195=>?_))))
       refine yo (r:=58) (x:=28) (v:=_) (by exact hx_195) rfl (fun s196 hz196=>?_)
       refine ez [(0,bC r181.2),(4,bZ 4),(5,ji r14),(6,.ref (.bx 6) 0 [] (.agg [ji r14,zu (.at 28 []) (r184:NL (Int×Int))])),(7,ji r111.1),(8,jb r112.1),(9,ji x142),(10,ji x176)] ⟨hz196 0 _ _ (show s195 0=(bC r181.2) from (hd_195 0 (by decide)).trans (zd h0 (zH rfl rfl WI))) (zj rfl wW),hz196 4 _ _ (show s195 4=(bZ 4) from (hd_195 4 (by decide)).trans (zd h4 (zH rfl rfl (yJ (zF rfl (zF rfl rfl)))))) (zj rfl (mIx rfl)),hz196 5 _ _ (show s195 5=(ji r14) from (hd_195 5 (by decide)).trans (zd h5 rfl)) mi,hz196 6 _ (.ref (.bx 6) 0 [] (.agg [ji r14,zu (.at 28 []) (r184:NL (Int×Int))])) (show s195 6=(.ref (.bx 6) 0 [] (.agg [ji r14,zu (.at 58 []) (r184:NL (Int×Int))])) from (hd_195 6 (by decide)).trans (zd h6 (UH (zF rfl (zF (wm rfl rfl) rfl))))) (zj rfl (zM (zg mi (zg (zl (r:=58) (p:=[]) rfl rfl) zx)))),hz196 7 _ _ (show s195 7=(ji r111.1) from (hd_195 7 (by decide)).trans (zd h7 rfl)) mi,hz196 8 _ _ (show s195 8=(jb r112.1) from (hd_195 8 (by decide)).trans (zd h8 rfl)) mb,hz196 9 _ _ (show s195 9=(ji x142) from (hd_195 9 (by decide)).trans (zd h9 rfl)) mi,hz196 10 _ _ (show s195 10=(ji x176) from (hd_195 10 (by decide)).trans (zd h10 rfl)) mi⟩ ?_
       rintro s ⟨h0,h4,h5,h6,h7,h8,h9,h10⟩
       exact zcx H r181 r14 r111 r112 x142 x176 c5 Hc5 (yr F r14 r111 r112 x142 c5 k) ih r184 _ ⟨h0,h4,h5,h6,h7,h8,h9,h10⟩ h
     refine .skip ?_
     exact zcx H r181 r14 r111 r112 x142 x176 c5 Hc5 (yr F r14 r111 r112 x142 c5 k) ih x175 _ ⟨h0,h4,h5,h6,h7,h8,h9,h10⟩ h
   refine .exit (.esq (.elp (.ebk (.nsq (.seq (rg (gm h0 fun h60=>gm h9 fun h61=>?_)))))))
   obtain ⟨r185,Er185,h⟩:=zc h
   refine gcF [Enc.enc (x142:Int),Enc.enc (1:Int)] (zf h61 rfl rfl (zf (v:=ji 1) rfl rfl rfl zC)) (H.c37 _ _ _ Er185) H.g37 ?_
   obtain ⟨r186,Er186,h⟩:=zc h
   refine vf (r:=zO) (b:=0) (x:=((S3.mk x172 x173 (Kd.mk x174:Kd .u64)):CU)) (x':=r186.2) (vs:=[Enc.enc (r185:Int)]) (res:=Enc.enc (r186.1:Int)) h0 (by exact (zJ (v:=cuV zO ((S3.mk x172 x173 (Kd.mk x174:Kd .u64)):CU)) h60 rfl (zJ (v:=Enc.enc (r185:Int)) rfl rfl yp))) (yb te yk) fm1 (H.c69 _ _ _ Er186) H.g69 te rfl (fun s197 hb197 ha197=>gm (rf (ji r186.1)) fun h11=>?_)
   refine gz [(0,_),(4,bZ 4),(5,ji r14),(6,.ref (.bx 6) 0 [] (.agg [ji r14,zu (.at 28 []) (x175:NL (Int×Int))])),(7,ji r111.1),(8,jb r112.1),(9,ji x142),(11,_)] ⟨(show s197 0=(bC r186.2) from hb197 0 h0),(show s197 4=(bZ 4) from ha197 4 _ _ h4 rfl (zj rfl (mIx rfl))),(show s197 5=(ji r14) from ha197 5 _ _ h5 rfl mi),(show s197 6=(.ref (.bx 6) 0 [] (.agg [ji r14,zu (.at 28 []) (x175:NL (Int×Int))])) from ha197 6 _ _ h6 rfl (zj rfl (zM (zg mi (zg (zl (r:=28) (p:=[]) rfl rfl) zx))))),(show s197 7=(ji r111.1) from ha197 7 _ _ h7 rfl mi),(show s197 8=(jb r112.1) from ha197 8 _ _ h8 rfl mb),(show s197 9=(ji x142) from ha197 9 _ _ h9 rfl mi),h11⟩ ?_
   rintro s ⟨h0,h4,h5,h6,h7,h8,h9,h11⟩
   refine .nsq (.seq (rg (gm h9 fun h64=>g1 64 (jb (decide (x142 > 0))) h64 fun h65=>gm h65 fun h66=>zX h (fun hg3 h=>?_) (fun hg3 h=>?_))))
   · refine zp (ct h66 hg3) (gm h8 fun h67=>zp (ct h66 hg3) (g1 67 (jb (!r112.1)) h67 fun h68=>g2 66 68 (jb (!r112.1)) (ct h66 hg3) h68 fun h69=>gm h69 fun h70=>zX h (fun hg7 h=>?_) (fun hg7 h=>?_)))
     · refine zp (ct h70 hg7) (gv (.agg [ji r14,zu (.at 28 []) (x175:NL (Int×Int))]) (Ud (c:=.agg [ji r14,zu (.at 28 []) (x175:NL (Int×Int))]) h6 (by simp [V.shape,V.shapes,wk,J7,Sh.beq,Sh.beqs])) fun h71=>zp (ct h70 hg7) (gm h9 fun h72=>zp (ct h70 hg7) (gm h11 fun h73=>?_)))
       obtain ⟨r192,Er192,h⟩:=zc h
       refine zp (ct h70 hg7) (gcF [Enc.enc ((r14,x175.list):GR),Enc.enc (x142:Int),Enc.enc (r186.1:Int)] (zf h71 rfl (zgL (WR rfl (WR (We (o:=x175)) Wu))) (zf h72 rfl rfl (zf h73 rfl rfl zC))) (H.c65 _ _ _ _ Er192) H.g65 (zp (ct h70 hg7) (g1 74 (jb (!r192)) (rf (jb r192)) fun h75=>g2 70 75 (jb (!r192)) (ct h70 hg7) h75 fun h76=>gq ?_)))
       exact Nj H r186 r14 x175 r111 r112 x142 c5 Hc5 (!r192) _ ⟨h0,h4,h5,h6,h7,h8,h9,h11,h76⟩ h
     iterate 5 refine yq (ct h70 hg7) ?_
     refine g2 70 75 (jb false) (ct h70 hg7) (rf (.tup [])) fun h76=>gq ?_
     exact Nj H r186 r14 x175 r111 r112 x142 c5 Hc5 false _ ⟨h0,h4,h5,h6,h7,h8,h9,h11,h76⟩ h
   iterate 2 refine yq (ct h66 hg3) ?_
   refine g2 66 68 (jb false) (ct h66 hg3) (rf (.tup [])) fun h69=>gm h69 fun h70=>yq h70 ?_
   iterate 4 refine yq h70 ?_
   refine g2 70 75 (jb false) h70 (rf (.tup [])) fun h76=>gq ?_
   exact Nj H r186 r14 x175 r111 r112 x142 c5 Hc5 false _ ⟨h0,h4,h5,h6,h7,h8,h9,h11,h76⟩ h
def xl (F:Nat) (r14:Int) (r111:(Int×CU)) (r112:(Bool×CU)) :Nat→LB→Int→Int→(NL (Int×Int))→Int→Option (GR×CU)
 | 0,_,_,_,_,_=>none
 | k + 1,x138,x139,x140,x141,x142=>
   bif decide (x142 < r14) then
    yr F r14 r111 r112 x142 (xl F r14 r111 r112 k) F x138 x139 x140 x141 (w64 (x142 + 1))
   else
    yW F x138 x139 x140 r14 x141
theorem ziP (H:H67 D σ F) (r14:Int) (r111:(Int×CU)) (r112:(Bool×CU)) :∀ (k:Nat) (x138:LB) (x139:Int) (x140:Int) (x141:(NL (Int×Int))) (x142:Int) (s:Nat→V),zr [(0,.ref (.bx zO) 0 [] (.agg [eB x138,ji x139,.int .u64 x140])),(4,bZ 4),(5,ji r14),(6,.ref (.bx 6) 0 [] (.agg [ji r14,zu (.at 28 []) (x141:NL (Int×Int))])),(7,ji r111.1),(8,jb r112.1),(9,ji x142)] s→xl F r14 r111 r112 k x138 x139 x140 x141 x142=some r→Run D σ (R67 r) (.run XS [.lp XS,.bk 1,.bk 0,.sq U1]) s:=by
 intro k
 induction k with
 | zero=>intro x138 x139 x140 x141 x142 s _ h;exact nm h
 | succ k ih=>
   intro x138 x139 x140 x141 x142 s hs h
   rw [xl] at h
   obtain ⟨h0,h4,h5,h6,h7,h8,h9⟩:=hs
   refine .seq (.seq (rg (gm h9 fun h37=>gm h5 fun h38=>g2 37 38 (jb (decide (x142 < r14))) h37 h38 fun h39=>gq (.nsq (zn h39 h (fun h=>?_) (fun h=>?_))))))
   · refine .skip (.nsq (.seq (.block (.seq (.seq (rg (gm h9 fun h42=>g1 42 (ji (w64 (x142 + 1))) h42 fun h43=>gm h43 fun h10=>gq (.nsq (.block (.loop ?_))))))))))
     exact zhO H r14 r111 r112 x142 (xl F r14 r111 r112 k) ih F x138 x139 x140 x141 (w64 (x142 + 1)) _ ⟨h0,h4,h5,h6,h7,h8,h9,h10⟩ h
   refine .exit (.esq (.elp (.ebk ?_)))
   exact Jq H x138 x139 x140 r14 x141 _ ⟨h0,h4,h6⟩ h
def wa (F:Nat) (x2:Int)  (x10:LB) (x11:Int) (x12:Int) (x13:Int):Option (GR×CU):=
 (YK F x13 x2).bind fun r14=>
 (yj F (cu x10 x11 x12) 8).bind fun r15=>
 bif (r15.1 == 0) then
  (Yq F r14).bind fun r108=>
  yW F r15.2.a r15.2.b r15.2.c.v r108.1 r108.2
 else
  bif (r15.1 == 1) then
   bif decide (r14 > 2) then
    (ZL F r14).bind fun r109=>
    yW F r15.2.a r15.2.b r15.2.c.v r109.1 r109.2
   else
    yW F r15.2.a r15.2.b r15.2.c.v r14 (.of [])
  else
   bif (r15.1 == 2) then
    (uD F r14).bind fun r110=>
    yW F r15.2.a r15.2.b r15.2.c.v r110.1 r110.2
   else
    (yR F (Cu.mk r15.2) [3,4,6]).bind fun r111=>
    (xY F (Cu.mk r111.2) 6).bind fun r112=>
    xl F r14 r111 r112 F r112.2.a r112.2.b r112.2.c.v (.of []) 0
theorem zcW (H:H67 D σ F) (x2:Int)  (x10:LB) (x11:Int) (x12:Int) (x13:Int) (s:Nat→V) (hs:zr [(0,.ref (.bx zO) 0 [] (.agg [eB x10,ji x11,.int .u64 x12])),(1,ji x2),(4,bZ 4),(5,ji x13)] s) (h:wa F x2  x10 x11 x12 x13=some r):Run D σ (R67 r) (.nrm [.sq zdG]) s:=by
 unfold wa at h
 obtain ⟨h0,h1,h4,h5⟩:=hs
 refine .nsq (.seq (rg (gm h5 fun h24=>gm h1 fun h25=>?_)))
 obtain ⟨r14,Er14,h⟩:=zc h
 refine gcF [Enc.enc (x13:Int),Enc.enc (x2:Int)] (zf h24 rfl rfl (zf h25 rfl rfl zC)) (H.c68 _ _ _ Er14) H.g68 (gm (rf (ji r14)) fun h5=>gq (.nsq (.seq (zw (zW ?_)))))
 refine ez [(0,_),(4,_),(5,_),(6,_),(28,_)] ⟨za h0 rfl (zj rfl wW),za h4 rfl (zj rfl (mIx rfl)),za h5 rfl mi,ze rfl,ze rfl⟩ ?_
 rintro s ⟨h0,h4,h5,h6,h28⟩
 refine gm h5 fun h27=>xb [] [] trivial rfl rfl h28 (g2 27 28 (.agg [ji r14,zu (.at 28 []) (.of ([]:TP))]) h27 (rf (zu (.at 28 []) (.of ([]:TP)))) fun h29=>y9 h6 (z5 (.agg [ji r14,zu (.at 28 []) (.of ([]:TP))]) (zB rfl rfl) (zB h29 rfl) (xo (by first | rfl | simp [V.toks,V.tokss,Enc.toks_enc,zY])) (gz [(0,.ref (.bx zO) 0 [] (.agg [eB x10,ji x11,.int .u64 x12])),(4,bZ 4),(5,ji r14),(6,.ref (.bx 6) 0 [] (.agg [ji r14,zu (.at 28 []) (.of ([]:TP))]))] ⟨zd h0 (zH rfl rfl WI),zd h4 (zH rfl rfl (yJ (zF rfl (zF rfl rfl)))),zd h5 rfl,zd rfl rfl⟩ ?_)))
 rintro s ⟨h0,h4,h5,h6⟩
 refine .nsq (.seq (.seq (rg (gm h0 fun h30=>?_))))
 obtain ⟨r15,Er15,h⟩:=zc h
 refine vf (r:=zO) (b:=0) (x:=((S3.mk x10 x11 (Kd.mk x12:Kd .u64)):CU)) (x':=r15.2) (vs:=[Enc.enc (8:Int)]) (res:=Enc.enc (r15.1:Int)) h0 (by exact (zJ (v:=cuV zO ((S3.mk x10 x11 (Kd.mk x12:Kd .u64)):CU)) h30 rfl (zJ (v:=Enc.enc (8:Int)) rfl rfl yp))) (yb te yk) fm1 (H.c69 _ _ _ Er15) H.g69 te rfl (fun s8 hb8 ha8=>?_)
 refine gz [(0,_),(4,bZ 4),(5,ji r14),(6,.ref (.bx 6) 0 [] (.agg [ji r14,zu (.at 28 []) (.of ([]:TP))])),(31,ji r15.1)] ⟨(show s8 0=(bC r15.2) from hb8 0 h0),(show s8 4=(bZ 4) from ha8 4 _ _ h4 rfl (zj rfl (mIx rfl))),(show s8 5=(ji r14) from ha8 5 _ _ h5 rfl mi),(show s8 6=(.ref (.bx 6) 0 [] (.agg [ji r14,zu (.at 28 []) (.of ([]:TP))])) from ha8 6 _ _ h6 rfl (zj rfl (zM (zg mi (zg (zl (r:=28) (p:=[]) rfl rfl) zx))))),rfl⟩ ?_
 rintro s ⟨h0,h4,h5,h6,h31⟩
 refine .nsq (.block (.seq (rg (g1 31 (jb (r15.1 == 0)) h31 fun h85=>gm h85 fun h84=>gq (.nsq (zn h84 h (fun h=>?_) (fun h=>?_)))))))
 · refine zw (zW ?_)
   refine ez [(0,_),(4,_),(5,_),(6,_),(87,_)] ⟨za h0 rfl (zj rfl wW),za h4 rfl (zj rfl (mIx rfl)),za h5 rfl mi,za h6 rfl (zj rfl (zM (zg mi (zg (zl (r:=28) (p:=[]) rfl rfl) zx)))),ze rfl⟩ ?_
   rintro s ⟨h0,h4,h5,h6,h87⟩
   refine gm h5 fun h86=>?_
   obtain ⟨r108,Er108,h⟩:=zc h
   refine UV (m:=1) (al:=false) (r:=.agg [Enc.enc (r108.1:Int),zu .sh (r108.2:NL (Int×Int))]) (v:=.agg [ji r108.1,zu (.at 87 [1]) (r108.2:NL (Int×Int))]) (kk:=1000000078) [Enc.enc (r14:Int)] (zf h86 rfl rfl zC) (H.c78o _ _ Er108) H.g78o rfl (KJ (yb rfl (yb Xe yk))) (Mj (Ys rfl (Ys WC KH))) rfl h87 ?_
   refine z5 (.agg [ji r108.1,zu (.at 87 [1]) (r108.2:NL (Int×Int))]) (zB h6 rfl) (zB rfl rfl) ⟨by decide,by decide,rfl,(by simp [V.shape,V.shapes,wk,Sh.beq,Sh.beqs]),(by simp [V.shape,V.shapes,wk,Sh.beq,Sh.beqs]),(by simp [V.toks,V.tokss,zY])⟩ (yK (Jt (x:=28) (fun s108 hx_108 hd_108=>zjD (x:=28) (q:=87) (p:=[1]) (v:=.dead) (by exact hx_108) rfl (fun s109 hz109=>?_))))
   refine ez [(0,bC r15.2),(4,bZ 4),(6,.ref (.bx 6) 0 [] (.agg [ji r108.1,zu (.at 28 []) (r108.2:NL (Int×Int))]))] ⟨hz109 0 _ (bC r15.2) (show s108 0=(bC r15.2) from (hd_108 0 (by decide)).trans (zd h0 (zH rfl rfl WI))) (zj rfl wW),hz109 4 _ (bZ 4) (show s108 4=(bZ 4) from (hd_108 4 (by decide)).trans (zd h4 (zH rfl rfl (yJ (zF rfl (zF rfl rfl)))))) (zj rfl (mIx rfl)),hz109 6 _ (.ref (.bx 6) 0 [] (.agg [ji r108.1,zu (.at 28 []) (r108.2:NL (Int×Int))])) (show s108 6=(.ref (.bx 6) 0 [] (.agg [ji r108.1,zu (.at 87 [1]) (r108.2:NL (Int×Int))])) from (hd_108 6 (by decide)).trans (zd h6 rfl)) (zj rfl (zM (zg mi (zg (zl (r:=87) (p:=[1]) rfl rfl) zx))))⟩ ?_
   rintro s ⟨h0,h4,h6⟩
   exact Jq H r15.2.a r15.2.b r15.2.c.v r108.1 r108.2 _ ⟨h0,h4,h6⟩ h
 refine .seq (rg (g1 31 (jb (r15.1 == 1)) h31 fun h89=>gm h89 fun h88=>gq (.nsq (zn h88 h (fun h=>?_) (fun h=>?_)))))
 · refine .seq (rg (gm h5 fun h90=>g1 90 (jb (decide (r14 > 2))) h90 fun h91=>gq (.nsq (zn h91 h (fun h=>?_) (fun h=>?_)))))
   · refine zw (zW ?_)
     refine ez [(0,_),(4,_),(5,_),(6,_),(93,_)] ⟨za h0 rfl (zj rfl wW),za h4 rfl (zj rfl (mIx rfl)),za h5 rfl mi,za h6 rfl (zj rfl (zM (zg mi (zg (zl (r:=28) (p:=[]) rfl rfl) zx)))),ze rfl⟩ ?_
     rintro s ⟨h0,h4,h5,h6,h93⟩
     refine gm h5 fun h92=>?_
     obtain ⟨r109,Er109,h⟩:=zc h
     refine UV (m:=1) (al:=false) (r:=.agg [Enc.enc (r109.1:Int),zu .sh (r109.2:NL (Int×Int))]) (v:=.agg [ji r109.1,zu (.at 93 [1]) (r109.2:NL (Int×Int))]) (kk:=1000000079) [Enc.enc (r14:Int)] (zf h92 rfl rfl zC) (H.c79o _ _ Er109) H.g79o rfl (KJ (yb rfl (yb Xe yk))) (Mj (Ys rfl (Ys WC KH))) rfl h93 ?_
     refine z5 (.agg [ji r109.1,zu (.at 93 [1]) (r109.2:NL (Int×Int))]) (zB h6 rfl) (zB rfl rfl) ⟨by decide,by decide,rfl,(by simp [V.shape,V.shapes,wk,Sh.beq,Sh.beqs]),(by simp [V.shape,V.shapes,wk,Sh.beq,Sh.beqs]),(by simp [V.toks,V.tokss,zY])⟩ (yK (Jt (x:=28) (fun s111 hx_111 hd_111=>zjD (x:=28) (q:=93) (p:=[1]) (v:=.dead) (by exact hx_111) rfl (fun s112 hz112=>?_))))
     refine ez [(0,bC r15.2),(4,bZ 4),(6,.ref (.bx 6) 0 [] (.agg [ji r109.1,zu (.at 28 []) (r109.2:NL (Int×Int))]))] ⟨hz112 0 _ (bC r15.2) (show s111 0=(bC r15.2) from (hd_111 0 (by decide)).trans (zd h0 (zH rfl rfl WI))) (zj rfl wW),hz112 4 _ (bZ 4) (show s111 4=(bZ 4) from (hd_111 4 (by decide)).trans (zd h4 (zH rfl rfl (yJ (zF rfl (zF rfl rfl)))))) (zj rfl (mIx rfl)),hz112 6 _ (.ref (.bx 6) 0 [] (.agg [ji r109.1,zu (.at 28 []) (r109.2:NL (Int×Int))])) (show s111 6=(.ref (.bx 6) 0 [] (.agg [ji r109.1,zu (.at 93 [1]) (r109.2:NL (Int×Int))])) from (hd_111 6 (by decide)).trans (zd h6 rfl)) (zj rfl (zM (zg mi (zg (zl (r:=93) (p:=[1]) rfl rfl) zx))))⟩ ?_
     rintro s ⟨h0,h4,h6⟩
     exact Jq H r15.2.a r15.2.b r15.2.c.v r109.1 r109.2 _ ⟨h0,h4,h6⟩ h
   refine .skip ?_
   exact Jq H r15.2.a r15.2.b r15.2.c.v r14 (.of []) _ ⟨h0,h4,h6⟩ h
 refine .seq (rg (g1 31 (jb (r15.1 == 2)) h31 fun h95=>gm h95 fun h94=>gq (.nsq (zn h94 h (fun h=>?_) (fun h=>?_)))))
 · refine zw (zW ?_)
   refine ez [(0,_),(4,_),(5,_),(6,_),(97,_)] ⟨za h0 rfl (zj rfl wW),za h4 rfl (zj rfl (mIx rfl)),za h5 rfl mi,za h6 rfl (zj rfl (zM (zg mi (zg (zl (r:=28) (p:=[]) rfl rfl) zx)))),ze rfl⟩ ?_
   rintro s ⟨h0,h4,h5,h6,h97⟩
   refine gm h5 fun h96=>?_
   obtain ⟨r110,Er110,h⟩:=zc h
   refine UV (m:=1) (al:=false) (r:=.agg [Enc.enc (r110.1:Int),zu .sh (r110.2:NL (Int×Int))]) (v:=.agg [ji r110.1,zu (.at 97 [1]) (r110.2:NL (Int×Int))]) (kk:=1000000080) [Enc.enc (r14:Int)] (zf h96 rfl rfl zC) (H.c80o _ _ Er110) H.g80o rfl (KJ (yb rfl (yb Xe yk))) (Mj (Ys rfl (Ys WC KH))) rfl h97 ?_
   refine z5 (.agg [ji r110.1,zu (.at 97 [1]) (r110.2:NL (Int×Int))]) (zB h6 rfl) (zB rfl rfl) ⟨by decide,by decide,rfl,(by simp [V.shape,V.shapes,wk,Sh.beq,Sh.beqs]),(by simp [V.shape,V.shapes,wk,Sh.beq,Sh.beqs]),(by simp [V.toks,V.tokss,zY])⟩ (yK (Jt (x:=28) (fun s114 hx_114 hd_114=>zjD (x:=28) (q:=97) (p:=[1]) (v:=.dead) (by exact hx_114) rfl (fun s115 hz115=>?_))))
   refine ez [(0,bC r15.2),(4,bZ 4),(6,.ref (.bx 6) 0 [] (.agg [ji r110.1,zu (.at 28 []) (r110.2:NL (Int×Int))]))] ⟨hz115 0 _ (bC r15.2) (show s114 0=(bC r15.2) from (hd_114 0 (by decide)).trans (zd h0 (zH rfl rfl WI))) (zj rfl wW),hz115 4 _ (bZ 4) (show s114 4=(bZ 4) from (hd_114 4 (by decide)).trans (zd h4 (zH rfl rfl (yJ (zF rfl (zF rfl rfl)))))) (zj rfl (mIx rfl)),hz115 6 _ (.ref (.bx 6) 0 [] (.agg [ji r110.1,zu (.at 28 []) (r110.2:NL (Int×Int))])) (show s114 6=(.ref (.bx 6) 0 [] (.agg [ji r110.1,zu (.at 97 [1]) (r110.2:NL (Int×Int))])) from (hd_114 6 (by decide)).trans (zd h6 rfl)) (zj rfl (zM (zg mi (zg (zl (r:=97) (p:=[1]) rfl rfl) zx))))⟩ ?_
   rintro s ⟨h0,h4,h6⟩
   exact Jq H r15.2.a r15.2.b r15.2.c.v r110.1 r110.2 _ ⟨h0,h4,h6⟩ h
 refine .seq (zw (zW ?_))
 refine ez [(0,_),(4,_),(5,_),(6,_),(33,_)] ⟨za h0 rfl (zj rfl wW),za h4 rfl (zj rfl (mIx rfl)),za h5 rfl mi,za h6 rfl (zj rfl (zM (zg mi (zg (zl (r:=28) (p:=[]) rfl rfl) zx)))),ze rfl⟩ ?_
 rintro s ⟨h0,h4,h5,h6,h33⟩
 refine gm h0 fun h32=>KU [] ([3,4,6]:LI) trivial rfl rfl rfl h33 (fun s117 hd_117 hl_117=>?_)
 obtain ⟨r111,Er111,h⟩:=zc h
 refine vf (r:=zO) (b:=0) (x:=r15.2) (x':=r111.2) (vs:=[Enc.enc ([3,4,6]:LI)]) (res:=Enc.enc (r111.1:Int)) (show s117 0=(bC r15.2) from (hl_117 0 (by decide)).trans h0) (by exact (zJ (v:=cuV zO r15.2) (show s117 32=(bC r15.2) from (hl_117 32 (by decide)).trans h32) rfl (zJ (v:=Enc.enc ([3,4,6]:LI)) (show s117 33=(eL [3,4,6]) from hd_117) rfl yp))) (yb te yk) fm1 (H.c70 _ _ _ Er111) H.g70 te rfl (fun s118 hb118 ha118=>gm (show s118 0=(bC r111.2) from hb118 0 (show s117 0=(bC r15.2) from (hl_117 0 (by decide)).trans h0)) fun h35=>?_)
 obtain ⟨r112,Er112,h⟩:=zc h
 refine vf (r:=zO) (b:=0) (x:=r111.2) (x':=r112.2) (vs:=[Enc.enc (6:Int)]) (res:=Enc.enc (r112.1:Bool)) (show s118 0=(bC r111.2) from hb118 0 (show s117 0=(bC r15.2) from (hl_117 0 (by decide)).trans h0)) (by exact (zJ (v:=cuV zO r111.2) h35 rfl (zJ (v:=Enc.enc (6:Int)) rfl rfl yp))) (yb te yk) fm1 (H.c48 _ _ _ Er112) H.g48 te rfl (fun s119 hb119 ha119=>gm (show s119 34=(ji r111.1) from ha119 34 (ji r111.1) _ rfl rfl mi) fun h7=>gm (rf (jb r112.1)) fun h8=>?_)
 refine gz [(0,_),(4,bZ 4),(5,ji r14),(6,.ref (.bx 6) 0 [] (.agg [ji r14,zu (.at 28 []) (.of ([]:TP))])),(7,_),(8,_)] ⟨(show s119 0=(bC r112.2) from hb119 0 (show s118 0=(bC r111.2) from hb118 0 (show s117 0=(bC r15.2) from (hl_117 0 (by decide)).trans h0))),(show s119 4=(bZ 4) from ha119 4 (bZ 4) _ (show s118 4=(bZ 4) from ha118 4 _ _ (show s117 4=(bZ 4) from (hl_117 4 (by decide)).trans h4) rfl (zj rfl (mIx rfl))) rfl (zj rfl (mIx rfl))),(show s119 5=(ji r14) from ha119 5 (ji r14) _ (show s118 5=(ji r14) from ha118 5 _ _ (show s117 5=(ji r14) from (hl_117 5 (by decide)).trans h5) rfl mi) rfl mi),(show s119 6=(.ref (.bx 6) 0 [] (.agg [ji r14,zu (.at 28 []) (.of ([]:TP))])) from ha119 6 (.ref (.bx 6) 0 [] (.agg [ji r14,zu (.at 28 []) (.of ([]:TP))])) _ (show s118 6=(.ref (.bx 6) 0 [] (.agg [ji r14,zu (.at 28 []) (.of ([]:TP))])) from ha118 6 _ _ (show s117 6=(.ref (.bx 6) 0 [] (.agg [ji r14,zu (.at 28 []) (.of ([]:TP))])) from (hl_117 6 (by decide)).trans h6) rfl (zj rfl (zM (zg mi (zg (zl (r:=28) (p:=[]) rfl rfl) zx))))) rfl (zj rfl (zM (zg mi (zg (zl (r:=28) (p:=[]) rfl rfl) zx))))),h7,h8⟩ ?_
 rintro s ⟨h0,h4,h5,h6,h7,h8⟩
 refine .nsq (.seq (rg (g0 (ji 0) fun h9=>gq (.nsq (.block (.loop ?_))))))
 exact ziP H r14 r111 r112 F r112.2.a r112.2.b r112.2.c.v (.of []) 0 _ ⟨h0,h4,h5,h6,h7,h8,h9⟩ h
def wU (F:Nat) (x2:Int) (r3:(Int×CU))  (x5:LB) (x6:Int) (x7:Int) (x8:Bool):Option (GR×CU):=
 bif x8 then
  (yj F (cu x5 x6 x7) 2).bind fun r193=>
  wa F x2 r193.2.a r193.2.b r193.2.c.v (w64 (7 + r193.1))
 else
  wa F x2 x5 x6 x7 r3.1
theorem zcv (H:H67 D σ F) (x2:Int) (r3:(Int×CU))  (x5:LB) (x6:Int) (x7:Int) (x8:Bool) (s:Nat→V) (hs:zr [(0,.ref (.bx zO) 0 [] (.agg [eB x5,ji x6,.int .u64 x7])),(1,ji x2),(4,bZ 4),(5,ji r3.1),(20,jb x8)] s) (h:wU F x2 r3  x5 x6 x7 x8=some r):Run D σ (R67 r) (.nrm [.sq zji,.sq zdG]) s:=by
 unfold wU at h
 obtain ⟨h0,h1,h4,h5,h20⟩:=hs
 refine .nsq (zn h20 h (fun h=>?_) (fun h=>?_))
 · refine rg (gm h0 fun h21=>?_)
   obtain ⟨r193,Er193,h⟩:=zc h
   refine vf (r:=zO) (b:=0) (x:=((S3.mk x5 x6 (Kd.mk x7:Kd .u64)):CU)) (x':=r193.2) (vs:=[Enc.enc (2:Int)]) (res:=Enc.enc (r193.1:Int)) h0 (by exact (zJ (v:=cuV zO ((S3.mk x5 x6 (Kd.mk x7:Kd .u64)):CU)) h21 rfl (zJ (v:=Enc.enc (2:Int)) rfl rfl yp))) (yb te yk) fm1 (H.c69 _ _ _ Er193) H.g69 te rfl (fun s204 hb204 ha204=>g1 22 (ji (w64 (7 + r193.1))) (rf (ji r193.1)) fun h23=>gm h23 fun h5=>gz [(0,_),(1,ji x2),(4,bZ 4),(5,_)] ⟨(show s204 0=(bC r193.2) from hb204 0 h0),(show s204 1=(ji x2) from ha204 1 _ _ h1 rfl mi),(show s204 4=(bZ 4) from ha204 4 _ _ h4 rfl (zj rfl (mIx rfl))),h5⟩ ?_)
   rintro s ⟨h0,h1,h4,h5⟩
   exact zcW H x2 r193.2.a r193.2.b r193.2.c.v (w64 (7 + r193.1)) _ ⟨h0,h1,h4,h5⟩ h
 refine .skip ?_
 exact zcW H x2 x5 x6 x7 r3.1 _ ⟨h0,h1,h4,h5⟩ h
def wn (F:Nat) (x1:CC) (x2:Int):Option (GR×CU):=
 (yR F (Cu.mk x1.v) [4,5,3,6,2,1,0]).bind fun r3=>
 bif decide (x2 > 6) then
  (xY F (Cu.mk r3.2) 4).bind fun r194=>
  wU F x2 r3 r194.2.a r194.2.b r194.2.c.v r194.1
 else
  wU F x2 r3 r3.2.a r3.2.b r3.2.c.v false
theorem t67 (H:H67 D σ F) (x1:CC) (x2:Int) (s:Nat→V) (hs:zr [(0,bC x1.v),(1,ji x2)] s) (h:wn F x1 x2=some r):Run D σ (R67 r) (.run A67 []) s:=by
 unfold wn at h
 obtain ⟨h0,h1⟩:=hs
 refine .seq (zw (zW ?_))
 refine ez [(0,_),(1,_),(4,_)] ⟨za h0 rfl (zj rfl wW),za h1 rfl mi,ze rfl⟩ ?_
 rintro s ⟨h0,h1,h4⟩
 refine y9 h4 (gq (.nsq (.seq (zw (zW ?_)))))
 refine ez [(0,_),(1,_),(4,_),(13,_)] ⟨za h0 rfl (zj rfl wW),za h1 rfl mi,za rfl rfl (zj rfl (mIx rfl)),ze rfl⟩ ?_
 rintro s ⟨h0,h1,h4,h13⟩
 refine gm h0 fun h12=>KU [] ([4,5,3,6,2,1,0]:LI) trivial rfl rfl rfl h13 (fun s3 hd_3 hl_3=>?_)
 obtain ⟨r3,Er3,h⟩:=zc h
 refine vf (r:=zO) (b:=0) (x:=x1.v) (x':=r3.2) (vs:=[Enc.enc ([4,5,3,6,2,1,0]:LI)]) (res:=Enc.enc (r3.1:Int)) (show s3 0=(bC x1.v) from (hl_3 0 (by decide)).trans h0) (by exact (zJ (v:=cuV zO x1.v) (show s3 12=(bC x1.v) from (hl_3 12 (by decide)).trans h12) rfl (zJ (v:=Enc.enc ([4,5,3,6,2,1,0]:LI)) (show s3 13=(eL [4,5,3,6,2,1,0]) from hd_3) rfl yp))) (yb te yk) fm1 (H.c70 _ _ _ Er3) H.g70 te rfl (fun s4 hb4 ha4=>gm (rf (ji r3.1)) fun h5=>?_)
 refine gz [(0,_),(1,ji x2),(4,bZ 4),(5,_)] ⟨(show s4 0=(bC r3.2) from hb4 0 (show s3 0=(bC x1.v) from (hl_3 0 (by decide)).trans h0)),(show s4 1=(ji x2) from ha4 1 _ _ (show s3 1=(ji x2) from (hl_3 1 (by decide)).trans h1) rfl mi),(show s4 4=(bZ 4) from ha4 4 _ _ (show s3 4=(bZ 4) from (hl_3 4 (by decide)).trans h4) rfl (zj rfl (mIx rfl))),h5⟩ ?_
 rintro s ⟨h0,h1,h4,h5⟩
 refine .nsq (.seq (.seq (rg (gm h1 fun h15=>g1 15 (jb (decide (x2 > 6))) h15 fun h16=>gm h16 fun h17=>zX h (fun hg3 h=>?_) (fun hg3 h=>?_)))))
 · refine zp (ct h17 hg3) (gm h0 fun h18=>?_)
   obtain ⟨r194,Er194,h⟩:=zc h
   refine zp (ct h17 hg3) (vf (r:=zO) (b:=0) (x:=r3.2) (x':=r194.2) (vs:=[Enc.enc (4:Int)]) (res:=Enc.enc (r194.1:Bool)) h0 (by exact (zJ (v:=cuV zO r3.2) h18 rfl (zJ (v:=Enc.enc (4:Int)) rfl rfl yp))) (yb te yk) fm1 (H.c48 _ _ _ Er194) H.g48 te rfl (fun s205 hb205 ha205=>g2 17 19 (jb r194.1) (show s205 17=(jb true) from ha205 17 _ _ (ct h17 hg3) rfl mb) (rf (jb r194.1)) fun h20=>?_))
   refine gz [(0,_),(1,ji x2),(4,bZ 4),(5,ji r3.1),(20,_)] ⟨(show s205 0=(bC r194.2) from hb205 0 h0),(show s205 1=(ji x2) from ha205 1 _ _ h1 rfl mi),(show s205 4=(bZ 4) from ha205 4 _ _ h4 rfl (zj rfl (mIx rfl))),(show s205 5=(ji r3.1) from ha205 5 _ _ h5 rfl mi),h20⟩ ?_
   rintro s ⟨h0,h1,h4,h5,h20⟩
   exact zcv H x2 r3 r194.2.a r194.2.b r194.2.c.v r194.1 _ ⟨h0,h1,h4,h5,h20⟩ h
 iterate 2 refine yq (ct h17 hg3) ?_
 refine g2 17 19 (jb false) (ct h17 hg3) (rf (.tup [])) fun h20=>gq ?_
 exact zcv H x2 r3 r3.2.a r3.2.b r3.2.c.v false _ ⟨h0,h1,h4,h5,h20⟩ h
end
def e67 (F:Nat):Ent:=ent 67 (fun (x:(CC×Int×Unit))=>wn F x.1 x.2.1) (fun (r:(GR×CU))=>(.tup [Enc.enc (r.1:GR),.tup [cuV zO r.2]])) uK false []
abbrev C67 (D:List V→Option V) (F:Nat):Prop:=∀ (x0:CC) (x1:Int) r,wn F x0 x1=some r→D [Arg.arg x0,Enc.enc x1]=some (.tup [Enc.enc (r.1:GR),.tup [cuV zO r.2]])
theorem p67 {F:Nat}:C67 (e67 F).den F:=fun x0 x1 _ h=>zS (x0,x1,()) h
theorem o67 (hF:zG Try.prog D σ) (H:H67 D σ F):(e67 F).Ok Try.prog:=okZ (f:=67) Try.func67 fun ⟨x0,x1,_⟩ y hy=>cT hF Try.func67 c67 (t67 H x0 x1 _ ⟨rfl,rfl⟩ hy)
end Go.Zq
