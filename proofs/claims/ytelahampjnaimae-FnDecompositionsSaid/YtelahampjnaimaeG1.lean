/- Functions of the program, typed (part 1). No further condition. -/
import Derived.Test.YtelahampjnaimaeK4
import Derived.Test.YtelahampjnaimaeKC
import Derived.Test.YtelahampjnaimaeProg
import Derived.Test.YtelahampjnaimaeChecked
import Derived.KernelRfl
set_option linter.unusedVariables false
set_option linter.unusedSimpArgs false
namespace Go.Zq
open Go.Proofs Go.Shelf Enc
noncomputable abbrev Tp:=Try.prog
variable {D:Den} {σ:Sig} {F:Nat}
def zv4:AC:=(.seq (rr [jm 3 0,jk 4 3,jv 5 (.bin .gtr (.t 4) (jn 65536)),jm 2 5]) .ret)
def A4:AC:=(.seq (rr [jv 2 (.mov kf)]) zv4)
def an4:List An:=[]
theorem c4:cq Tp Try.f4 an4=some A4:=by kernel_rfl
structure H4 (D:Den) (σ:Sig) (F:Nat):Prop where
 mk ::
abbrev R4 (r:Bool):(Nat→V)→Prop:=RR Tp [.tmp 2] 0 false (enc (r:Bool))
section
variable {r:Bool}
def LG (F:Nat) (x1:LB):Option Bool:=
 some (decide ((x1.length:Int) > 65536))
theorem t4 (H:H4 D σ F) (x1:LB) (s:Nat→V) (hs:zB [(0,eB x1)] s) (h:LG F x1=some r):Run D σ (R4 r) (.run A4 []) s:=by
 unfold LG at h
 have h0:=hs
 refine .seq (rg (g0 (jb false) fun h2=>gq (.nsq (.seq (rg (gm h0 fun h3=>gl x1 h3 fun h4=>g1 4 (jb (decide ((x1.length:Int) > 65536))) h4 fun h5=>gm h5 fun h2=>gq (.nsq (.ret ?_))))))))
 obtain rfl:=oi h
 exact rrA (zA h2) rfl
end
def e4 (F:Nat):Ent:=ent 4 (fun (x:(LB×Unit))=>LG F x.1) (fun (r:Bool)=>(enc (r:Bool))) 0 false []
abbrev C4 (D:List V→Option V) (F:Nat):Prop:=∀ (x0:LB) r,LG F x0=some r→D [enc x0]=some (enc (r:Bool))
theorem p4 {F:Nat}:C4 (e4 F).den F:=fun x0 _ h=>zZ (x0,()) h
theorem o4 (hF:zH Tp D σ) (H:H4 D σ F):(e4 F).Ok Tp:=okZ (f:=4) Try.func4 fun ⟨x0,_⟩ y hy=>cR hF Try.func4 c4 (t4 H x0 _ rfl hy)
def zsV:AC:=(.cond (.t 53) (.seq (rr [jm 54 3,jm 2 54]) .ret) .skip)
def ztZ:AC:=(.seq (rr [jm 55 0,jv 56 (.nilc (.t 55)),jv 57 (.fld (.t 56) 2 2),jl 58 57,jv 59 (.bin .shr (.t 58) (.k (.int .u64 (.ofNat 40)))),jv 60 (.bin .and (.t 59) (.k (.int .u64 (.ofNat 255)))),jv 61 (.conv .i64 (.t 60)),jm 2 61]) .ret)
def zrK:AC:=(.seq (.seq (rr [jm 44 0,jv 45 (.nilc (.t 44)),jv 46 (.fld (.t 45) 1 1),jl 47 46,jm 48 0,jv 49 (.nilc (.t 48)),jv 50 (.fld (.t 49) 0 0),jv 51 (.load .p (.t 50)),jk 52 51,jv 53 (.bin .leq (.t 47) (.t 52))]) zsV) ztZ)
def zvd:AC:=(.seq (rr [jm 32 0,jm 33 0,jv 34 (.nilc (.t 33)),jv 35 (.fld (.t 34) 2 2),jl 36 35,jv 37 (.bin .mul (.t 36) (.k (.int .u64 (.ofNat 6364136223846793005)))),jm 38 3,jv 39 (.conv .u64 (.t 38)),jv 40 (.bin .add (.t 37) (.t 39)),jv 41 (.bin .add (.t 40) (.k (.int .u64 (.ofNat 462197)))),jv 42 (.nilc (.t 32)),jv 43 (.fld (.t 42) 2 2),jz (.store .s (.t 43) (.t 41))]) zrK)
def zl3:AC:=(.seq (rr [jm 25 0,jv 26 (.nilc (.t 25)),jv 27 (.fld (.t 26) 1 1),jl 28 27,jv 29 (.bin .add (.t 28) (jn 1)),jv 30 (.nilc (.t 25)),jv 31 (.fld (.t 30) 1 1),jz (.store .s (.t 31) (.t 29))]) zvd)
def zvk:AC:=(.cond (.t 13) (rr [jm 14 0,jv 15 (.nilc (.t 14)),jv 16 (.fld (.t 15) 0 0),jv 17 (.load .p (.t 16)),jm 18 0,jv 19 (.nilc (.t 18)),jv 20 (.fld (.t 19) 1 1),jl 21 20,jv 22 (.idx (.t 17) (.t 21) 1),jl 23 22,jv 24 (.conv .i64 (.t 23)),jm 3 24]) .skip)
def zvh:AC:=(.seq (.seq (rr [jm 4 0,jv 5 (.nilc (.t 4)),jv 6 (.fld (.t 5) 1 1),jl 7 6,jm 8 0,jv 9 (.nilc (.t 8)),jv 10 (.fld (.t 9) 0 0),jv 11 (.load .p (.t 10)),jk 12 11,jv 13 (.bin .lss (.t 7) (.t 12))]) zvk) zl3)
def ztG:AC:=(.seq (rr [jv 3 (.mov (jn 0))]) zvh)
def A43:AC:=(.seq (rr [jv 2 (.mov (jn 0))]) ztG)
def zwO:List An:=[]
theorem c43:cq Tp Try.f43 zwO=some A43:=by kernel_rfl
structure H43 (D:Den) (σ:Sig) (F:Nat):Prop where
 mk ::
abbrev R43 (r:(Int×CU)):(Nat→V)→Prop:=RT Tp [.tmp 2] (enc (r.1:Int)) [cuV zP r.2]
section
variable {r:(Int×CU)}
def uu (F:Nat) (x1:CC)  (x3:Int):Option (Int×CU):=
 bif decide ((w64 (x1.v.b + 1))≤(x1.v.a.length:Int)) then
  some (x3,S3.mk x1.v.a (w64 (x1.v.b + 1)) (Kd.mk (IntKind.u64.wrap ((IntKind.u64.wrap ((IntKind.u64.wrap (x1.v.c.v * 6364136223846793005)) + (IntKind.u64.wrap x3))) + 462197)):Kd .u64))
 else
  (Um .u64 (IntKind.u64.wrap ((IntKind.u64.wrap ((IntKind.u64.wrap (x1.v.c.v * 6364136223846793005)) + (IntKind.u64.wrap x3))) + 462197)) 40).bind fun q4=>
  some (w64 (yI .u64 q4 255),S3.mk x1.v.a (w64 (x1.v.b + 1)) (Kd.mk (IntKind.u64.wrap ((IntKind.u64.wrap ((IntKind.u64.wrap (x1.v.c.v * 6364136223846793005)) + (IntKind.u64.wrap x3))) + 462197)):Kd .u64))
theorem zcp (H:H43 D σ F) (x1:CC)  (x3:Int) (s:Nat→V) (hs:zB [(0,bC x1.v),(2,ji 0),(3,ji x3)] s) (h:uu F x1  x3=some r):Run D σ (R43 r) (.nrm [.sq zl3]) s:=by
 unfold uu at h
 obtain ⟨h0,h2,h3⟩:=hs
 refine .nsq (.seq (rg (gm h0 fun h25=>g1 25 (bC x1.v) h25 fun h26=>g1 26 (.ref (.bx zP) 0 [1] (ji x1.v.b)) h26 fun h27=>g1 27 (ji x1.v.b) h27 fun h28=>g1 28 (ji (w64 (x1.v.b + 1))) h28 fun h29=>g1 25 (bC x1.v) h25 fun h30=>g1 30 (.ref (.bx zP) 0 [1] (ji x1.v.b)) h30 fun h31=>zQ (ji (w64 (x1.v.b + 1))) (zx h31 rfl) (zx h29 rfl) (xr (by first | rfl | simp [V.toks,V.tokss,toks_enc,zN])) (gz [(0,.ref (.bx zP) 0 [] (.agg [eB x1.v.a,ji (w64 (x1.v.b + 1)),.int .u64 x1.v.c.v])),(2,ji 0),(3,ji x3)] ⟨zb h0 rfl,zb h2 rfl,zb h3 rfl⟩ ?_))))
 rintro s ⟨h0,h2,h3⟩
 refine .nsq (.seq (rg (gm h0 fun h32=>gm h0 fun h33=>g1 33 (.ref (.bx zP) 0 [] (.agg [eB x1.v.a,ji (w64 (x1.v.b + 1)),.int .u64 x1.v.c.v])) h33 fun h34=>g1 34 (.ref (.bx zP) 0 [2] (.int .u64 x1.v.c.v)) h34 fun h35=>g1 35 (.int .u64 x1.v.c.v) h35 fun h36=>g1 36 (.int .u64 (IntKind.u64.wrap (x1.v.c.v * 6364136223846793005))) h36 fun h37=>gm h3 fun h38=>g1 38 (.int .u64 (IntKind.u64.wrap x3)) h38 fun h39=>g2 37 39 (.int .u64 (IntKind.u64.wrap ((IntKind.u64.wrap (x1.v.c.v * 6364136223846793005)) + (IntKind.u64.wrap x3)))) h37 h39 fun h40=>?_)))
 refine g1 40 (.int .u64 (IntKind.u64.wrap ((IntKind.u64.wrap ((IntKind.u64.wrap (x1.v.c.v * 6364136223846793005)) + (IntKind.u64.wrap x3))) + 462197))) h40 fun h41=>g1 32 (.ref (.bx zP) 0 [] (.agg [eB x1.v.a,ji (w64 (x1.v.b + 1)),.int .u64 x1.v.c.v])) h32 fun h42=>g1 42 (.ref (.bx zP) 0 [2] (.int .u64 x1.v.c.v)) h42 fun h43=>zQ (.int .u64 (IntKind.u64.wrap ((IntKind.u64.wrap ((IntKind.u64.wrap (x1.v.c.v * 6364136223846793005)) + (IntKind.u64.wrap x3))) + 462197))) (zx h43 rfl) (zx h41 rfl) (xr (by first | rfl | simp [V.toks,V.tokss,toks_enc,zN])) ?_
 refine gz [(0,.ref (.bx zP) 0 [] (.agg [eB x1.v.a,ji (w64 (x1.v.b + 1)),.int .u64 (IntKind.u64.wrap ((IntKind.u64.wrap ((IntKind.u64.wrap (x1.v.c.v * 6364136223846793005)) + (IntKind.u64.wrap x3))) + 462197))])),(2,ji 0),(3,ji x3)] ⟨zb h0 rfl,zb h2 rfl,zb h3 rfl⟩ ?_
 rintro s ⟨h0,h2,h3⟩
 refine .nsq (.seq (.seq (rg (gm h0 fun h44=>g1 44 (.ref (.bx zP) 0 [] (.agg [eB x1.v.a,ji (w64 (x1.v.b + 1)),.int .u64 (IntKind.u64.wrap ((IntKind.u64.wrap ((IntKind.u64.wrap (x1.v.c.v * 6364136223846793005)) + (IntKind.u64.wrap x3))) + 462197))])) h44 fun h45=>g1 45 (.ref (.bx zP) 0 [1] (ji (w64 (x1.v.b + 1)))) h45 fun h46=>g1 46 (ji (w64 (x1.v.b + 1))) h46 fun h47=>gm h0 fun h48=>g1 48 (.ref (.bx zP) 0 [] (.agg [eB x1.v.a,ji (w64 (x1.v.b + 1)),.int .u64 (IntKind.u64.wrap ((IntKind.u64.wrap ((IntKind.u64.wrap (x1.v.c.v * 6364136223846793005)) + (IntKind.u64.wrap x3))) + 462197))])) h48 fun h49=>g1 49 (.ref (.bx zP) 0 [0] (eB x1.v.a)) h49 fun h50=>?_))))
 refine g1 50 (eB x1.v.a) h50 fun h51=>gl x1.v.a h51 fun h52=>g2 47 52 (jb (decide ((w64 (x1.v.b + 1))≤(x1.v.a.length:Int)))) h47 h52 fun h53=>gq (.nsq (zu h53 h (fun h=>?_) (fun h=>?_)))
 · refine .seq (rg (gm h3 fun h54=>gm h54 fun h2=>gq (.nsq (.ret ?_))))
   obtain rfl:=oi h
   exact rt1 (t:=0) (zA h2) h0
 refine .skip (.nsq (.seq (rg (gm h0 fun h55=>g1 55 (.ref (.bx zP) 0 [] (.agg [eB x1.v.a,ji (w64 (x1.v.b + 1)),.int .u64 (IntKind.u64.wrap ((IntKind.u64.wrap ((IntKind.u64.wrap (x1.v.c.v * 6364136223846793005)) + (IntKind.u64.wrap x3))) + 462197))])) h55 fun h56=>g1 56 (.ref (.bx zP) 0 [2] (.int .u64 (IntKind.u64.wrap ((IntKind.u64.wrap ((IntKind.u64.wrap (x1.v.c.v * 6364136223846793005)) + (IntKind.u64.wrap x3))) + 462197)))) h56 fun h57=>g1 57 (.int .u64 (IntKind.u64.wrap ((IntKind.u64.wrap ((IntKind.u64.wrap (x1.v.c.v * 6364136223846793005)) + (IntKind.u64.wrap x3))) + 462197))) h57 fun h58=>?_))))
 obtain ⟨q4,Eq4,h⟩:=zd h
 refine gv (.int .u64 q4) (Wi h58 rfl Eq4) fun h59=>g1 59 (.int .u64 (yI .u64 q4 255)) h59 fun h60=>g1 60 (ji (w64 (yI .u64 q4 255))) h60 fun h61=>gm h61 fun h2=>gq (.nsq (.ret ?_))
 obtain rfl:=oi h
 exact rt1 (t:=0) (zA h2) h0
def vU (F:Nat) (x1:CC):Option (Int×CU):=
 bif decide (x1.v.b < (x1.v.a.length:Int)) then
  (idx x1.v.a x1.v.b).bind fun v5=>
  uu F x1 (w64 v5.v)
 else
  uu F x1 0
theorem t43 (H:H43 D σ F) (x1:CC) (s:Nat→V) (hs:zB [(0,bC x1.v)] s) (h:vU F x1=some r):Run D σ (R43 r) (.run A43 []) s:=by
 unfold vU at h
 have h0:=hs
 refine .seq (rg (g0 (ji 0) fun h2=>gq (.nsq (.seq (rg (g0 (ji 0) fun h3=>gq (.nsq (.seq (.seq (rg (gm h0 fun h4=>g1 4 (bC x1.v) h4 fun h5=>g1 5 (.ref (.bx zP) 0 [1] (ji x1.v.b)) h5 fun h6=>g1 6 (ji x1.v.b) h6 fun h7=>gm h0 fun h8=>g1 8 (bC x1.v) h8 fun h9=>g1 9 (.ref (.bx zP) 0 [0] (eB x1.v.a)) h9 fun h10=>g1 10 (eB x1.v.a) h10 fun h11=>gl x1.v.a h11 fun h12=>g2 7 12 (jb (decide (x1.v.b < (x1.v.a.length:Int)))) h7 h12 fun h13=>gq (.nsq (zu h13 h (fun h=>?_) (fun h=>?_))))))))))))))
 · refine rg (gm h0 fun h14=>g1 14 (bC x1.v) h14 fun h15=>g1 15 (.ref (.bx zP) 0 [0] (eB x1.v.a)) h15 fun h16=>g1 16 (eB x1.v.a) h16 fun h17=>gm h0 fun h18=>g1 18 (bC x1.v) h18 fun h19=>g1 19 (.ref (.bx zP) 0 [1] (ji x1.v.b)) h19 fun h20=>g1 20 (ji x1.v.b) h20 fun h21=>?_)
   obtain ⟨v5,Ev5,h⟩:=zd h
   refine gv (.ref .sh 0 [] (.int .u8 v5.v)) (yG (t:=.sh) (lo:=0) (xs:=x1.v.a) h17 h21 Ev5 rfl rfl) fun h22=>g1 22 (.int .u8 v5.v) h22 fun h23=>g1 23 (ji (w64 v5.v)) h23 fun h24=>gm h24 fun h3=>gq ?_
   exact zcp H x1 (w64 v5.v) _ ⟨h0,h2,h3⟩ h
 refine .skip ?_
 exact zcp H x1 0 _ ⟨h0,h2,h3⟩ h
end
def e43 (F:Nat):Ent:=ent 43 (fun (x:(CC×Unit))=>vU F x.1) (fun (r:(Int×CU))=>(.tup [enc (r.1:Int),.tup [cuV zP r.2]])) Zc false []
abbrev C43 (D:List V→Option V) (F:Nat):Prop:=∀ (x0:CC) r,vU F x0=some r→D [Arg.arg x0]=some (.tup [enc (r.1:Int),.tup [cuV zP r.2]])
theorem p43 {F:Nat}:C43 (e43 F).den F:=fun x0 _ h=>zZ (x0,()) h
theorem o43 (hF:zH Tp D σ) (H:H43 D σ F):(e43 F).Ok Tp:=okZ (f:=43) Try.func43 fun ⟨x0,_⟩ y hy=>cT hF Try.func43 c43 (t43 H x0 _ rfl hy)
def zmo:AC:=(.seq (rr [jm 17 5,jm 18 1,jv 19 (.bin .rem (.t 17) (.t 18)),jm 4 19]) .ret)
def zrG:AC:=(.cond (.t 7) (.seq (rr [jv 4 (.mov (jn 0))]) .ret) .skip)
def zpX:AC:=(.cond (.t 11) (rr [jm 12 5,jv 13 (.bin .mul (.t 12) (jn 256)),jm 14 0,jx 15 (.callT (jf 43) [.t 14] [0] []),jv 16 (.bin .add (.t 13) (.t 15)),jm 5 16]) .skip)
def zqS:AC:=(.seq (.seq (rr [jm 10 1,jv 11 (.bin .gtr (.t 10) (jn 200))]) zpX) zmo)
def zq5:AC:=(.seq (rr [jm 8 0,jx 9 (.callT (jf 43) [.t 8] [0] []),jm 5 9]) zqS)
def ztL:AC:=(.seq (.seq (rr [jm 6 1,jv 7 (.bin .leq (.t 6) (jn 1))]) zrG) zq5)
def A20:AC:=(.seq (rr [jv 4 (.mov (jn 0))]) ztL)
def zwD:List An:=[⟨3,[],[],[2000000],[]⟩,⟨5,[],[],[4000000],[]⟩]
theorem c20:cq Tp Try.f20 zwD=some A20:=by kernel_rfl
structure H20 (D:Den) (σ:Sig) (F:Nat):Prop where
 c43:C43 (D 43) F
 g43:σ 43=some (Zc,false)
abbrev R20 (r:(Int×CU)):(Nat→V)→Prop:=RT Tp [.tmp 4] (enc (r.1:Int)) [cuV zP r.2]
section
variable {r:(Int×CU)}
def uA (F:Nat) (x2:Int)  (x5:LB) (x6:Int) (x7:Int) (x8:Int):Option (Int×CU):=
 (ziA .i64 x8 x2).bind fun q9=>
 some (q9,S3.mk x5 x6 (Kd.mk x7:Kd .u64))
theorem zcH (H:H20 D σ F) (x2:Int)  (x5:LB) (x6:Int) (x7:Int) (x8:Int) (s:Nat→V) (hs:zB [(0,.ref (.bx zP) 0 [] (.agg [eB x5,ji x6,.int .u64 x7])),(1,ji x2),(4,ji 0),(5,ji x8)] s) (h:uA F x2  x5 x6 x7 x8=some r):Run D σ (R20 r) (.nrm [.sq zmo]) s:=by
 unfold uA at h
 obtain ⟨h0,h1,h4,h5⟩:=hs
 refine .nsq (.seq (rg (gm h5 fun h17=>gm h1 fun h18=>?_)))
 obtain ⟨q9,Eq9,h⟩:=zd h
 refine gv (ji q9) (zny h17 h18 Eq9) fun h19=>gm h19 fun h4=>gq (.nsq (.ret ?_))
 obtain rfl:=oi h
 exact rt1 (t:=0) (zA h4) h0
def yj (F:Nat) (x1:CC) (x2:Int):Option (Int×CU):=
 bif decide (x2≤1) then
  some (0,x1.v)
 else
  (vU F (Cu.mk x1.v)).bind fun r3=>
  bif decide (x2 > 200) then
   (vU F (Cu.mk r3.2)).bind fun r10=>
   uA F x2 r10.2.a r10.2.b r10.2.c.v (w64 ((w64 (r3.1 * 256)) + r10.1))
  else
   uA F x2 r3.2.a r3.2.b r3.2.c.v r3.1
theorem t20 (H:H20 D σ F) (x1:CC) (x2:Int) (s:Nat→V) (hs:zB [(0,bC x1.v),(1,ji x2)] s) (h:yj F x1 x2=some r):Run D σ (R20 r) (.run A20 []) s:=by
 unfold yj at h
 obtain ⟨h0,h1⟩:=hs
 refine .seq (rg (g0 (ji 0) fun h4=>gq (.nsq (.seq (.seq (rg (gm h1 fun h6=>g1 6 (jb (decide (x2≤1))) h6 fun h7=>gq (.nsq (zu h7 h (fun h=>?_) (fun h=>?_))))))))))
 · refine .seq (rg (g0 (ji 0) fun h4=>gq (.nsq (.ret ?_))))
   obtain rfl:=oi h
   exact rt1 (t:=0) (zA h4) h0
 refine .skip (.nsq (.seq (rg (gm h0 fun h8=>?_))))
 obtain ⟨r3,Er3,h⟩:=zd h
 refine vJ (r:=zP) (b:=0) (x:=x1.v) (x':=r3.2) (vs:=[]) (res:=enc (r3.1:Int)) h0 (by exact (zL (v:=cuV zP x1.v) h8 rfl yQ)) yz (fun f=>zk) (H.c43 _ _ Er3) H.g43 te rfl (fun s1 hb1 ha1=>gm (rf (ji r3.1)) fun h5=>gz [(0,_),(1,ji x2),(4,ji 0),(5,_)] ⟨(show s1 0=(bC r3.2) from hb1 0 h0),(show s1 1=(ji x2) from ha1 1 _ _ h1 rfl mi),(show s1 4=(ji 0) from ha1 4 _ _ h4 rfl mi),h5⟩ ?_)
 rintro s ⟨h0,h1,h4,h5⟩
 refine .nsq (.seq (.seq (rg (gm h1 fun h10=>g1 10 (jb (decide (x2 > 200))) h10 fun h11=>gq (.nsq (zu h11 h (fun h=>?_) (fun h=>?_)))))))
 · refine rg (gm h5 fun h12=>g1 12 (ji (w64 (r3.1 * 256))) h12 fun h13=>gm h0 fun h14=>?_)
   obtain ⟨r10,Er10,h⟩:=zd h
   refine vJ (r:=zP) (b:=0) (x:=r3.2) (x':=r10.2) (vs:=[]) (res:=enc (r10.1:Int)) h0 (by exact (zL (v:=cuV zP r3.2) h14 rfl yQ)) yz (fun f=>zk) (H.c43 _ _ Er10) H.g43 te rfl (fun s3 hb3 ha3=>g2 13 15 (ji (w64 ((w64 (r3.1 * 256)) + r10.1))) (show s3 13=(ji (w64 (r3.1 * 256))) from ha3 13 _ _ h13 rfl mi) (rf (ji r10.1)) fun h16=>gm h16 fun h5=>gz [(0,_),(1,ji x2),(4,ji 0),(5,_)] ⟨(show s3 0=(bC r10.2) from hb3 0 h0),(show s3 1=(ji x2) from ha3 1 _ _ h1 rfl mi),(show s3 4=(ji 0) from ha3 4 _ _ h4 rfl mi),h5⟩ ?_)
   rintro s ⟨h0,h1,h4,h5⟩
   exact zcH H x2 r10.2.a r10.2.b r10.2.c.v (w64 ((w64 (r3.1 * 256)) + r10.1)) _ ⟨h0,h1,h4,h5⟩ h
 refine .skip ?_
 exact zcH H x2 r3.2.a r3.2.b r3.2.c.v r3.1 _ ⟨h0,h1,h4,h5⟩ h
end
def e20 (F:Nat):Ent:=ent 20 (fun (x:(CC×Int×Unit))=>yj F x.1 x.2.1) (fun (r:(Int×CU))=>(.tup [enc (r.1:Int),.tup [cuV zP r.2]])) Zc false []
abbrev C20 (D:List V→Option V) (F:Nat):Prop:=∀ (x0:CC) (x1:Int) r,yj F x0 x1=some r→D [Arg.arg x0,enc x1]=some (.tup [enc (r.1:Int),.tup [cuV zP r.2]])
theorem p20 {F:Nat}:C20 (e20 F).den F:=fun x0 x1 _ h=>zZ (x0,x1,()) h
theorem o20 (hF:zH Tp D σ) (H:H20 D σ F):(e20 F).Ok Tp:=okZ (f:=20) Try.func20 fun ⟨x0,x1,_⟩ y hy=>cT hF Try.func20 c20 (t20 H x0 x1 _ ⟨rfl,rfl⟩ hy)
def zu5:AC:=(.seq (rr [jm 5 1,jm 6 0,jm 7 1,jk 8 7,jx 9 (.callT (jf 20) [.t 6,.t 8] [0] []),jv 10 (.idx (.t 5) (.t 9) 1),jl 11 10,jm 4 11]) .ret)
def A42:AC:=(.seq (rr [jv 4 (.mov (jn 0))]) zu5)
def zxL:List An:=[⟨1,[],[],[5000000],[]⟩]
theorem c42:cq Tp Try.f42 zxL=some A42:=by kernel_rfl
structure H42 (D:Den) (σ:Sig) (F:Nat):Prop where
 c20:C20 (D 20) F
 g20:σ 20=some (Zc,false)
abbrev R42 (r:(Int×CU)):(Nat→V)→Prop:=RT Tp [.tmp 4] (enc (r.1:Int)) [cuV zP r.2]
section
variable {r:(Int×CU)}
def xx (F:Nat) (x1:CC) (x2:LI):Option (Int×CU):=
 (yj F (Cu.mk x1.v) (x2.length:Int)).bind fun r3=>
 (idx x2 r3.1).bind fun v4=>
 some (v4,r3.2)
theorem t42 (H:H42 D σ F) (x1:CC) (x2:LI) (s:Nat→V) (hs:zB [(0,bC x1.v),(1,eL x2)] s) (h:xx F x1 x2=some r):Run D σ (R42 r) (.run A42 []) s:=by
 unfold xx at h
 obtain ⟨h0,h1⟩:=hs
 refine .seq (rg (g0 (ji 0) fun h4=>gq (.nsq (.seq (rg (gm h1 fun h5=>gm h0 fun h6=>gm h1 fun h7=>gl x2 h7 fun h8=>?_))))))
 obtain ⟨r3,Er3,h⟩:=zd h
 refine vJ (r:=zP) (b:=0) (x:=x1.v) (x':=r3.2) (vs:=[enc ((x2.length:Int):Int)]) (res:=enc (r3.1:Int)) h0 (by exact (zL (v:=cuV zP x1.v) h6 rfl (zL (v:=enc ((x2.length:Int):Int)) h8 rfl yQ))) (yh te yz) fm1 (H.c20 _ _ _ Er3) H.g20 te rfl (fun s1 hb1 ha1=>?_)
 obtain ⟨v4,Ev4,h⟩:=zd h
 refine gv (.ref .sh 0 [] (ji v4)) (yG (t:=.sh) (lo:=0) (xs:=x2) (show s1 5=(eL x2) from ha1 5 _ _ h5 rfl me) rfl Ev4 rfl rfl) fun h10=>g1 10 (ji v4) h10 fun h11=>gm h11 fun h4=>gz [(0,_),(4,_)] ⟨(show s1 0=(bC r3.2) from hb1 0 h0),h4⟩ ?_
 rintro s ⟨h0,h4⟩
 refine .nsq (.ret ?_)
 obtain rfl:=oi h
 exact rt1 (t:=0) (zA h4) h0
end
def e42 (F:Nat):Ent:=ent 42 (fun (x:(CC×LI×Unit))=>xx F x.1 x.2.1) (fun (r:(Int×CU))=>(.tup [enc (r.1:Int),.tup [cuV zP r.2]])) Zc false []
abbrev C42 (D:List V→Option V) (F:Nat):Prop:=∀ (x0:CC) (x1:LI) r,xx F x0 x1=some r→D [Arg.arg x0,enc x1]=some (.tup [enc (r.1:Int),.tup [cuV zP r.2]])
theorem p42 {F:Nat}:C42 (e42 F).den F:=fun x0 x1 _ h=>zZ (x0,x1,()) h
theorem o42 (hF:zH Tp D σ) (H:H42 D σ F):(e42 F).Ok Tp:=okZ (f:=42) Try.func42 fun ⟨x0,x1,_⟩ y hy=>cT hF Try.func42 c42 (t42 H x0 x1 _ ⟨rfl,rfl⟩ hy)
def zpS:AC:=(.seq (rr [jm 5 0,jm 6 1,jx 7 (.callT (jf 20) [.t 5,.t 6] [0] []),jv 8 (.bin .eql (.t 7) (jn 0)),jm 4 8]) .ret)
def A41:AC:=(.seq (rr [jv 4 (.mov kf)]) zpS)
def zvZ:List An:=[⟨1,[],[],[3000000],[]⟩]
theorem c41:cq Tp Try.f41 zvZ=some A41:=by kernel_rfl
structure H41 (D:Den) (σ:Sig) (F:Nat):Prop where
 c20:C20 (D 20) F
 g20:σ 20=some (Zc,false)
abbrev R41 (r:(Bool×CU)):(Nat→V)→Prop:=RT Tp [.tmp 4] (enc (r.1:Bool)) [cuV zP r.2]
section
variable {r:(Bool×CU)}
def wF (F:Nat) (x1:CC) (x2:Int):Option (Bool×CU):=
 (yj F (Cu.mk x1.v) x2).bind fun r3=>
 some ((r3.1 == 0),r3.2)
theorem t41 (H:H41 D σ F) (x1:CC) (x2:Int) (s:Nat→V) (hs:zB [(0,bC x1.v),(1,ji x2)] s) (h:wF F x1 x2=some r):Run D σ (R41 r) (.run A41 []) s:=by
 unfold wF at h
 obtain ⟨h0,h1⟩:=hs
 refine .seq (rg (g0 (jb false) fun h4=>gq (.nsq (.seq (rg (gm h0 fun h5=>gm h1 fun h6=>?_))))))
 obtain ⟨r3,Er3,h⟩:=zd h
 refine vJ (r:=zP) (b:=0) (x:=x1.v) (x':=r3.2) (vs:=[enc (x2:Int)]) (res:=enc (r3.1:Int)) h0 (by exact (zL (v:=cuV zP x1.v) h5 rfl (zL (v:=enc (x2:Int)) h6 rfl yQ))) (yh te yz) fm1 (H.c20 _ _ _ Er3) H.g20 te rfl (fun s1 hb1 ha1=>g1 7 (jb (r3.1 == 0)) (rf (ji r3.1)) fun h8=>gm h8 fun h4=>gz [(0,_),(4,_)] ⟨(show s1 0=(bC r3.2) from hb1 0 h0),h4⟩ ?_)
 rintro s ⟨h0,h4⟩
 refine .nsq (.ret ?_)
 obtain rfl:=oi h
 exact rt1 (t:=0) (zA h4) h0
end
def e41 (F:Nat):Ent:=ent 41 (fun (x:(CC×Int×Unit))=>wF F x.1 x.2.1) (fun (r:(Bool×CU))=>(.tup [enc (r.1:Bool),.tup [cuV zP r.2]])) Zc false []
abbrev C41 (D:List V→Option V) (F:Nat):Prop:=∀ (x0:CC) (x1:Int) r,wF F x0 x1=some r→D [Arg.arg x0,enc x1]=some (.tup [enc (r.1:Bool),.tup [cuV zP r.2]])
theorem p41 {F:Nat}:C41 (e41 F).den F:=fun x0 x1 _ h=>zZ (x0,x1,()) h
theorem o41 (hF:zH Tp D σ) (H:H41 D σ F):(e41 F).Ok Tp:=okZ (f:=41) Try.func41 fun ⟨x0,x1,_⟩ y hy=>cT hF Try.func41 c41 (t41 H x0 x1 _ ⟨rfl,rfl⟩ hy)
def zrV:AC:=(.cond (.t 7) (.seq (rr [jm 8 0,jm 4 8]) .ret) .skip)
def zq6:AC:=(.seq (rr [jm 9 1,jm 4 9]) .ret)
def zsS:AC:=(.seq (.seq (rr [jm 5 0,jm 6 1,jv 7 (.bin .lss (.t 5) (.t 6))]) zrV) zq6)
def A40:AC:=(.seq (rr [jv 4 (.mov (jn 0))]) zsS)
def zxR:List An:=[]
theorem c40:cq Tp Try.f40 zxR=some A40:=by kernel_rfl
structure H40 (D:Den) (σ:Sig) (F:Nat):Prop where
 mk ::
abbrev R40 (r:Int):(Nat→V)→Prop:=RR Tp [.tmp 4] 0 false (enc (r:Int))
section
variable {r:Int}
def ZM (F:Nat) (x1:Int) (x2:Int):Option Int:=
 bif decide (x1 < x2) then
  some x1
 else
  some x2
theorem t40 (H:H40 D σ F) (x1:Int) (x2:Int) (s:Nat→V) (hs:zB [(0,ji x1),(1,ji x2)] s) (h:ZM F x1 x2=some r):Run D σ (R40 r) (.run A40 []) s:=by
 unfold ZM at h
 obtain ⟨h0,h1⟩:=hs
 refine .seq (rg (g0 (ji 0) fun h4=>gq (.nsq (.seq (.seq (rg (gm h0 fun h5=>gm h1 fun h6=>g2 5 6 (jb (decide (x1 < x2))) h5 h6 fun h7=>gq (.nsq (zu h7 h (fun h=>?_) (fun h=>?_))))))))))
 · refine .seq (rg (gm h0 fun h8=>gm h8 fun h4=>gq (.nsq (.ret ?_))))
   obtain rfl:=oi h
   exact rrA (zA h4) rfl
 refine .skip (.nsq (.seq (rg (gm h1 fun h9=>gm h9 fun h4=>gq (.nsq (.ret ?_))))))
 obtain rfl:=oi h
 exact rrA (zA h4) rfl
end
def e40 (F:Nat):Ent:=ent 40 (fun (x:(Int×Int×Unit))=>ZM F x.1 x.2.1) (fun (r:Int)=>(enc (r:Int))) 0 false []
abbrev C40 (D:List V→Option V) (F:Nat):Prop:=∀ (x0:Int) (x1:Int) r,ZM F x0 x1=some r→D [enc x0,enc x1]=some (enc (r:Int))
theorem p40 {F:Nat}:C40 (e40 F).den F:=fun x0 x1 _ h=>zZ (x0,x1,()) h
theorem o40 (hF:zH Tp D σ) (H:H40 D σ F):(e40 F).Ok Tp:=okZ (f:=40) Try.func40 fun ⟨x0,x1,_⟩ y hy=>cR hF Try.func40 c40 (t40 H x0 x1 _ ⟨rfl,rfl⟩ hy)
def zoY:AC:=(.cond (.t 11) .skip (.exit 0))
def znS:AC:=(rr [jm 12 4,jv 13 (.bin .add (.t 12) (jn 1)),jm 4 13])
def zoW:AC:=(.seq (.block 1 (.reg [.clr [20,21]] [jv 14 (.fld (.t 3) 1 1),jv 15 (.load .p (.t 14)),jm 16 4,jm 17 4,jv 18 (.bin .add (.t 17) (jn 1)),jv 19 (.bld (.agg [i0,i0]) [(0,0,.t 16),(1,1,.t 18)]),jx 20 (.lit (.agg [i0,i0]) 1 [(0,0,.t 19)]),jx 21 (.app (.ag [.s,.s]) (.t 15) (.t 20)),jv 22 (.fld (.t 3) 1 1),jz (.store .p (.t 22) (.t 21))] [.drp 6,.home 21 6])) znS)
def zdV:AC:=(.seq (.seq (rr [jm 8 4,jv 9 (.bin .add (.t 8) (jn 1)),jm 10 0,jv 11 (.bin .lss (.t 9) (.t 10))]) zoY) zoW)
def ziB:AC:=(.seq (rr [jv 23 (.load (.ag [.s,.p]) (.t 3)),jz (.store (.ag [.s,.p]) (.t 2) (.t 23))]) .ret)
def zos:AC:=(.block 0 (.loop zdV))
def znA:AC:=(.seq (.seq (rr [jv 4 (.mov (jn 0))]) zos) ziB)
def zo2:AC:=(.seq (.reg [.clr [6,3]] [jm 5 0,jx 6 (.lit (.agg [i0,i0]) 0 []),jv 7 (.bld (.agg [i0,.sl .nl (.ag [.s,.s]) 0 []]) [(0,0,.t 5),(1,1,.t 6)]),jx 3 (.alloc (.agg [i0,.sl .nl (.ag [.s,.s]) 0 []])),jz (.store (.ag [.s,.p]) (.t 3) (.t 7))] []) znA)
def zsR:AC:=(.seq (.reg [.clr [2]] [jx 2 (.alloc (.agg [i0,.sl .nl (.ag [.s,.s]) 0 []]))] []) zo2)
def zrR:List An:=[⟨0,[.clr [2]],[],[],[]⟩,⟨1,[.clr [6,3]],[],[],[]⟩,⟨5,[.clr [20,21]],[],[],[.drp 6,.home 21 6]⟩]
theorem c69o:cq Tp Try.f69 zrR=some zsR:=by kernel_rfl
structure zoN (D:Den) (σ:Sig) (F:Nat):Prop where
 mk ::
abbrev ztN (r:(Int×(NL (Int×Int)))):(Nat→V)→Prop:=RR Tp [.cell 2 26] 1 false (.agg [enc (r.1:Int),zh .sh (r.2:NL (Int×Int))])
section
variable {r:(Int×(NL (Int×Int)))}
def XY (F:Nat) (x1:Int) :Nat→TP→Int→Option (Int×(NL (Int×Int)))
 | 0,_,_=>none
 | k + 1,x3,x4=>
   bif decide ((w64 (x4 + 1)) < x1) then
    (vh x3 [(x4,w64 (x4 + 1))]).bind fun ap6=>
    (XY F x1 k) ap6 (w64 (x4 + 1))
   else
    some (x1,.of x3)
theorem zg0 (H:zoN D σ F) (x1:Int) :∀ (k:Nat) (x3:TP) (x4:Int) (s:Nat→V),zB [(0,ji x1),(2,bZ 2),(3,.ref (.bx 3) 0 [] (.agg [ji x1,zh (.at 6 []) (.of (x3:TP))])),(4,ji x4)] s→XY F x1 k x3 x4=some r→Run D σ (ztN r) (.run zdV [.lp zdV,.bk 0,.sq ziB]) s:=by
 intro k
 induction k with
 | zero=>intro x3 x4 s _ h;exact nm h
 | succ k ih=>
   intro x3 x4 s hs h
   rw [XY] at h
   obtain ⟨h0,h2,h3,h4⟩:=hs
   refine .seq (.seq (rg (gm h4 fun h8=>g1 8 (ji (w64 (x4 + 1))) h8 fun h9=>gm h0 fun h10=>g2 9 10 (jb (decide ((w64 (x4 + 1)) < x1))) h9 h10 fun h11=>gq (.nsq (zu h11 h (fun h=>?_) (fun h=>?_))))))
   · refine .skip (.nsq (.seq (.block (zC (yc ?_)))))
     refine ez [(0,_),(2,_),(3,_),(4,_),(20,_),(21,_)] ⟨za h0 rfl mi,za h2 rfl (zi rfl (mIx rfl)),za h3 rfl (zi rfl (zr (zc mi (zc (zm (r:=6) (p:=[]) rfl rfl) zk)))),za h4 rfl mi,zg rfl,zg rfl⟩ ?_
     rintro s ⟨h0,h2,h3,h4,h20,h21⟩
     refine g1 3 (.ref (.bx 3) 0 [1] (zh (.at 6 []) (.of (x3:TP)))) h3 fun h14=>g1 14 (zh (.at 6 []) (.of (x3:TP))) h14 fun h15=>gm h4 fun h16=>gm h4 fun h17=>g1 17 (ji (w64 (x4 + 1))) h17 fun h18=>g2 16 18 (.agg [ji x4,ji (w64 (x4 + 1))]) h16 h18 fun h19=>xv [(19,.agg [ji x4,ji (w64 (x4 + 1))])] [enc ((x4,w64 (x4 + 1)):(Int×Int))] h19 rfl rfl h20 ?_
     obtain ⟨ap6,Eap6,h⟩:=zd h
     refine ZG (q:=6) (p:=[]) (o:=.of (x3:TP)) (ys:=([(x4,w64 (x4 + 1))]:TP)) (t2:=.at 20 []) (lo2:=0) h15 rfl rfl h21 (vK (o:=.of (x3:TP)) Eap6 trivial) (fun s12 ha12=>g1 3 (.ref (.bx 3) 0 [1] (kdO ((.of x3):NL (Int×Int)))) (show s12 3=(.ref (.bx 3) 0 [] (.agg [ji x1,kdO ((.of x3):NL (Int×Int))])) from xG ha12 h3 (zi rfl (zr (zc mi (zc wX zk)))) (by intro h;first | (cases h;done) | (subst h;rfl))) fun h22=>zQ (zh (.at 21 []) (.of (ap6:TP))) (zx h22 rfl) (zx rfl rfl) ⟨by decide,by decide,rfl,rfl,YQ,ui rfl rfl⟩ (xf (uq (x:=6) (fun s13 hx_13 hd_13=>?_))))
     refine yR (r:=21) (x:=6) (v:=_) (by exact hx_13) rfl (fun s14 hz14=>?_)
     refine ez [(0,ji x1),(2,bZ 2),(3,.ref (.bx 3) 0 [] (.agg [ji x1,zh (.at 6 []) (.of (ap6:TP))])),(4,ji x4)] ⟨hz14 0 _ _ (show s13 0=(ji x1) from (hd_13 0 (by decide)).trans (zb (show s12 0=(ji x1) from zF ha12 h0 mi) rfl)) mi,hz14 2 _ _ (show s13 2=(bZ 2) from (hd_13 2 (by decide)).trans (zb (show s12 2=(bZ 2) from zF ha12 h2 (zi rfl (mIx rfl))) (zj rfl rfl (zK (zf rfl (zf rfl rfl)))))) (zi rfl (mIx rfl)),hz14 3 _ (.ref (.bx 3) 0 [] (.agg [ji x1,zh (.at 6 []) (.of (ap6:TP))])) (show s13 3=(.ref (.bx 3) 0 [] (.agg [ji x1,zh (.at 21 []) (.of (ap6:TP))])) from (hd_13 3 (by decide)).trans (zb (show s12 3=(.ref (.bx 3) 0 [] (.agg [ji x1,kdO ((.of x3):NL (Int×Int))])) from xG ha12 h3 (zi rfl (zr (zc mi (zc wX zk)))) (by intro h;first | (cases h;done) | (subst h;rfl))) (u6 (zf rfl (zf YS rfl))))) (zi rfl (zr (zc mi (zc (zm (r:=21) (p:=[]) rfl rfl) zk)))),hz14 4 _ _ (show s13 4=(ji x4) from (hd_13 4 (by decide)).trans (zb (show s12 4=(ji x4) from zF ha12 h4 mi) rfl)) mi⟩ ?_
     rintro s ⟨h0,h2,h3,h4⟩
     refine .nbk (.nsq (rg (gm h4 fun h12=>g1 12 (ji (w64 (x4 + 1))) h12 fun h13=>gm h13 fun h4=>gq (.nlp ?_))))
     exact ih ap6 (w64 (x4 + 1)) _ ⟨h0,h2,h3,h4⟩ h
   refine .exit (.esq (.elp (.ebk (.nsq (.seq (rg (g1 3 (.agg [ji x1,zh (.at 6 []) (.of (x3:TP))]) h3 fun h23=>zQ (.agg [ji x1,zh (.at 6 []) (.of (x3:TP))]) (zx h2 rfl) (zx h23 rfl) (xr (by first | rfl | simp [V.toks,V.tokss,toks_enc,zN])) (gz [(2,.ref (.bx 2) 0 [] (.agg [ji x1,zh (.at 6 []) (.of (x3:TP))]))] (zb h2 rfl) ?_))))))))
   rintro s h2
   refine .nsq (.ret ?_)
   obtain rfl:=oi h
   exact rrA (yL h2 (by kernel_rfl)) (Xy (WY (wn NR (wn (YH (o:=((.of x3):NL (Int×Int)))) Yk))) rfl (UT (Zw rfl (Zw (vR rfl) WD))))
def YZ (F:Nat) (x1:Int):Option (Int×(NL (Int×Int))):=
 XY F x1 F [] 0
theorem zvL (H:zoN D σ F) (x1:Int) (s:Nat→V) (hs:zB [(0,ji x1)] s) (h:YZ F x1=some r):Run D σ (ztN r) (.run zsR []) s:=by
 unfold YZ at h
 have h0:=hs
 refine .seq (zC (yc ?_))
 refine ez [(0,_),(2,_)] ⟨za h0 rfl mi,zg rfl⟩ ?_
 rintro s ⟨h0,h2⟩
 refine y6 h2 (gq (.nsq (.seq (zC (yc ?_)))))
 refine ez [(0,_),(2,_),(3,_),(6,_)] ⟨za h0 rfl mi,za rfl rfl (zi rfl (mIx rfl)),zg rfl,zg rfl⟩ ?_
 rintro s ⟨h0,h2,h3,h6⟩
 refine gm h0 fun h5=>xv [] [] trivial rfl rfl h6 (g2 5 6 (.agg [ji x1,zh (.at 6 []) (.of ([]:TP))]) h5 (rf (zh (.at 6 []) (.of ([]:TP)))) fun h7=>y6 h3 (zQ (.agg [ji x1,zh (.at 6 []) (.of ([]:TP))]) (zx rfl rfl) (zx h7 rfl) (xr (by first | rfl | simp [V.toks,V.tokss,toks_enc,zN])) (gz [(0,ji x1),(2,bZ 2),(3,.ref (.bx 3) 0 [] (.agg [ji x1,zh (.at 6 []) (.of ([]:TP))]))] ⟨zb h0 rfl,zb h2 (zj rfl rfl (zK (zf rfl (zf rfl rfl)))),zb rfl rfl⟩ ?_)))
 rintro s ⟨h0,h2,h3⟩
 refine .nsq (.seq (.seq (rg (g0 (ji 0) fun h4=>gq (.nsq (.block (.loop ?_)))))))
 exact zg0 H x1 F [] 0 _ ⟨h0,h2,h3,h4⟩ h
end
def zm1 (F:Nat):Ent:=ent 1000000069 (fun (x:(Int×Unit))=>YZ F x.1) (fun (r:(Int×(NL (Int×Int))))=>(.agg [enc (r.1:Int),zh .sh (r.2:NL (Int×Int))])) 1 false []
abbrev zpn (D:List V→Option V) (F:Nat):Prop:=∀ (x0:Int) r,YZ F x0=some r→D [enc x0]=some (.agg [enc (r.1:Int),zh .sh (r.2:NL (Int×Int))])
theorem zri {F:Nat}:zpn (zm1 F).den F:=fun x0 _ h=>zZ (x0,()) h
theorem zvY (hF:zH Tp D σ) (H:zoN D σ F):(zm1 F).Ok Tp:=okZ (f:=69) Try.func69 fun ⟨x0,_⟩ y hy=>cR hF Try.func69 c69o (zvL H x0 _ rfl hy)
def zt9:AC:=(.seq (rr [jv 5 (.idxA (.t 2) (jn 0) 2 1),jl 6 5,jv 7 (.idxA (.t 3) (jn 0) 2 1),jl 8 7,jv 9 (.bin .lss (.t 6) (.t 8)),jm 10 9,jg 11 10 false (.idxA (.t 2) (jn 0) 2 1),jg 12 10 false (.load .s (.t 11)),jg 13 10 false (.idxA (.t 3) (jn 0) 2 1),jg 14 10 false (.load .s (.t 13)),jg 15 10 false (.bin .eql (.t 12) (.t 14)),jg 16 10 false (.mov (.t 15)),jg 17 16 true (.idxA (.t 2) (jn 1) 2 1),jg 18 16 true (.load .s (.t 17)),jg 19 16 true (.idxA (.t 3) (jn 1) 2 1),jg 20 16 true (.load .s (.t 19)),jg 21 16 true (.bin .lss (.t 18) (.t 20)),jg 22 10 false (.pick (.t 16) (.t 21) kf),jv 23 (.pick (.t 10) kt (.t 22)),jm 4 23]) .ret)
def A54:AC:=(.seq (.reg [.clr [2,3]] [jx 2 (.box (.t 0)),jx 3 (.box (.t 1)),jv 4 (.mov kf)] []) zt9)
def zwC:List An:=[⟨0,[.clr [2,3]],[],[],[]⟩]
theorem c54:cq Tp Try.f54 zwC=some A54:=by kernel_rfl
structure H54 (D:Den) (σ:Sig) (F:Nat):Prop where
 mk ::
abbrev R54 (r:Bool):(Nat→V)→Prop:=RR Tp [.tmp 4] 0 false (enc (r:Bool))
section
variable {r:Bool}
def Zu (F:Nat) (x1:(Int×Int)) (x2:(Int×Int)):Option Bool:=
 bif decide (x1.1 < x2.1) then
  some true
 else
  bif (x1.1 == x2.1) then
   some (decide (x1.2 < x2.2))
  else
   some false
theorem t54 (H:H54 D σ F) (x1:(Int×Int)) (x2:(Int×Int)) (s:Nat→V) (hs:zB [(0,.agg [ji x1.1,ji x1.2]),(1,.agg [ji x2.1,ji x2.2])] s) (h:Zu F x1 x2=some r):Run D σ (R54 r) (.run A54 []) s:=by
 unfold Zu at h
 obtain ⟨h0,h1⟩:=hs
 refine .seq (zC (yc ?_))
 refine ez [(0,_),(1,_),(2,_),(3,_)] ⟨za h0 rfl mII,za h1 rfl mII,zg rfl,zg rfl⟩ ?_
 rintro s ⟨h0,h1,h2,h3⟩
 refine xU (.agg [ji x1.1,ji x1.2]) (zx h0 rfl) h2 rfl (xU (.agg [ji x2.1,ji x2.2]) (zx h1 rfl) h3 rfl (g0 (jb false) fun h4=>gq (.nsq (.seq (rg (g1 2 (.ref (.bx 2) 0 [0] (ji x1.1)) (rf (.ref (.bx 2) 0 [] (.agg [ji x1.1,ji x1.2]))) fun h5=>g1 5 (ji x1.1) h5 fun h6=>g1 3 (.ref (.bx 3) 0 [0] (ji x2.1)) (rf (.ref (.bx 3) 0 [] (.agg [ji x2.1,ji x2.2]))) fun h7=>g1 7 (ji x2.1) h7 fun h8=>g2 6 8 (jb (decide (x1.1 < x2.1))) h6 h8 fun h9=>gm h9 fun h10=>yd h (fun hg6 h=>?_) (fun hg6 h=>?_)))))))
 · iterate 6 refine yq (ct h10 hg6) ?_
   iterate 5 refine Yu rfl ?_
   refine yq (ct h10 hg6) (g2 10 22 (jb true) (ct h10 hg6) (rf (.tup [])) fun h23=>gm h23 fun h4=>gq (.nsq (.ret ?_)))
   obtain rfl:=oi h
   exact rrA (zA h4) rfl
 refine zt (ct h10 hg6) (g1 2 (.ref (.bx 2) 0 [0] (ji x1.1)) (rf (.ref (.bx 2) 0 [] (.agg [ji x1.1,ji x1.2]))) fun h11=>zt (ct h10 hg6) (g1 11 (ji x1.1) h11 fun h12=>zt (ct h10 hg6) (g1 3 (.ref (.bx 3) 0 [0] (ji x2.1)) (rf (.ref (.bx 3) 0 [] (.agg [ji x2.1,ji x2.2]))) fun h13=>zt (ct h10 hg6) (g1 13 (ji x2.1) h13 fun h14=>zt (ct h10 hg6) (g2 12 14 (jb (x1.1 == x2.1)) h12 h14 fun h15=>zt (ct h10 hg6) (gm h15 fun h16=>yd h (fun hg12 h=>?_) (fun hg12 h=>?_)))))))
 · refine zt (ct h16 hg12) (g1 2 (.ref (.bx 2) 0 [1] (ji x1.2)) (rf (.ref (.bx 2) 0 [] (.agg [ji x1.1,ji x1.2]))) fun h17=>zt (ct h16 hg12) (g1 17 (ji x1.2) h17 fun h18=>zt (ct h16 hg12) (g1 3 (.ref (.bx 3) 0 [1] (ji x2.2)) (rf (.ref (.bx 3) 0 [] (.agg [ji x2.1,ji x2.2]))) fun h19=>zt (ct h16 hg12) (g1 19 (ji x2.2) h19 fun h20=>zt (ct h16 hg12) (g2 18 20 (jb (decide (x1.2 < x2.2))) h18 h20 fun h21=>zt (ct h10 hg6) (g2 16 21 (jb (decide (x1.2 < x2.2))) (ct h16 hg12) h21 fun h22=>g2 10 22 (jb (decide (x1.2 < x2.2))) (ct h10 hg6) h22 fun h23=>gm h23 fun h4=>gq (.nsq (.ret ?_))))))))
   obtain rfl:=oi h
   exact rrA (zA h4) rfl
 iterate 5 refine yq (ct h16 hg12) ?_
 refine zt (ct h10 hg6) (g2 16 21 (jb false) (ct h16 hg12) (rf (.tup [])) fun h22=>g2 10 22 (jb false) (ct h10 hg6) h22 fun h23=>gm h23 fun h4=>gq (.nsq (.ret ?_)))
 obtain rfl:=oi h
 exact rrA (zA h4) rfl
end
def e54 (F:Nat):Ent:=ent 54 (fun (x:((Int×Int)×(Int×Int)×Unit))=>Zu F x.1 x.2.1) (fun (r:Bool)=>(enc (r:Bool))) 0 false []
abbrev C54 (D:List V→Option V) (F:Nat):Prop:=∀ (x0:(Int×Int)) (x1:(Int×Int)) r,Zu F x0 x1=some r→D [enc x0,enc x1]=some (enc (r:Bool))
theorem p54 {F:Nat}:C54 (e54 F).den F:=fun x0 x1 _ h=>zZ (x0,x1,()) h
theorem o54 (hF:zH Tp D σ) (H:H54 D σ F):(e54 F).Ok Tp:=okZ (f:=54) Try.func54 fun ⟨x0,x1,_⟩ y hy=>cR hF Try.func54 c54 (t54 H x0 x1 _ ⟨rfl,rfl⟩ hy)
def ziZ:AC:=(.cond (.t 17) .skip (.exit 0))
def zjN:AC:=(.block 1 (rr [jm 18 5,jv 19 (.bin .add (.t 18) (jn 1)),jm 5 19]))
def Md:AC:=(.seq (.seq (rr [jm 6 5,jm 7 0,jk 8 7,jv 9 (.bin .lss (.t 6) (.t 8)),jm 10 9,jg 11 10 true (.mov (.t 0)),jg 12 10 true (.mov (.t 5)),jg 13 10 true (.idx (.t 11) (.t 12) 2),jg 14 10 true (.load (.ag [.s,.s]) (.t 13)),jg 15 10 true (.load (.ag [.s,.s]) (.t 3)),.mk (some 16) (some (10,true)) false (.call (jf 54) [.t 14,.t 15]),jv 17 (.pick (.t 10) (.t 16) kf)]) ziZ) zjN)
def zae:AC:=(.seq (.reg [.clr [20,24,26,27,31]] [jy 20 (.lit (.agg [i0,i0]) 0 []),jm 21 0,jm 22 5,jv 23 (.slice (.t 21) none (some (.t 22)) 2),jy 24 (.appS (.ag [.s,.s]) (.t 20) (.t 23)),jv 25 (.load (.ag [.s,.s]) (.t 3)),jx 26 (.lit (.agg [i0,i0]) 1 [(0,0,.t 25)]),jy 27 (.appS (.ag [.s,.s]) (.t 24) (.t 26)),jm 28 0,jm 29 5,jv 30 (.slice (.t 28) (some (.t 29)) none 2),jx 31 (.appS (.ag [.s,.s]) (.t 27) (.t 30)),jm 4 31] [.home 31 4]) .ret)
def zoU:AC:=(.seq (.block 0 (.loop Md)) zae)
def zoK:AC:=(.seq (rr [jv 5 (.mov (jn 0))]) zoU)
def zqD:AC:=(.seq (.reg [.clr [3]] [jx 3 (.box (.t 1)),jv 4 (.mov (.k (.sl .nl (.ag [.s,.s]) 0 [])))] []) zoK)
def zsg:List An:=[⟨0,[.clr [3]],[],[],[]⟩,⟨4,[.clr [20,24,26,27,31]],[0,4,7],[4,7,11],[.home 31 4]⟩]
theorem c72o:cq Tp Try.f72 zsg=some zqD:=by kernel_rfl
structure zlJ (D:Den) (σ:Sig) (F:Nat):Prop where
 c54:C54 (D 54) F
 g54:σ 54=some (0,false)
abbrev zkL (r:(NL (Int×Int))):(Nat→V)→Prop:=RR Tp [.tmp 4] 1 false (zh .sh (r:NL (Int×Int)))
section
variable {r:(NL (Int×Int))}
def Zz (F:Nat) (x1:TP) (v2:(Int×Int)) (x8:Int) (c1:Int→Option (NL (Int×Int))) (x16:Bool):Option (NL (Int×Int)):=
 bif x16 then
  c1 (w64 (x8 + 1))
 else
  (sub x1 0 x8).bind fun sub17=>
  (vh [] sub17).bind fun ap18=>
  (vh ap18 [v2]).bind fun ap19=>
  (sub x1 x8 (x1.length:Int)).bind fun sub20=>
  (vh ap19 sub20).bind fun ap21=>
  some (.of ap21)
theorem QM (H:zlJ D σ F) (x1:TP) (v2:(Int×Int)) (x8:Int) (c1:Int→Option (NL (Int×Int))) (Hc1:∀ (x8:Int) (s:Nat→V),zB [(0,eP x1),(3,.ref (.bx 3) 0 [] (.agg [ji v2.1,ji v2.2])),(4,nP),(5,ji x8)] s→c1 x8=some r→Run D σ (zkL r) (.run Md [.lp Md,.bk 0,.sq zae]) s) (x16:Bool) (s:Nat→V) (hs:zB [(0,eP x1),(3,.ref (.bx 3) 0 [] (.agg [ji v2.1,ji v2.2])),(4,nP),(5,ji x8),(17,jb x16)] s) (h:Zz F x1 v2 x8 c1 x16=some r):Run D σ (zkL r) (.nrm [.sq ziZ,.sq zjN,.lp Md,.bk 0,.sq zae]) s:=by
 unfold Zz at h
 obtain ⟨h0,h3,h4,h5,h17⟩:=hs
 refine .nsq (zu h17 h (fun h=>?_) (fun h=>?_))
 · refine .skip (.nsq (.block (rg (gm h5 fun h18=>g1 18 (ji (w64 (x8 + 1))) h18 fun h19=>gm h19 fun h5=>gq (.nbk (.nlp ?_))))))
   exact Hc1 (w64 (x8 + 1)) _ ⟨h0,h3,h4,h5⟩ h
 refine .exit (.esq (.elp (.ebk (.nsq (.seq (zC (yc ?_)))))))
 refine ez [(0,_),(3,_),(4,_),(5,_),(20,_),(24,_),(26,_),(27,_),(31,_)] ⟨za h0 rfl me,za h3 rfl (zi rfl mII),za h4 rfl rfl,za h5 rfl mi,zg rfl,zg rfl,zg rfl,zg rfl,zg rfl⟩ ?_
 rintro s ⟨h0,h3,h4,h5,h20,h24,h26,h27,h31⟩
 refine zaP [] [] trivial rfl rfl h20 (gm h0 fun h21=>gm h5 fun h22=>?_)
 obtain ⟨sub17,Esub17,h⟩:=zd h
 refine gv (eP sub17) (X2 (xs:=x1) h21 (u9) (Ze h22) Esub17 rfl) fun h23=>?_
 obtain ⟨ap18,Eap18,h⟩:=zd h
 refine U5 (p:=[]) (xs:=[]) (ys:=(sub17:TP)) (t2:=.sh) (lo2:=0) rfl h23 rfl h24 rfl Eap18 (g1 3 (.agg [ji v2.1,ji v2.2]) h3 fun h25=>xv [(25,.agg [ji v2.1,ji v2.2])] [enc (v2:(Int×Int))] h25 rfl rfl h26 ?_)
 obtain ⟨ap19,Eap19,h⟩:=zd h
 refine U5 (p:=[]) (xs:=ap18) (ys:=([v2]:TP)) (t2:=.at 26 []) (lo2:=0) rfl rfl rfl h27 rfl Eap19 (gm h0 fun h28=>gm h5 fun h29=>?_)
 obtain ⟨sub20,Esub20,h⟩:=zd h
 refine gv (eP sub20) (X2 (xs:=x1) h28 (Ze h29) (u9) Esub20 rfl) fun h30=>?_
 obtain ⟨ap21,Eap21,h⟩:=zd h
 refine U5 (p:=[]) (xs:=ap19) (ys:=(sub20:TP)) (t2:=.sh) (lo2:=0) rfl h30 rfl h31 rfl Eap21 (gm (rf (zh (.at 31 []) (.of (ap21:TP)))) fun h4=>xf (yR (r:=31) (x:=4) (v:=_) h4 rfl (fun s3 hz3=>?_)))
 refine ez [(4,zh (.at 4 []) (.of (ap21:TP)))] (hz3 4 _ _ h4 (zm (r:=31) (p:=[]) rfl rfl)) ?_
 rintro s h4
 refine .nsq (.ret ?_)
 obtain rfl:=oi h
 exact rrA (zA h4) (Xy (YH (o:=((.of ap21):NL (Int×Int)))) rfl (vR rfl))
def w3 (F:Nat) (x1:TP) (v2:(Int×Int)) :Nat→Int→Option (NL (Int×Int))
 | 0,_=>none
 | k + 1,x8=>
   bif decide (x8 < (x1.length:Int)) then
    (idx x1 x8).bind fun v22=>
    (Zu F v22 v2).bind fun r23=>
    Zz F x1 v2 x8 (w3 F x1 v2 k) r23
   else
    Zz F x1 v2 x8 (w3 F x1 v2 k) false
theorem zgy (H:zlJ D σ F) (x1:TP) (v2:(Int×Int)) :∀ (k:Nat) (x8:Int) (s:Nat→V),zB [(0,eP x1),(3,.ref (.bx 3) 0 [] (.agg [ji v2.1,ji v2.2])),(4,nP),(5,ji x8)] s→w3 F x1 v2 k x8=some r→Run D σ (zkL r) (.run Md [.lp Md,.bk 0,.sq zae]) s:=by
 intro k
 induction k with
 | zero=>intro x8 s _ h;exact nm h
 | succ k ih=>
   intro x8 s hs h
   rw [w3] at h
   obtain ⟨h0,h3,h4,h5⟩:=hs
   refine .seq (.seq (rg (gm h5 fun h6=>gm h0 fun h7=>gl x1 h7 fun h8=>g2 6 8 (jb (decide (x8 < (x1.length:Int)))) h6 h8 fun h9=>gm h9 fun h10=>yd h (fun hg5 h=>?_) (fun hg5 h=>?_))))
   · refine zt (ct h10 hg5) (gm h0 fun h11=>zt (ct h10 hg5) (gm h5 fun h12=>?_))
     obtain ⟨v22,Ev22,h⟩:=zd h
     refine zt (ct h10 hg5) (gv (.ref .sh 0 [] (.agg [ji v22.1,ji v22.2])) (yG (t:=.sh) (lo:=0) (xs:=x1) h11 h12 Ev22 rfl rfl) fun h13=>zt (ct h10 hg5) (g1 13 (.agg [ji v22.1,ji v22.2]) h13 fun h14=>zt (ct h10 hg5) (g1 3 (.agg [ji v2.1,ji v2.2]) h3 fun h15=>?_)))
     obtain ⟨r23,Er23,h⟩:=zd h
     refine zt (ct h10 hg5) (gcF [enc (v22:(Int×Int)),enc (v2:(Int×Int))] (zl h14 rfl (erase_enc (v22:(Int×Int))) (zl h15 rfl (erase_enc (v2:(Int×Int))) zJ)) (H.c54 _ _ _ Er23) H.g54 (g2 10 16 (jb r23) (ct h10 hg5) (rf (jb r23)) fun h17=>gq ?_))
     exact QM H x1 v2 x8 (w3 F x1 v2 k) ih r23 _ ⟨h0,h3,h4,h5,h17⟩ h
   iterate 6 refine yq (ct h10 hg5) ?_
   refine g2 10 16 (jb false) (ct h10 hg5) (rf (.tup [])) fun h17=>gq ?_
   exact QM H x1 v2 x8 (w3 F x1 v2 k) ih false _ ⟨h0,h3,h4,h5,h17⟩ h
def Yr (F:Nat) (x1:TP) (v2:(Int×Int)):Option (NL (Int×Int)):=
 w3 F x1 v2 F 0
theorem zw0 (H:zlJ D σ F) (x1:TP) (v2:(Int×Int)) (s:Nat→V) (hs:zB [(0,eP x1),(1,.agg [ji v2.1,ji v2.2])] s) (h:Yr F x1 v2=some r):Run D σ (zkL r) (.run zqD []) s:=by
 unfold Yr at h
 obtain ⟨h0,h1⟩:=hs
 refine .seq (zC (yc ?_))
 refine ez [(0,_),(1,_),(3,_)] ⟨za h0 rfl me,za h1 rfl mII,zg rfl⟩ ?_
 rintro s ⟨h0,h1,h3⟩
 refine xU (.agg [ji v2.1,ji v2.2]) (zx h1 rfl) h3 rfl (g0 nP fun h4=>gq (.nsq (.seq (rg (g0 (ji 0) fun h5=>gq (.nsq (.seq (.block (.loop ?_)))))))))
 exact zgy H x1 v2 F 0 _ ⟨h0,rfl,h4,h5⟩ h
end
def zo1 (F:Nat):Ent:=ent 1000000072 (fun (x:(TP×(Int×Int)×Unit))=>Yr F x.1 x.2.1) (fun (r:(NL (Int×Int)))=>(zh .sh (r:NL (Int×Int)))) 1 false []
abbrev zn9 (D:List V→Option V) (F:Nat):Prop:=∀ (x0:TP) (x1:(Int×Int)) r,Yr F x0 x1=some r→D [enc x0,enc x1]=some (zh .sh (r:NL (Int×Int)))
theorem zrq {F:Nat}:zn9 (zo1 F).den F:=fun x0 x1 _ h=>zZ (x0,x1,()) h
theorem zvW (hF:zH Tp D σ) (H:zlJ D σ F):(zo1 F).Ok Tp:=okZ (f:=72) Try.func72 fun ⟨x0,x1,_⟩ y hy=>cR hF Try.func72 c72o (zw0 H x0 x1 _ ⟨rfl,rfl⟩ hy)
def znd:AC:=(.seq (rr [jv 13 (.load (.ag [.s,.p]) (.t 3)),jz (.store (.ag [.s,.p]) (.t 2) (.t 13))]) .ret)
def zpy:AC:=(.seq (.reg [.clr [11]] [jv 6 (.fld (.t 3) 1 1),jv 7 (.load .p (.t 6)),jm 8 0,jv 9 (.bin .sub (.t 8) (jn 1)),jv 10 (.bld (.agg [i0,i0]) [(0,0,jn 0),(1,1,.t 9)]),jx 11 (.callO (jf 72) [.t 7,.t 10]),jv 12 (.fld (.t 3) 1 1),jz (.store .p (.t 12) (.t 11))] [.drp 5,.home 11 5]) znd)
def zne:AC:=(.seq (.reg [.clr [5,3]] [jm 4 0,jx 5 (.callO (jf 69) [.t 4]),jx 3 (.alloc (.agg [i0,.sl .nl (.ag [.s,.s]) 0 []])),jz (.store (.ag [.s,.p]) (.t 3) (.t 5))] []) zpy)
def zp6:AC:=(.seq (.reg [.clr [2]] [jx 2 (.alloc (.agg [i0,.sl .nl (.ag [.s,.s]) 0 []]))] []) zne)
def zvf:List An:=[⟨0,[.clr [2]],[],[],[]⟩,⟨1,[.clr [5,3]],[],[1001],[]⟩,⟨2,[.clr [11]],[],[1005],[.drp 5,.home 11 5]⟩]
theorem c70o:cq Tp Try.f70 zvf=some zp6:=by kernel_rfl
structure zvj (D:Den) (σ:Sig) (F:Nat):Prop where
 c69o:zpn (D 1000000069) F
 g69o:σ 1000000069=some (1,false)
 c72o:zn9 (D 1000000072) F
 g72o:σ 1000000072=some (1,false)
abbrev zwX (r:(Int×(NL (Int×Int)))):(Nat→V)→Prop:=RR Tp [.cell 2 26] 1 false (.agg [enc (r.1:Int),zh .sh (r.2:NL (Int×Int))])
section
variable {r:(Int×(NL (Int×Int)))}
def Ya (F:Nat) (x1:Int):Option (Int×(NL (Int×Int))):=
 (YZ F x1).bind fun r2=>
 (Yr F r2.2.list (0,w64 (x1 - 1))).bind fun r3=>
 some (r2.1,r3)
theorem zwS (H:zvj D σ F) (x1:Int) (s:Nat→V) (hs:zB [(0,ji x1)] s) (h:Ya F x1=some r):Run D σ (zwX r) (.run zp6 []) s:=by
 unfold Ya at h
 have h0:=hs
 refine .seq (zC (yc ?_))
 refine ez [(0,_),(2,_)] ⟨za h0 rfl mi,zg rfl⟩ ?_
 rintro s ⟨h0,h2⟩
 refine y6 h2 (gq (.nsq (.seq (zC (yc ?_)))))
 refine ez [(0,_),(2,_),(3,_),(5,_)] ⟨za h0 rfl mi,za rfl rfl (zi rfl (mIx rfl)),zg rfl,zg rfl⟩ ?_
 rintro s ⟨h0,h2,h3,h5⟩
 refine gm h0 fun h4=>?_
 obtain ⟨r2,Er2,h⟩:=zd h
 refine YO (m:=1) (al:=false) (r:=.agg [enc (r2.1:Int),zh .sh (r2.2:NL (Int×Int))]) (v:=.agg [ji r2.1,zh (.at 5 [1]) (r2.2:NL (Int×Int))]) (kk:=1000000069) [enc (x1:Int)] (zl h4 rfl rfl zJ) (H.c69o _ _ Er2) H.g69o rfl (WR (yh rfl (yh vH yz))) (Jr (vm rfl (vm uK We))) rfl h5 (y6 h3 (zQ (.agg [ji r2.1,zh (.at 5 [1]) (r2.2:NL (Int×Int))]) (zx rfl rfl) (zx rfl rfl) ⟨by decide,by decide,rfl,(by simp [V.shape,V.shapes,zG,Sh.beq,Sh.beqs]),(by simp [V.shape,V.shapes,zG,Sh.beq,Sh.beqs]),(by simp [V.toks,V.tokss,zN])⟩ ?_))
 refine gz [(0,ji x1),(2,bZ 2),(3,.ref (.bx 3) 0 [] (.agg [ji r2.1,zh (.at 5 [1]) (r2.2:NL (Int×Int))]))] ⟨zb h0 rfl,zb h2 (zj rfl rfl (zK (zf rfl (zf rfl rfl)))),zb rfl rfl⟩ ?_
 rintro s ⟨h0,h2,h3⟩
 refine .nsq (.seq (zC (yc ?_)))
 refine ez [(0,_),(2,_),(3,_),(11,_)] ⟨za h0 rfl mi,za h2 rfl (zi rfl (mIx rfl)),za h3 rfl (zi rfl (zr (zc mi (zc (zm (r:=5) (p:=[1]) rfl rfl) zk)))),zg rfl⟩ ?_
 rintro s ⟨h0,h2,h3,h11⟩
 refine g1 3 (.ref (.bx 3) 0 [1] (zh (.at 5 [1]) (r2.2:NL (Int×Int)))) h3 fun h6=>gv (zh (.at 5 [1]) (r2.2:NL (Int×Int))) (xm h6 w7) fun h7=>gm h0 fun h8=>g1 8 (ji (w64 (x1 - 1))) h8 fun h9=>g1 9 (.agg [ji 0,ji (w64 (x1 - 1))]) h9 fun h10=>?_
 obtain ⟨r3,Er3,h⟩:=zd h
 refine YO (m:=1) (al:=false) (r:=zh .sh (r3:NL (Int×Int))) (v:=zh (.at 11 []) (r3:NL (Int×Int))) (kk:=1000000072) [eP r2.2.list,enc ((0,w64 (x1 - 1)):(Int×Int))] (zl h7 YP (ug (o:=r2.2)) (zl h10 rfl (erase_enc ((0,w64 (x1 - 1)):(Int×Int))) zJ)) (H.c72o _ _ _ Er3) H.g72o rfl vH uK YP h11 (g1 3 (.ref (.bx 3) 0 [1] (zh (.at 5 [1]) (r2.2:NL (Int×Int)))) h3 fun h12=>zQ (zh (.at 11 []) (r3:NL (Int×Int))) (zx h12 rfl) (zx rfl YP) ⟨by decide,by decide,K3,UQ,UQ,ui rfl rfl⟩ (xf (uq (x:=5) (fun s4 hx_4 hd_4=>?_))))
 refine yR (r:=11) (x:=5) (v:=_) (by exact hx_4) rfl (fun s5 hz5=>?_)
 refine ez [(2,bZ 2),(3,.ref (.bx 3) 0 [] (.agg [ji r2.1,zh (.at 5 []) (r3:NL (Int×Int))]))] ⟨hz5 2 _ _ (show s4 2=(bZ 2) from (hd_4 2 (by decide)).trans (zb h2 (zj rfl rfl (zK (zf rfl (zf rfl rfl)))))) (zi rfl (mIx rfl)),hz5 3 _ (.ref (.bx 3) 0 [] (.agg [ji r2.1,zh (.at 5 []) (r3:NL (Int×Int))])) (show s4 3=(.ref (.bx 3) 0 [] (.agg [ji r2.1,zh (.at 11 []) (r3:NL (Int×Int))])) from (hd_4 3 (by decide)).trans (zb h3 (u6 (zf rfl (zf (yg rfl rfl) rfl))))) (zi rfl (zr (zc mi (zc (zm (r:=11) (p:=[]) rfl rfl) zk))))⟩ ?_
 rintro s ⟨h2,h3⟩
 refine .nsq (.seq (rg (gv (.agg [ji r2.1,zh (.at 5 []) (r3:NL (Int×Int))]) (xm (c:=.agg [ji r2.1,zh (.at 5 []) (r3:NL (Int×Int))]) h3 (by simp [V.shape,V.shapes,zG,Sh.beq,Sh.beqs])) fun h13=>zQ (.agg [ji r2.1,zh (.at 5 []) (r3:NL (Int×Int))]) (zx h2 rfl) (zx h13 rfl) ⟨by decide,by decide,rfl,(by simp [V.shape,V.shapes,zG,Sh.beq,Sh.beqs]),(by simp [V.shape,V.shapes,zG,Sh.beq,Sh.beqs]),(by simp [V.toks,V.tokss,zN])⟩ (gz [(2,.ref (.bx 2) 0 [] (.agg [ji r2.1,zh (.at 5 []) (r3:NL (Int×Int))]))] (zb h2 rfl) ?_))))
 rintro s h2
 refine .nsq (.ret ?_)
 obtain rfl:=oi h
 exact rrA (yL h2 (by simp only [V.shape,V.shapes,zG];kernel_rfl)) (Xy (WY (wn NR (wn (YH (o:=(r3:NL (Int×Int)))) Yk))) rfl (UT (Zw rfl (Zw (vR rfl) WD))))
end
def znt (F:Nat):Ent:=ent 1000000070 (fun (x:(Int×Unit))=>Ya F x.1) (fun (r:(Int×(NL (Int×Int))))=>(.agg [enc (r.1:Int),zh .sh (r.2:NL (Int×Int))])) 1 false []
abbrev zqp (D:List V→Option V) (F:Nat):Prop:=∀ (x0:Int) r,Ya F x0=some r→D [enc x0]=some (.agg [enc (r.1:Int),zh .sh (r.2:NL (Int×Int))])
theorem zwf {F:Nat}:zqp (znt F).den F:=fun x0 _ h=>zZ (x0,()) h
theorem zwP (hF:zH Tp D σ) (H:zvj D σ F):(znt F).Ok Tp:=okZ (f:=70) Try.func70 fun ⟨x0,_⟩ y hy=>cR hF Try.func70 c70o (zwS H x0 _ rfl hy)
def zop:AC:=(.cond (.t 11) .skip (.exit 0))
def znz:AC:=(.cond (.t 18) .skip (.exit 2))
def zn1:AC:=(rr [jm 19 5,jv 20 (.bin .add (.t 19) (jn 1)),jm 5 20])
def znu:AC:=(.seq (.block 3 (.reg [.clr [26,27]] [jv 21 (.fld (.t 3) 1 1),jv 22 (.load .p (.t 21)),jm 23 4,jm 24 5,jv 25 (.bld (.agg [i0,i0]) [(0,0,.t 23),(1,1,.t 24)]),jx 26 (.lit (.agg [i0,i0]) 1 [(0,0,.t 25)]),jx 27 (.app (.ag [.s,.s]) (.t 22) (.t 26)),jv 28 (.fld (.t 3) 1 1),jz (.store .p (.t 28) (.t 27))] [.drp 7,.home 27 7])) zn1)
def zdI:AC:=(.seq (.seq (rr [jm 16 5,jm 17 0,jv 18 (.bin .lss (.t 16) (.t 17))]) znz) znu)
def zol:AC:=(.block 2 (.loop zdI))
def zix:AC:=(rr [jm 12 4,jv 13 (.bin .add (.t 12) (jn 1)),jm 4 13])
def znl:AC:=(.seq (.block 1 (.seq (rr [jm 14 4,jv 15 (.bin .add (.t 14) (jn 1)),jm 5 15]) zol)) zix)
def L5:AC:=(.seq (.seq (rr [jm 9 4,jm 10 0,jv 11 (.bin .lss (.t 9) (.t 10))]) zop) znl)
def MP:AC:=(.seq (rr [jv 29 (.load (.ag [.s,.p]) (.t 3)),jz (.store (.ag [.s,.p]) (.t 2) (.t 29))]) .ret)
def zlM:AC:=(.block 0 (.loop L5))
def zlm:AC:=(.seq (.seq (rr [jv 4 (.mov (jn 0))]) zlM) MP)
def zkA:AC:=(.seq (.reg [.clr [7,3]] [jm 6 0,jx 7 (.lit (.agg [i0,i0]) 0 []),jv 8 (.bld (.agg [i0,.sl .nl (.ag [.s,.s]) 0 []]) [(0,0,.t 6),(1,1,.t 7)]),jx 3 (.alloc (.agg [i0,.sl .nl (.ag [.s,.s]) 0 []])),jz (.store (.ag [.s,.p]) (.t 3) (.t 8))] []) zlm)
def ztw:AC:=(.seq (.reg [.clr [2]] [jx 2 (.alloc (.agg [i0,.sl .nl (.ag [.s,.s]) 0 []]))] []) zkA)
def zux:List An:=[⟨0,[.clr [2]],[],[],[]⟩,⟨1,[.clr [7,3]],[],[],[]⟩,⟨8,[.clr [26,27]],[],[],[.drp 7,.home 27 7]⟩]
theorem c71o:cq Tp Try.f71 zux=some ztw:=by kernel_rfl
structure zla (D:Den) (σ:Sig) (F:Nat):Prop where
 mk ::
abbrev zkQ (r:(Int×(NL (Int×Int)))):(Nat→V)→Prop:=RR Tp [.cell 2 26] 1 false (.agg [enc (r.1:Int),zh .sh (r.2:NL (Int×Int))])
section
variable {r:(Int×(NL (Int×Int)))}
def ZY (F:Nat) (x1:Int) (x8:Int) (c1:TP→Int→Option (Int×(NL (Int×Int)))):Nat→TP→Int→Option (Int×(NL (Int×Int)))
 | 0,_,_=>none
 | k + 1,x15,x16=>
   bif decide (x16 < x1) then
    (vh x15 [(x8,x16)]).bind fun ap18=>
    (ZY F x1 x8 c1 k) ap18 (w64 (x16 + 1))
   else
    c1 x15 (w64 (x8 + 1))
theorem zgu (H:zla D σ F) (x1:Int) (x8:Int) (c1:TP→Int→Option (Int×(NL (Int×Int)))) (Hc1:∀ (x7:TP) (x8:Int) (s:Nat→V),zB [(0,ji x1),(2,bZ 2),(3,.ref (.bx 3) 0 [] (.agg [ji x1,zh (.at 7 []) (.of (x7:TP))])),(4,ji x8)] s→c1 x7 x8=some r→Run D σ (zkQ r) (.run L5 [.lp L5,.bk 0,.sq MP]) s):∀ (k:Nat) (x15:TP) (x16:Int) (s:Nat→V),zB [(0,ji x1),(2,bZ 2),(3,.ref (.bx 3) 0 [] (.agg [ji x1,zh (.at 7 []) (.of (x15:TP))])),(4,ji x8),(5,ji x16)] s→ZY F x1 x8 c1 k x15 x16=some r→Run D σ (zkQ r) (.run zdI [.lp zdI,.bk 2,.bk 1,.sq zix,.lp L5,.bk 0,.sq MP]) s:=by
 intro k
 induction k with
 | zero=>intro x15 x16 s _ h;exact nm h
 | succ k ih=>
   intro x15 x16 s hs h
   rw [ZY] at h
   obtain ⟨h0,h2,h3,h4,h5⟩:=hs
   refine .seq (.seq (rg (gm h5 fun h16=>gm h0 fun h17=>g2 16 17 (jb (decide (x16 < x1))) h16 h17 fun h18=>gq (.nsq (zu h18 h (fun h=>?_) (fun h=>?_))))))
   · refine .skip (.nsq (.seq (.block (zC (yc ?_)))))
     refine ez [(0,_),(2,_),(3,_),(4,_),(5,_),(26,_),(27,_)] ⟨za h0 rfl mi,za h2 rfl (zi rfl (mIx rfl)),za h3 rfl (zi rfl (zr (zc mi (zc (zm (r:=7) (p:=[]) rfl rfl) zk)))),za h4 rfl mi,za h5 rfl mi,zg rfl,zg rfl⟩ ?_
     rintro s ⟨h0,h2,h3,h4,h5,h26,h27⟩
     refine g1 3 (.ref (.bx 3) 0 [1] (zh (.at 7 []) (.of (x15:TP)))) h3 fun h21=>g1 21 (zh (.at 7 []) (.of (x15:TP))) h21 fun h22=>gm h4 fun h23=>gm h5 fun h24=>g2 23 24 (.agg [ji x8,ji x16]) h23 h24 fun h25=>xv [(25,.agg [ji x8,ji x16])] [enc ((x8,x16):(Int×Int))] h25 rfl rfl h26 ?_
     obtain ⟨ap18,Eap18,h⟩:=zd h
     refine ZG (q:=7) (p:=[]) (o:=.of (x15:TP)) (ys:=([(x8,x16)]:TP)) (t2:=.at 26 []) (lo2:=0) h22 rfl rfl h27 (vK (o:=.of (x15:TP)) Eap18 trivial) (fun s36 ha36=>g1 3 (.ref (.bx 3) 0 [1] (kdO ((.of x15):NL (Int×Int)))) (show s36 3=(.ref (.bx 3) 0 [] (.agg [ji x1,kdO ((.of x15):NL (Int×Int))])) from xG ha36 h3 (zi rfl (zr (zc mi (zc wX zk)))) (by intro h;first | (cases h;done) | (subst h;rfl))) fun h28=>zQ (zh (.at 27 []) (.of (ap18:TP))) (zx h28 rfl) (zx rfl rfl) ⟨by decide,by decide,rfl,rfl,YQ,ui rfl rfl⟩ (xf (uq (x:=7) (fun s37 hx_37 hd_37=>?_))))
     refine yR (r:=27) (x:=7) (v:=_) (by exact hx_37) rfl (fun s38 hz38=>?_)
     refine ez [(0,ji x1),(2,bZ 2),(3,.ref (.bx 3) 0 [] (.agg [ji x1,zh (.at 7 []) (.of (ap18:TP))])),(4,ji x8),(5,ji x16)] ⟨hz38 0 _ _ (show s37 0=(ji x1) from (hd_37 0 (by decide)).trans (zb (show s36 0=(ji x1) from zF ha36 h0 mi) rfl)) mi,hz38 2 _ _ (show s37 2=(bZ 2) from (hd_37 2 (by decide)).trans (zb (show s36 2=(bZ 2) from zF ha36 h2 (zi rfl (mIx rfl))) (zj rfl rfl (zK (zf rfl (zf rfl rfl)))))) (zi rfl (mIx rfl)),hz38 3 _ (.ref (.bx 3) 0 [] (.agg [ji x1,zh (.at 7 []) (.of (ap18:TP))])) (show s37 3=(.ref (.bx 3) 0 [] (.agg [ji x1,zh (.at 27 []) (.of (ap18:TP))])) from (hd_37 3 (by decide)).trans (zb (show s36 3=(.ref (.bx 3) 0 [] (.agg [ji x1,kdO ((.of x15):NL (Int×Int))])) from xG ha36 h3 (zi rfl (zr (zc mi (zc wX zk)))) (by intro h;first | (cases h;done) | (subst h;rfl))) (u6 (zf rfl (zf YS rfl))))) (zi rfl (zr (zc mi (zc (zm (r:=27) (p:=[]) rfl rfl) zk)))),hz38 4 _ _ (show s37 4=(ji x8) from (hd_37 4 (by decide)).trans (zb (show s36 4=(ji x8) from zF ha36 h4 mi) rfl)) mi,hz38 5 _ _ (show s37 5=(ji x16) from (hd_37 5 (by decide)).trans (zb (show s36 5=(ji x16) from zF ha36 h5 mi) rfl)) mi⟩ ?_
     rintro s ⟨h0,h2,h3,h4,h5⟩
     refine .nbk (.nsq (rg (gm h5 fun h19=>g1 19 (ji (w64 (x16 + 1))) h19 fun h20=>gm h20 fun h5=>gq (.nlp ?_))))
     exact ih ap18 (w64 (x16 + 1)) _ ⟨h0,h2,h3,h4,h5⟩ h
   refine .exit (.esq (.elp (.ebk (.nbk (.nsq (rg (gm h4 fun h12=>g1 12 (ji (w64 (x8 + 1))) h12 fun h13=>gm h13 fun h4=>gq (.nlp ?_))))))))
   exact Hc1 x15 (w64 (x8 + 1)) _ ⟨h0,h2,h3,h4⟩ h
def uD (F:Nat) (x1:Int) :Nat→TP→Int→Option (Int×(NL (Int×Int)))
 | 0,_,_=>none
 | k + 1,x7,x8=>
   bif decide (x8 < x1) then
    ZY F x1 x8 (uD F x1 k) F x7 (w64 (x8 + 1))
   else
    some (x1,.of x7)
theorem zgL (H:zla D σ F) (x1:Int) :∀ (k:Nat) (x7:TP) (x8:Int) (s:Nat→V),zB [(0,ji x1),(2,bZ 2),(3,.ref (.bx 3) 0 [] (.agg [ji x1,zh (.at 7 []) (.of (x7:TP))])),(4,ji x8)] s→uD F x1 k x7 x8=some r→Run D σ (zkQ r) (.run L5 [.lp L5,.bk 0,.sq MP]) s:=by
 intro k
 induction k with
 | zero=>intro x7 x8 s _ h;exact nm h
 | succ k ih=>
   intro x7 x8 s hs h
   rw [uD] at h
   obtain ⟨h0,h2,h3,h4⟩:=hs
   refine .seq (.seq (rg (gm h4 fun h9=>gm h0 fun h10=>g2 9 10 (jb (decide (x8 < x1))) h9 h10 fun h11=>gq (.nsq (zu h11 h (fun h=>?_) (fun h=>?_))))))
   · refine .skip (.nsq (.seq (.block (.seq (rg (gm h4 fun h14=>g1 14 (ji (w64 (x8 + 1))) h14 fun h15=>gm h15 fun h5=>gq (.nsq (.block (.loop ?_)))))))))
     exact zgu H x1 x8 (uD F x1 k) ih F x7 (w64 (x8 + 1)) _ ⟨h0,h2,h3,h4,h5⟩ h
   refine .exit (.esq (.elp (.ebk (.nsq (.seq (rg (g1 3 (.agg [ji x1,zh (.at 7 []) (.of (x7:TP))]) h3 fun h29=>zQ (.agg [ji x1,zh (.at 7 []) (.of (x7:TP))]) (zx h2 rfl) (zx h29 rfl) (xr (by first | rfl | simp [V.toks,V.tokss,toks_enc,zN])) (gz [(2,.ref (.bx 2) 0 [] (.agg [ji x1,zh (.at 7 []) (.of (x7:TP))]))] (zb h2 rfl) ?_))))))))
   rintro s h2
   refine .nsq (.ret ?_)
   obtain rfl:=oi h
   exact rrA (yL h2 (by kernel_rfl)) (Xy (WY (wn NR (wn (YH (o:=((.of x7):NL (Int×Int)))) Yk))) rfl (UT (Zw rfl (Zw (vR rfl) WD))))
def Zj (F:Nat) (x1:Int):Option (Int×(NL (Int×Int))):=
 uD F x1 F [] 0
theorem zxS (H:zla D σ F) (x1:Int) (s:Nat→V) (hs:zB [(0,ji x1)] s) (h:Zj F x1=some r):Run D σ (zkQ r) (.run ztw []) s:=by
 unfold Zj at h
 have h0:=hs
 refine .seq (zC (yc ?_))
 refine ez [(0,_),(2,_)] ⟨za h0 rfl mi,zg rfl⟩ ?_
 rintro s ⟨h0,h2⟩
 refine y6 h2 (gq (.nsq (.seq (zC (yc ?_)))))
 refine ez [(0,_),(2,_),(3,_),(7,_)] ⟨za h0 rfl mi,za rfl rfl (zi rfl (mIx rfl)),zg rfl,zg rfl⟩ ?_
 rintro s ⟨h0,h2,h3,h7⟩
 refine gm h0 fun h6=>xv [] [] trivial rfl rfl h7 (g2 6 7 (.agg [ji x1,zh (.at 7 []) (.of ([]:TP))]) h6 (rf (zh (.at 7 []) (.of ([]:TP)))) fun h8=>y6 h3 (zQ (.agg [ji x1,zh (.at 7 []) (.of ([]:TP))]) (zx rfl rfl) (zx h8 rfl) (xr (by first | rfl | simp [V.toks,V.tokss,toks_enc,zN])) (gz [(0,ji x1),(2,bZ 2),(3,.ref (.bx 3) 0 [] (.agg [ji x1,zh (.at 7 []) (.of ([]:TP))]))] ⟨zb h0 rfl,zb h2 (zj rfl rfl (zK (zf rfl (zf rfl rfl)))),zb rfl rfl⟩ ?_)))
 rintro s ⟨h0,h2,h3⟩
 refine .nsq (.seq (.seq (rg (g0 (ji 0) fun h4=>gq (.nsq (.block (.loop ?_)))))))
 exact zgL H x1 F [] 0 _ ⟨h0,h2,h3,h4⟩ h
end
def znr (F:Nat):Ent:=ent 1000000071 (fun (x:(Int×Unit))=>Zj F x.1) (fun (r:(Int×(NL (Int×Int))))=>(.agg [enc (r.1:Int),zh .sh (r.2:NL (Int×Int))])) 1 false []
abbrev ztW (D:List V→Option V) (F:Nat):Prop:=∀ (x0:Int) r,Zj F x0=some r→D [enc x0]=some (.agg [enc (r.1:Int),zh .sh (r.2:NL (Int×Int))])
theorem zxu {F:Nat}:ztW (znr F).den F:=fun x0 _ h=>zZ (x0,()) h
theorem zvX (hF:zH Tp D σ) (H:zla D σ F):(znr F).Ok Tp:=okZ (f:=71) Try.func71 fun ⟨x0,_⟩ y hy=>cR hF Try.func71 c71o (zxS H x0 _ rfl hy)
def zua:AC:=(.cond (.t 7) (.seq (rr [jm 8 0,jm 4 8]) .ret) .skip)
def zs6:AC:=(.seq (rr [jm 9 1,jm 4 9]) .ret)
def ztl:AC:=(.seq (.seq (rr [jm 5 0,jm 6 1,jv 7 (.bin .gtr (.t 5) (.t 6))]) zua) zs6)
def A26:AC:=(.seq (rr [jv 4 (.mov (jn 0))]) ztl)
def zwn:List An:=[]
theorem c26:cq Tp Try.f26 zwn=some A26:=by kernel_rfl
structure H26 (D:Den) (σ:Sig) (F:Nat):Prop where
 mk ::
abbrev R26 (r:Int):(Nat→V)→Prop:=RR Tp [.tmp 4] 0 false (enc (r:Int))
section
variable {r:Int}
def YG (F:Nat) (x1:Int) (x2:Int):Option Int:=
 bif decide (x1 > x2) then
  some x1
 else
  some x2
theorem t26 (H:H26 D σ F) (x1:Int) (x2:Int) (s:Nat→V) (hs:zB [(0,ji x1),(1,ji x2)] s) (h:YG F x1 x2=some r):Run D σ (R26 r) (.run A26 []) s:=by
 unfold YG at h
 obtain ⟨h0,h1⟩:=hs
 refine .seq (rg (g0 (ji 0) fun h4=>gq (.nsq (.seq (.seq (rg (gm h0 fun h5=>gm h1 fun h6=>g2 5 6 (jb (decide (x1 > x2))) h5 h6 fun h7=>gq (.nsq (zu h7 h (fun h=>?_) (fun h=>?_))))))))))
 · refine .seq (rg (gm h0 fun h8=>gm h8 fun h4=>gq (.nsq (.ret ?_))))
   obtain rfl:=oi h
   exact rrA (zA h4) rfl
 refine .skip (.nsq (.seq (rg (gm h1 fun h9=>gm h9 fun h4=>gq (.nsq (.ret ?_))))))
 obtain rfl:=oi h
 exact rrA (zA h4) rfl
end
def e26 (F:Nat):Ent:=ent 26 (fun (x:(Int×Int×Unit))=>YG F x.1 x.2.1) (fun (r:Int)=>(enc (r:Int))) 0 false []
abbrev C26 (D:List V→Option V) (F:Nat):Prop:=∀ (x0:Int) (x1:Int) r,YG F x0 x1=some r→D [enc x0,enc x1]=some (enc (r:Int))
theorem p26 {F:Nat}:C26 (e26 F).den F:=fun x0 x1 _ h=>zZ (x0,x1,()) h
theorem o26 (hF:zH Tp D σ) (H:H26 D σ F):(e26 F).Ok Tp:=okZ (f:=26) Try.func26 fun ⟨x0,x1,_⟩ y hy=>cR hF Try.func26 c26 (t26 H x0 x1 _ ⟨rfl,rfl⟩ hy)
def zrt:AC:=(.cond (.t 13) .skip (.exit 0))
def zmf:AC:=(.cond (.t 42) (.seq (rr [jv 6 (.mov kt)]) .ret) .skip)
def zp7:AC:=(.seq (rr [jv 21 (.idxA (.t 8) (jn 0) 2 1),jl 22 21,jm 23 1,jv 24 (.bin .eql (.t 22) (.t 23)),jm 25 24,jg 26 25 true (.idxA (.t 8) (jn 1) 2 1),jg 27 25 true (.load .s (.t 26)),jg 28 25 true (.mov (.t 2)),jg 29 25 true (.bin .eql (.t 27) (.t 28)),jv 30 (.pick (.t 25) (.t 29) kf),jm 31 30,jg 32 31 false (.idxA (.t 8) (jn 0) 2 1),jg 33 31 false (.load .s (.t 32)),jg 34 31 false (.mov (.t 2)),jg 35 31 false (.bin .eql (.t 33) (.t 34)),jg 36 31 false (.mov (.t 35)),jg 37 36 true (.idxA (.t 8) (jn 1) 2 1),jg 38 36 true (.load .s (.t 37)),jg 39 36 true (.mov (.t 1)),jg 40 36 true (.bin .eql (.t 38) (.t 39)),jg 41 31 false (.pick (.t 36) (.t 40) kf),jv 42 (.pick (.t 31) kt (.t 41))]) zmf)
def zl1:AC:=(rr [jm 14 7,jv 15 (.bin .add (.t 14) (jn 1)),jm 7 15])
def zuR:AC:=(.seq (.block 1 (.seq (.reg [.clr [8]] [jv 16 (.fld (.t 3) 1 1),jv 17 (.load .p (.t 16)),jm 18 7,jv 19 (.idx (.t 17) (.t 18) 2),jv 20 (.load (.ag [.s,.s]) (.t 19)),jx 8 (.alloc (.agg [i0,i0])),jz (.store (.ag [.s,.s]) (.t 8) (.t 20))] []) zp7)) zl1)
def Qj:AC:=(.seq (.seq (rr [jm 9 7,jv 10 (.fld (.t 3) 1 1),jv 11 (.load .p (.t 10)),jk 12 11,jv 13 (.bin .lss (.t 9) (.t 12))]) zrt) zuR)
def zez:AC:=(.seq (rr [jv 6 (.mov kf)]) .ret)
def zsi:AC:=(.block 0 (.loop Qj))
def zuu:AC:=(.seq (.seq (rr [jv 7 (.mov (jn 0))]) zsi) zez)
def A73:AC:=(.seq (.reg [.clr [3]] [jx 3 (.box (.t 0)),jv 6 (.mov kf)] []) zuu)
def zww:List An:=[⟨0,[.clr [3]],[],[],[]⟩,⟨4,[.clr [8]],[],[],[]⟩]
theorem c73:cq Tp Try.f73 zww=some A73:=by kernel_rfl
structure H73 (D:Den) (σ:Sig) (F:Nat):Prop where
 mk ::
abbrev R73 (r:Bool):(Nat→V)→Prop:=RR Tp [.tmp 6] 0 false (enc (r:Bool))
section
variable {r:Bool}
def Zo (F:Nat) (x2:Int) (x3:Int) (x1:GR) (x6:Int) (c1:Int→Option Bool) (x10:Bool):Option Bool:=
 bif x10 then
  some true
 else
  c1 (w64 (x6 + 1))
theorem JM (H:H73 D σ F) (x2:Int) (x3:Int) (x1:GR) (x6:Int) (c1:Int→Option Bool) (Hc1:∀ (x6:Int) (s:Nat→V),zB [(1,ji x2),(2,ji x3),(3,bG 3 x1),(6,jb false),(7,ji x6)] s→c1 x6=some r→Run D σ (R73 r) (.run Qj [.lp Qj,.bk 0,.sq zez]) s) (x10:Bool) (s:Nat→V) (hs:zB [(1,ji x2),(2,ji x3),(3,bG 3 x1),(6,jb false),(7,ji x6),(42,jb x10)] s) (h:Zo F x2 x3 x1 x6 c1 x10=some r):Run D σ (R73 r) (.nrm [.sq zmf,.bk 1,.sq zl1,.lp Qj,.bk 0,.sq zez]) s:=by
 unfold Zo at h
 obtain ⟨h1,h2,h3,h6,h7,h42⟩:=hs
 refine .nsq (zu h42 h (fun h=>?_) (fun h=>?_))
 · refine .seq (rg (g0 (jb true) fun h6=>gq (.nsq (.ret ?_))))
   obtain rfl:=oi h
   exact rrA (zA h6) rfl
 refine .skip (.nbk (.nsq (rg (gm h7 fun h14=>g1 14 (ji (w64 (x6 + 1))) h14 fun h15=>gm h15 fun h7=>gq (.nlp ?_)))))
 exact Hc1 (w64 (x6 + 1)) _ ⟨h1,h2,h3,h6,h7⟩ h
def wb (F:Nat) (x2:Int) (x3:Int) (x1:GR) :Nat→Int→Option Bool
 | 0,_=>none
 | k + 1,x6=>
   bif decide (x6 < (x1.2.length:Int)) then
    (idx x1.2 x6).bind fun v9=>
    bif (v9.1 == x2) then
     bif (v9.2 == x3) then
      Zo F x2 x3 x1 x6 (wb F x2 x3 x1 k) true
     else
      bif (v9.1 == x3) then
       Zo F x2 x3 x1 x6 (wb F x2 x3 x1 k) (v9.2 == x2)
      else
       Zo F x2 x3 x1 x6 (wb F x2 x3 x1 k) false
    else
     bif (v9.1 == x3) then
      Zo F x2 x3 x1 x6 (wb F x2 x3 x1 k) (v9.2 == x2)
     else
      Zo F x2 x3 x1 x6 (wb F x2 x3 x1 k) false
   else
    some false
theorem ziE (H:H73 D σ F) (x2:Int) (x3:Int) (x1:GR) :∀ (k:Nat) (x6:Int) (s:Nat→V),zB [(1,ji x2),(2,ji x3),(3,bG 3 x1),(6,jb false),(7,ji x6)] s→wb F x2 x3 x1 k x6=some r→Run D σ (R73 r) (.run Qj [.lp Qj,.bk 0,.sq zez]) s:=by
 intro k
 induction k with
 | zero=>intro x6 s _ h;exact nm h
 | succ k ih=>
   intro x6 s hs h
   rw [wb] at h
   obtain ⟨h1,h2,h3,h6,h7⟩:=hs
   refine .seq (.seq (rg (gm h7 fun h9=>g1 3 (.ref (.bx 3) 0 [1] (eP x1.2)) h3 fun h10=>g1 10 (eP x1.2) h10 fun h11=>gl x1.2 h11 fun h12=>g2 9 12 (jb (decide (x6 < (x1.2.length:Int)))) h9 h12 fun h13=>gq (.nsq (zu h13 h (fun h=>?_) (fun h=>?_))))))
   · refine .skip (.nsq (.seq (.block (.seq (zC (yc ?_))))))
     refine ez [(1,_),(2,_),(3,_),(6,_),(7,_),(8,_)] ⟨za h1 rfl mi,za h2 rfl mi,za h3 rfl (zi rfl mIE),za h6 rfl mb,za h7 rfl mi,zg rfl⟩ ?_
     rintro s ⟨h1,h2,h3,h6,h7,h8⟩
     refine g1 3 (.ref (.bx 3) 0 [1] (eP x1.2)) h3 fun h16=>g1 16 (eP x1.2) h16 fun h17=>gm h7 fun h18=>?_
     obtain ⟨v9,Ev9,h⟩:=zd h
     refine gv (.ref .sh 0 [] (.agg [ji v9.1,ji v9.2])) (yG (t:=.sh) (lo:=0) (xs:=x1.2) h17 h18 Ev9 rfl rfl) fun h19=>g1 19 (.agg [ji v9.1,ji v9.2]) h19 fun h20=>y6 h8 (zQ (.agg [ji v9.1,ji v9.2]) (zx rfl rfl) (zx h20 rfl) (xr (by first | rfl | simp [V.toks,V.tokss,toks_enc,zN])) (gz [(1,ji x2),(2,ji x3),(3,bG 3 x1),(6,jb false),(7,ji x6),(8,.ref (.bx 8) 0 [] (.agg [ji v9.1,ji v9.2]))] ⟨zb h1 rfl,zb h2 rfl,zb h3 (zj rfl rfl uIE),zb h6 rfl,zb h7 rfl,zb rfl rfl⟩ ?_))
     rintro s ⟨h1,h2,h3,h6,h7,h8⟩
     refine .nsq (.seq (rg (g1 8 (.ref (.bx 8) 0 [0] (ji v9.1)) h8 fun h21=>g1 21 (ji v9.1) h21 fun h22=>gm h1 fun h23=>g2 22 23 (jb (v9.1 == x2)) h22 h23 fun h24=>gm h24 fun h25=>yd h (fun hg5 h=>?_) (fun hg5 h=>?_))))
     · refine zt (ct h25 hg5) (g1 8 (.ref (.bx 8) 0 [1] (ji v9.2)) h8 fun h26=>zt (ct h25 hg5) (g1 26 (ji v9.2) h26 fun h27=>zt (ct h25 hg5) (gm h2 fun h28=>zt (ct h25 hg5) (g2 27 28 (jb (v9.2 == x3)) h27 h28 fun h29=>g2 25 29 (jb (v9.2 == x3)) (ct h25 hg5) h29 fun h30=>gm h30 fun h31=>yd h (fun hg11 h=>?_) (fun hg11 h=>?_)))))
       · iterate 5 refine yq (ct h31 hg11) ?_
         iterate 4 refine Yu rfl ?_
         refine yq (ct h31 hg11) (g2 31 41 (jb true) (ct h31 hg11) (rf (.tup [])) fun h42=>gq ?_)
         exact JM H x2 x3 x1 x6 (wb F x2 x3 x1 k) ih true _ ⟨h1,h2,h3,h6,h7,h42⟩ h
       refine zt (ct h31 hg11) (g1 8 (.ref (.bx 8) 0 [0] (ji v9.1)) h8 fun h32=>zt (ct h31 hg11) (g1 32 (ji v9.1) h32 fun h33=>zt (ct h31 hg11) (gm h2 fun h34=>zt (ct h31 hg11) (g2 33 34 (jb (v9.1 == x3)) h33 h34 fun h35=>zt (ct h31 hg11) (gm h35 fun h36=>yd h (fun hg16 h=>?_) (fun hg16 h=>?_))))))
       · refine zt (ct h36 hg16) (g1 8 (.ref (.bx 8) 0 [1] (ji v9.2)) h8 fun h37=>zt (ct h36 hg16) (g1 37 (ji v9.2) h37 fun h38=>zt (ct h36 hg16) (gm h1 fun h39=>zt (ct h36 hg16) (g2 38 39 (jb (v9.2 == x2)) h38 h39 fun h40=>zt (ct h31 hg11) (g2 36 40 (jb (v9.2 == x2)) (ct h36 hg16) h40 fun h41=>g2 31 41 (jb (v9.2 == x2)) (ct h31 hg11) h41 fun h42=>gq ?_)))))
         exact JM H x2 x3 x1 x6 (wb F x2 x3 x1 k) ih (v9.2 == x2) _ ⟨h1,h2,h3,h6,h7,h42⟩ h
       iterate 4 refine yq (ct h36 hg16) ?_
       refine zt (ct h31 hg11) (g2 36 40 (jb false) (ct h36 hg16) (rf (.tup [])) fun h41=>g2 31 41 (jb false) (ct h31 hg11) h41 fun h42=>gq ?_)
       exact JM H x2 x3 x1 x6 (wb F x2 x3 x1 k) ih false _ ⟨h1,h2,h3,h6,h7,h42⟩ h
     iterate 4 refine yq (ct h25 hg5) ?_
     refine g2 25 29 (jb false) (ct h25 hg5) (rf (.tup [])) fun h30=>gm h30 fun h31=>zt h31 (g1 8 (.ref (.bx 8) 0 [0] (ji v9.1)) h8 fun h32=>zt h31 (g1 32 (ji v9.1) h32 fun h33=>zt h31 (gm h2 fun h34=>zt h31 (g2 33 34 (jb (v9.1 == x3)) h33 h34 fun h35=>zt h31 (gm h35 fun h36=>yd h (fun hg16 h=>?_) (fun hg16 h=>?_))))))
     · refine zt (ct h36 hg16) (g1 8 (.ref (.bx 8) 0 [1] (ji v9.2)) h8 fun h37=>zt (ct h36 hg16) (g1 37 (ji v9.2) h37 fun h38=>zt (ct h36 hg16) (gm h1 fun h39=>zt (ct h36 hg16) (g2 38 39 (jb (v9.2 == x2)) h38 h39 fun h40=>zt h31 (g2 36 40 (jb (v9.2 == x2)) (ct h36 hg16) h40 fun h41=>g2 31 41 (jb (v9.2 == x2)) h31 h41 fun h42=>gq ?_)))))
       exact JM H x2 x3 x1 x6 (wb F x2 x3 x1 k) ih (v9.2 == x2) _ ⟨h1,h2,h3,h6,h7,h42⟩ h
     iterate 4 refine yq (ct h36 hg16) ?_
     refine zt h31 (g2 36 40 (jb false) (ct h36 hg16) (rf (.tup [])) fun h41=>g2 31 41 (jb false) h31 h41 fun h42=>gq ?_)
     exact JM H x2 x3 x1 x6 (wb F x2 x3 x1 k) ih false _ ⟨h1,h2,h3,h6,h7,h42⟩ h
   refine .exit (.esq (.elp (.ebk (.nsq (.seq (rg (g0 (jb false) fun h6=>gq (.nsq (.ret ?_)))))))))
   obtain rfl:=oi h
   exact rrA (zA h6) rfl
def Xl (F:Nat) (x1:GR) (x2:Int) (x3:Int):Option Bool:=
 wb F x2 x3 x1 F 0
theorem t73 (H:H73 D σ F) (x1:GR) (x2:Int) (x3:Int) (s:Nat→V) (hs:zB [(0,gV x1),(1,ji x2),(2,ji x3)] s) (h:Xl F x1 x2 x3=some r):Run D σ (R73 r) (.run A73 []) s:=by
 unfold Xl at h
 obtain ⟨h0,h1,h2⟩:=hs
 refine .seq (zC (yc ?_))
 refine ez [(0,_),(1,_),(2,_),(3,_)] ⟨za h0 rfl mIE,za h1 rfl mi,za h2 rfl mi,zg rfl⟩ ?_
 rintro s ⟨h0,h1,h2,h3⟩
 refine xU (gV x1) (zx h0 rfl) h3 rfl (g0 (jb false) fun h6=>gq (.nsq (.seq (.seq (rg (g0 (ji 0) fun h7=>gq (.nsq (.block (.loop ?_)))))))))
 exact ziE H x2 x3 x1 F 0 _ ⟨h1,h2,rfl,h6,h7⟩ h
end
def e73 (F:Nat):Ent:=ent 73 (fun (x:(GR×Int×Int×Unit))=>Xl F x.1 x.2.1 x.2.2.1) (fun (r:Bool)=>(enc (r:Bool))) 0 false []
abbrev C73 (D:List V→Option V) (F:Nat):Prop:=∀ (x0:GR) (x1:Int) (x2:Int) r,Xl F x0 x1 x2=some r→D [enc x0,enc x1,enc x2]=some (enc (r:Bool))
theorem p73 {F:Nat}:C73 (e73 F).den F:=fun x0 x1 x2 _ h=>zZ (x0,x1,x2,()) h
theorem o73 (hF:zH Tp D σ) (H:H73 D σ F):(e73 F).Ok Tp:=okZ (f:=73) Try.func73 fun ⟨x0,x1,x2,_⟩ y hy=>cR hF Try.func73 c73 (t73 H x0 x1 x2 _ ⟨rfl,rfl,rfl⟩ hy)
def zvt:AC:=(.cond (.t 31) (.reg [.clr [43,44]] [jx 32 (.vN (.fld (.t 3) 1 1) [0]),jx 33 (.vN (.load .p (.t 32)) [0]),jx 34 (.vN (.fld (.t 3) 1 1) [0]),jx 35 (.vN (.load .p (.t 34)) [0]),jm 36 0,jx 37 (.vN (.fld (.t 3) 1 1) [0]),jx 38 (.vN (.load .p (.t 37)) [0]),jx 39 (.vN (.len (.t 38)) [0]),jx 40 (.callT (jf 20) [.t 36,.t 39] [0] []),jv 41 (.idx (.t 35) (.t 40) 2),jv 42 (.load (.ag [.s,.s]) (.t 41)),jx 43 (.lit (.agg [i0,i0]) 1 [(0,0,.t 42)]),jx 44 (.app (.ag [.s,.s]) (.t 33) (.t 43)),jv 45 (.fld (.t 3) 1 1),jz (.store .p (.t 45) (.t 44))] [.drp 2061,.home 44 2061]) .skip)
def zpI:AC:=(.cond (.t 26) (.seq (rr [jv 28 (.fld (.t 3) 1 1),jv 29 (.load .p (.t 28)),jk 30 29,jv 31 (.bin .gtr (.t 30) (jn 0))]) zvt) .skip)
def zvw:AC:=(.cond (.t 13) (.reg [.clr [23,24]] [jx 15 (.vN (.fld (.t 3) 1 1) [0]),jx 16 (.vN (.load .p (.t 15)) [0]),jm 17 0,jx 18 (.callT (jf 20) [.t 17,jn 4] [0] []),jm 19 0,jx 20 (.callT (jf 20) [.t 19,jn 9] [0] []),jv 21 (.bin .sub (.t 20) (jn 1)),jv 22 (.bld (.agg [i0,i0]) [(0,0,.t 18),(1,1,.t 21)]),jx 23 (.lit (.agg [i0,i0]) 1 [(0,0,.t 22)]),jx 24 (.app (.ag [.s,.s]) (.t 16) (.t 23)),jv 25 (.fld (.t 3) 1 1),jz (.store .p (.t 25) (.t 24))] [.drp 2061,.home 24 2061]) (.seq (rr [jv 27 (.bin .eql (.t 6) (jn 2)),jm 26 27]) zpI))
def zqJ:AC:=(.cond (.t 7) (.reg [.clr [10]] [jm 9 0,jx 10 (.litS i0 5 [(0,0,jn (-1)),(1,1,jn 8),(2,2,jn 9),(3,3,jn 0),(4,4,jn 4611686018427387904)]),jx 11 (.callT (jf 42) [.t 9,.t 10] [0] []),jv 12 (.fld (.t 3) 0 0),jz (.store .s (.t 12) (.t 11))] []) (.seq (rr [jv 14 (.bin .eql (.t 6) (jn 1)),jm 13 14]) zvw))
def zst:AC:=(.block 0 (.seq (rr [jv 8 (.bin .eql (.t 6) (jn 0)),jm 7 8]) zqJ))
def zto:AC:=(.seq (.reg [] [jv 46 (.load (.ag [.s,.p]) (.t 3)),jz (.store (.ag [.s,.p]) (.t 4) (.t 46))] [.frz 46]) .ret)
def zu2:AC:=(.seq (.seq (rr [jm 5 0,jx 6 (.callT (jf 20) [.t 5,jn 50] [0] [])]) zst) zto)
def A74:AC:=(.seq (.reg [.clr [3,4]] [jx 3 (.box (.t 1)),jx 4 (.alloc (.agg [i0,.sl .nl (.ag [.s,.s]) 0 []]))] [.drp 2061,.home xY 2061]) zu2)
def zw5:List An:=[⟨0,[.clr [3,4]],[],[],[.drp 2061,.home xY 2061]⟩,⟨1,[],[],[2000000],[]⟩,⟨3,[.clr [10]],[],[3000000,6001],[]⟩,⟨5,[.clr [23,24]],[],[4000000,1000000,2000000,6000000],[.drp 2061,.home 24 2061]⟩,⟨8,[.clr [43,44]],[],[9000000,1000000,2000000,3000000,4000000,6000000,7000000,8000000],[.drp 2061,.home 44 2061]⟩,⟨9,[],[],[],[.frz 46]⟩]
theorem c74:cq Tp Try.f74 zw5=some A74:=by kernel_rfl
structure H74 (D:Den) (σ:Sig) (F:Nat):Prop where
 c20:C20 (D 20) F
 g20:σ 20=some (Zc,false)
 c42:C42 (D 42) F
 g42:σ 42=some (Zc,false)
abbrev R74 (r:(GR×CU)):(Nat→V)→Prop:=RT Tp [.cell 4 26] (enc (r.1:GR)) [cuV zP r.2]
section
variable {r:(GR×CU)}
def uh (F:Nat) (x1:CC) (x2:(Oh (Int×Int))):Option (GR×CU):=
 (yj F (Cu.mk x1.v) 50).bind fun r3=>
 bif (r3.1 == 0) then
  (xx F (Cu.mk r3.2) [(-1),8,9,0,4611686018427387904]).bind fun r4=>
  some ((r4.1,x2.v),r4.2)
 else
  bif (r3.1 == 1) then
   (yj F (Cu.mk r3.2) 4).bind fun r5=>
   (yj F (Cu.mk r5.2) 9).bind fun r6=>
   (vh x2.v [(r5.1,w64 (r6.1 - 1))]).bind fun ap7=>
   some ((x2.a,ap7),r6.2)
  else
   bif (r3.1 == 2) then
    bif decide ((x2.v.length:Int) > 0) then
     (yj F (Cu.mk r3.2) (x2.v.length:Int)).bind fun r8=>
     (idx x2.v r8.1).bind fun v9=>
     (vh x2.v [v9]).bind fun ap10=>
     some ((x2.a,ap10),r8.2)
    else
     some ((x2.a,x2.v),r3.2)
   else
    some ((x2.a,x2.v),r3.2)
theorem t74 (H:H74 D σ F) (x1:CC) (x2:(Oh (Int×Int))) (s:Nat→V) (hs:zB [(0,bC x1.v),(1,.agg [ji x2.a,zh (.at xY []) (.of (x2.v:TP))])] s) (h:uh F x1 x2=some r):Run D σ (R74 r) (.run A74 []) s:=by
 unfold uh at h
 obtain ⟨h0,h1⟩:=hs
 refine .seq (zC (yc ?_))
 refine ez [(0,_),(1,_),(3,_),(4,_)] ⟨za h0 rfl (zi rfl ue),za h1 rfl (zr (zc mi (zc (zm (r:=xY) (p:=[]) rfl rfl) zk))),zg rfl,zg rfl⟩ ?_
 rintro s ⟨h0,h1,h3,h4⟩
 refine xU (.agg [ji x2.a,zh (.at xY []) (.of (x2.v:TP))]) (zx h1 rfl) h3 rfl (y6 h4 (xf (uq (x:=2061) (fun s2 hx_2 hd_2=>yR (r:=xY) (x:=2061) (v:=_) (by exact hx_2) rfl (fun s3 hz3=>?_)))))
 refine ez [(0,bC x1.v),(3,.ref (.bx 3) 0 [] (.agg [ji x2.a,zh (.at 2061 []) (.of (x2.v:TP))])),(4,bZ 4)] ⟨hz3 0 _ _ (show s2 0=(bC x1.v) from (hd_2 0 (by decide)).trans h0) (zi rfl ue),hz3 3 _ (.ref (.bx 3) 0 [] (.agg [ji x2.a,zh (.at 2061 []) (.of (x2.v:TP))])) (show s2 3=(.ref (.bx 3) 0 [] (.agg [ji x2.a,zh (.at xY []) (.of (x2.v:TP))])) from (hd_2 3 (by decide)).trans rfl) (zi rfl (zr (zc mi (zc (zm (r:=xY) (p:=[]) rfl rfl) zk)))),hz3 4 _ _ (show s2 4=(bZ 4) from (hd_2 4 (by decide)).trans rfl) (zi rfl (mIx rfl))⟩ ?_
 rintro s ⟨h0,h3,h4⟩
 refine .nsq (.seq (.seq (rg (gm h0 fun h5=>?_))))
 obtain ⟨r3,Er3,h⟩:=zd h
 refine vJ (r:=zP) (b:=0) (x:=x1.v) (x':=r3.2) (vs:=[enc (50:Int)]) (res:=enc (r3.1:Int)) h0 (by exact (zL (v:=cuV zP x1.v) h5 rfl (zL (v:=enc (50:Int)) rfl rfl yQ))) (yh te yz) fm1 (H.c20 _ _ _ Er3) H.g20 te rfl (fun s4 hb4 ha4=>?_)
 refine gz [(0,_),(3,.ref (.bx 3) 0 [] (.agg [ji x2.a,zh (.at 2061 []) (.of (x2.v:TP))])),(4,bZ 4),(6,ji r3.1)] ⟨(show s4 0=(bC r3.2) from hb4 0 h0),(show s4 3=(.ref (.bx 3) 0 [] (.agg [ji x2.a,zh (.at 2061 []) (.of (x2.v:TP))])) from ha4 3 _ _ h3 rfl (zi rfl (zr (zc mi (zc (zm (r:=2061) (p:=[]) rfl rfl) zk))))),(show s4 4=(bZ 4) from ha4 4 _ _ h4 rfl (zi rfl (mIx rfl))),rfl⟩ ?_
 rintro s ⟨h0,h3,h4,h6⟩
 refine .nsq (.block (.seq (rg (g1 6 (jb (r3.1 == 0)) h6 fun h8=>gm h8 fun h7=>gq (.nsq (zu h7 h (fun h=>?_) (fun h=>?_)))))))
 · refine zC (yc ?_)
   refine ez [(0,_),(3,_),(4,_),(10,_)] ⟨za h0 rfl (zi rfl ue),za h3 rfl (zi rfl (zr (zc mi (zc (zm (r:=2061) (p:=[]) rfl rfl) zk)))),za h4 rfl (zi rfl (mIx rfl)),zg rfl⟩ ?_
   rintro s ⟨h0,h3,h4,h10⟩
   refine gm h0 fun h9=>KO [] ([(-1),8,9,0,4611686018427387904]:LI) trivial rfl rfl rfl h10 (fun s6 hd_6 hl_6=>?_)
   obtain ⟨r4,Er4,h⟩:=zd h
   refine vJ (r:=zP) (b:=0) (x:=r3.2) (x':=r4.2) (vs:=[enc ([(-1),8,9,0,4611686018427387904]:LI)]) (res:=enc (r4.1:Int)) (show s6 0=(bC r3.2) from (hl_6 0 (by decide)).trans h0) (by exact (zL (v:=cuV zP r3.2) (show s6 9=(bC r3.2) from (hl_6 9 (by decide)).trans h9) rfl (zL (v:=enc ([(-1),8,9,0,4611686018427387904]:LI)) (show s6 10=(eL [(-1),8,9,0,4611686018427387904]) from hd_6) rfl yQ))) (yh te yz) fm1 (H.c42 _ _ _ Er4) H.g42 te rfl (fun s7 hb7 ha7=>?_)
   refine g1 3 (.ref (.bx 3) 0 [0] (ji x2.a)) (show s7 3=(.ref (.bx 3) 0 [] (.agg [ji x2.a,zh (.at 2061 []) (.of (x2.v:TP))])) from ha7 3 _ _ (show s6 3=(.ref (.bx 3) 0 [] (.agg [ji x2.a,zh (.at 2061 []) (.of (x2.v:TP))])) from (hl_6 3 (by decide)).trans h3) rfl (zi rfl (zr (zc mi (zc (zm (r:=2061) (p:=[]) rfl rfl) zk))))) fun h12=>zQ (ji r4.1) (zx h12 rfl) (zx rfl rfl) (xr (by first | rfl | simp [V.toks,V.tokss,toks_enc,zN])) ?_
   refine gz [(0,bC r4.2),(3,.ref (.bx 3) 0 [] (.agg [ji r4.1,zh (.at 2061 []) (.of (x2.v:TP))])),(4,bZ 4)] ⟨zb (show s7 0=(bC r4.2) from hb7 0 (show s6 0=(bC r3.2) from (hl_6 0 (by decide)).trans h0)) (zj rfl rfl Uw),zb (show s7 3=(.ref (.bx 3) 0 [] (.agg [ji x2.a,zh (.at 2061 []) (.of (x2.v:TP))])) from ha7 3 _ _ (show s6 3=(.ref (.bx 3) 0 [] (.agg [ji x2.a,zh (.at 2061 []) (.of (x2.v:TP))])) from (hl_6 3 (by decide)).trans h3) rfl (zi rfl (zr (zc mi (zc (zm (r:=2061) (p:=[]) rfl rfl) zk))))) rfl,zb (show s7 4=(bZ 4) from ha7 4 _ _ (show s6 4=(bZ 4) from (hl_6 4 (by decide)).trans h4) rfl (zi rfl (mIx rfl))) (zj rfl rfl (zK (zf rfl (zf rfl rfl))))⟩ ?_
   rintro s ⟨h0,h3,h4⟩
   refine .nbk (.nsq (.seq (rg (g1 3 (.agg [ji r4.1,zh (.at 2061 []) (.of (x2.v:TP))]) h3 fun h46=>zQ (.agg [ji r4.1,zh (.at 2061 []) (.of (x2.v:TP))]) (zx h4 rfl) (zx h46 rfl) (xr (by first | rfl | simp [V.toks,V.tokss,toks_enc,zN])) (xf (JQ (x:=46) (v:=.agg [ji r4.1,zh (.at 2061 []) (.of (x2.v:TP))]) [.at 2061 []] (by exact (zb h46 (zK (zf rfl (zf (yg rfl rfl) rfl))))) (by simp [V.toks,V.tokss,zM,toks_enc]) (fun s8 hz8=>?_)))))))
   refine ez [(0,bC r4.2),(4,.ref (.bx 4) 0 [] (.agg [ji r4.1,eP x2.v]))] ⟨hz8 0 (bC r4.2) (bC r4.2) (zb h0 (zj rfl rfl Uw)) (wO rfl zbq rfl),hz8 4 (.ref (.bx 4) 0 [] (.agg [ji r4.1,zh (.at 2061 []) (.of (x2.v:TP))])) (.ref (.bx 4) 0 [] (.agg [ji r4.1,eP x2.v])) (zb h4 rfl) (wO rfl (Ja (vk rfl (vk Xo rfl))) rfl)⟩ ?_
   rintro s ⟨h0,h4⟩
   refine .nsq (.ret ?_)
   obtain rfl:=oi h
   exact rt1 (t:=0) (yL h4 (by kernel_rfl)) h0
 refine .seq (rg (g1 6 (jb (r3.1 == 1)) h6 fun h14=>gm h14 fun h13=>gq (.nsq (zu h13 h (fun h=>?_) (fun h=>?_)))))
 · refine zC (yc ?_)
   refine ez [(0,_),(3,_),(4,_),(23,_),(24,_)] ⟨za h0 rfl (zi rfl ue),za h3 rfl (zi rfl (zr (zc mi (zc (zm (r:=2061) (p:=[]) rfl rfl) zk)))),za h4 rfl (zi rfl (mIx rfl)),zg rfl,zg rfl⟩ ?_
   rintro s ⟨h0,h3,h4,h23,h24⟩
   refine Ue (r:=zP) (b:=0) (x:=r3.2) (.ref (.bx 3) 0 [1] (zh (.at 2061 []) (.of (x2.v:TP)))) h0 (u7 [(3,.ref (.bx 3) 0 [] (.agg [ji x2.a,zh (.at 2061 []) (.of (x2.v:TP))]))] h3 rfl rfl) [(3,.ref (.bx 3) 0 [] (.agg [ji x2.a,zh (.at 2061 []) (.of (x2.v:TP))]))] h3 rfl (by simp [V.live,V.lives,y7,yM (α:=(Int×Int)) (fun _=>rfl),V.toks,V.tokss,zM,yP,toks_enc,zP,xY]) (by simp [V.toks,V.tokss,zM,toks_enc,zP,xY]) ?_
   refine Ue (r:=zP) (b:=0) (x:=r3.2) (zh (.at 2061 []) (.of (x2.v:TP))) h0 (u7 [(15,.ref (.bx 3) 0 [1] (zh (.at 2061 []) (.of (x2.v:TP))))] rfl rfl rfl) [(15,.ref (.bx 3) 0 [1] (zh (.at 2061 []) (.of (x2.v:TP))))] rfl rfl (by simp [V.live,V.lives,y7,yM (α:=(Int×Int)) (fun _=>rfl),V.toks,V.tokss,zM,yP,toks_enc,zP,xY]) (by simp [V.toks,V.tokss,zM,toks_enc,zP,xY]) (gm h0 fun h17=>?_)
   obtain ⟨r5,Er5,h⟩:=zd h
   refine vJ (r:=zP) (b:=0) (x:=r3.2) (x':=r5.2) (vs:=[enc (4:Int)]) (res:=enc (r5.1:Int)) h0 (by exact (zL (v:=cuV zP r3.2) h17 rfl (zL (v:=enc (4:Int)) rfl rfl yQ))) (yh te yz) fm1 (H.c20 _ _ _ Er5) H.g20 te rfl (fun s10 hb10 ha10=>gm (show s10 0=(bC r5.2) from hb10 0 h0) fun h19=>?_)
   obtain ⟨r6,Er6,h⟩:=zd h
   refine vJ (r:=zP) (b:=0) (x:=r5.2) (x':=r6.2) (vs:=[enc (9:Int)]) (res:=enc (r6.1:Int)) (show s10 0=(bC r5.2) from hb10 0 h0) (by exact (zL (v:=cuV zP r5.2) h19 rfl (zL (v:=enc (9:Int)) rfl rfl yQ))) (yh te yz) fm1 (H.c20 _ _ _ Er6) H.g20 te rfl (fun s11 hb11 ha11=>g1 20 (ji (w64 (r6.1 - 1))) (rf (ji r6.1)) fun h21=>g2 18 21 (.agg [ji r5.1,ji (w64 (r6.1 - 1))]) (show s11 18=(ji r5.1) from ha11 18 (ji r5.1) _ rfl rfl mi) h21 fun h22=>?_)
   refine xv [(22,.agg [ji r5.1,ji (w64 (r6.1 - 1))])] [enc ((r5.1,w64 (r6.1 - 1)):(Int×Int))] h22 rfl rfl (show s11 23 = .gone from ha11 23 .gone _ (show s10 23 = .gone from ha10 23 _ _ h23 rfl rfl) rfl rfl) ?_
   obtain ⟨ap7,Eap7,h⟩:=zd h
   refine ZG (q:=2061) (p:=[]) (o:=.of (x2.v:TP)) (ys:=([(r5.1,w64 (r6.1 - 1))]:TP)) (t2:=.at 23 []) (lo2:=0) (show s11 16=(zh (.at 2061 []) (.of (x2.v:TP))) from ha11 16 (zh (.at 2061 []) (.of (x2.v:TP))) _ (show s10 16=(zh (.at 2061 []) (.of (x2.v:TP))) from ha10 16 (zh (.at 2061 []) (.of (x2.v:TP))) _ rfl rfl (zm (r:=2061) (p:=[]) rfl rfl)) rfl (zm (r:=2061) (p:=[]) rfl rfl)) rfl rfl (show s11 24 = .gone from ha11 24 .gone _ (show s10 24 = .gone from ha10 24 _ _ h24 rfl rfl) rfl rfl) (vK (o:=.of (x2.v:TP)) Eap7 trivial) (fun s12 ha12=>?_)
   refine g1 3 (.ref (.bx 3) 0 [1] (kdO ((.of x2.v):NL (Int×Int)))) (show s12 3=(.ref (.bx 3) 0 [] (.agg [ji x2.a,kdO ((.of x2.v):NL (Int×Int))])) from xG ha12 (show s11 3=(.ref (.bx 3) 0 [] (.agg [ji x2.a,zh (.at 2061 []) (.of (x2.v:TP))])) from ha11 3 (.ref (.bx 3) 0 [] (.agg [ji x2.a,zh (.at 2061 []) (.of (x2.v:TP))])) _ (show s10 3=(.ref (.bx 3) 0 [] (.agg [ji x2.a,zh (.at 2061 []) (.of (x2.v:TP))])) from ha10 3 _ _ h3 rfl (zi rfl (zr (zc mi (zc (zm (r:=2061) (p:=[]) rfl rfl) zk))))) rfl (zi rfl (zr (zc mi (zc (zm (r:=2061) (p:=[]) rfl rfl) zk))))) (zi rfl (zr (zc mi (zc wX zk)))) (by intro h;first | (cases h;done) | (subst h;rfl))) fun h25=>?_
   refine zQ (zh (.at 24 []) (.of (ap7:TP))) (zx h25 rfl) (zx rfl rfl) ⟨by decide,by decide,rfl,rfl,YQ,ui rfl rfl⟩ (xf (uq (x:=2061) (fun s13 hx_13 hd_13=>yR (r:=24) (x:=2061) (v:=_) (by exact hx_13) rfl (fun s14 hz14=>?_))))
   refine ez [(0,bC r6.2),(3,.ref (.bx 3) 0 [] (.agg [ji x2.a,zh (.at 2061 []) (.of (ap7:TP))])),(4,bZ 4)] ⟨hz14 0 _ _ (show s13 0=(bC r6.2) from (hd_13 0 (by decide)).trans (zb (show s12 0=(bC r6.2) from zF ha12 (show s11 0=(bC r6.2) from hb11 0 (show s10 0=(bC r5.2) from hb10 0 h0)) (zi rfl ue)) (zj rfl rfl Uw))) (zi rfl ue),hz14 3 _ (.ref (.bx 3) 0 [] (.agg [ji x2.a,zh (.at 2061 []) (.of (ap7:TP))])) (show s13 3=(.ref (.bx 3) 0 [] (.agg [ji x2.a,zh (.at 24 []) (.of (ap7:TP))])) from (hd_13 3 (by decide)).trans (zb (show s12 3=(.ref (.bx 3) 0 [] (.agg [ji x2.a,kdO ((.of x2.v):NL (Int×Int))])) from xG ha12 (show s11 3=(.ref (.bx 3) 0 [] (.agg [ji x2.a,zh (.at 2061 []) (.of (x2.v:TP))])) from ha11 3 (.ref (.bx 3) 0 [] (.agg [ji x2.a,zh (.at 2061 []) (.of (x2.v:TP))])) _ (show s10 3=(.ref (.bx 3) 0 [] (.agg [ji x2.a,zh (.at 2061 []) (.of (x2.v:TP))])) from ha10 3 _ _ h3 rfl (zi rfl (zr (zc mi (zc (zm (r:=2061) (p:=[]) rfl rfl) zk))))) rfl (zi rfl (zr (zc mi (zc (zm (r:=2061) (p:=[]) rfl rfl) zk))))) (zi rfl (zr (zc mi (zc wX zk)))) (by intro h;first | (cases h;done) | (subst h;rfl))) (u6 (zf rfl (zf YS rfl))))) (zi rfl (zr (zc mi (zc (zm (r:=24) (p:=[]) rfl rfl) zk)))),hz14 4 _ _ (show s13 4=(bZ 4) from (hd_13 4 (by decide)).trans (zb (show s12 4=(bZ 4) from zF ha12 (show s11 4=(bZ 4) from ha11 4 (bZ 4) _ (show s10 4=(bZ 4) from ha10 4 _ _ h4 rfl (zi rfl (mIx rfl))) rfl (zi rfl (mIx rfl))) (zi rfl (mIx rfl))) (zj rfl rfl (zK (zf rfl (zf rfl rfl)))))) (zi rfl (mIx rfl))⟩ ?_
   rintro s ⟨h0,h3,h4⟩
   refine .nbk (.nsq (.seq (rg (g1 3 (.agg [ji x2.a,zh (.at 2061 []) (.of (ap7:TP))]) h3 fun h46=>zQ (.agg [ji x2.a,zh (.at 2061 []) (.of (ap7:TP))]) (zx h4 rfl) (zx h46 rfl) (xr (by first | rfl | simp [V.toks,V.tokss,toks_enc,zN])) (xf (JQ (x:=46) (v:=.agg [ji x2.a,zh (.at 2061 []) (.of (ap7:TP))]) [.at 2061 []] (by exact (zb h46 (zK (zf rfl (zf (yg rfl rfl) rfl))))) (by simp [V.toks,V.tokss,zM,toks_enc]) (fun s15 hz15=>?_)))))))
   refine ez [(0,bC r6.2),(4,.ref (.bx 4) 0 [] (.agg [ji x2.a,eP ap7]))] ⟨hz15 0 (bC r6.2) (bC r6.2) (zb h0 (zj rfl rfl Uw)) (wO rfl zbq rfl),hz15 4 (.ref (.bx 4) 0 [] (.agg [ji x2.a,zh (.at 2061 []) (.of (ap7:TP))])) (.ref (.bx 4) 0 [] (.agg [ji x2.a,eP ap7])) (zb h4 rfl) (wO rfl (Ja (vk rfl (vk Xo rfl))) rfl)⟩ ?_
   rintro s ⟨h0,h4⟩
   refine .nsq (.ret ?_)
   obtain rfl:=oi h
   exact rt1 (t:=0) (yL h4 (by kernel_rfl)) h0
 refine .seq (rg (g1 6 (jb (r3.1 == 2)) h6 fun h27=>gm h27 fun h26=>gq (.nsq (zu h26 h (fun h=>?_) (fun h=>?_)))))
 · refine .seq (rg (g1 3 (.ref (.bx 3) 0 [1] (zh (.at 2061 []) (.of (x2.v:TP)))) h3 fun h28=>g1 28 (zh (.at 2061 []) (.of (x2.v:TP))) h28 fun h29=>gv (ji (x2.v.length:Int)) (YN (o:=.of x2.v) h29) fun h30=>g1 30 (jb (decide ((x2.v.length:Int) > 0))) h30 fun h31=>gq (.nsq (zu h31 h (fun h=>?_) (fun h=>?_)))))
   · refine zC (yc ?_)
     refine ez [(0,_),(3,_),(4,_),(43,_),(44,_)] ⟨za h0 rfl (zi rfl ue),za h3 rfl (zi rfl (zr (zc mi (zc (zm (r:=2061) (p:=[]) rfl rfl) zk)))),za h4 rfl (zi rfl (mIx rfl)),zg rfl,zg rfl⟩ ?_
     rintro s ⟨h0,h3,h4,h43,h44⟩
     refine Ue (r:=zP) (b:=0) (x:=r3.2) (.ref (.bx 3) 0 [1] (zh (.at 2061 []) (.of (x2.v:TP)))) h0 (u7 [(3,.ref (.bx 3) 0 [] (.agg [ji x2.a,zh (.at 2061 []) (.of (x2.v:TP))]))] h3 rfl rfl) [(3,.ref (.bx 3) 0 [] (.agg [ji x2.a,zh (.at 2061 []) (.of (x2.v:TP))]))] h3 rfl (by simp [V.live,V.lives,y7,yM (α:=(Int×Int)) (fun _=>rfl),V.toks,V.tokss,zM,yP,toks_enc,zP,xY]) (by simp [V.toks,V.tokss,zM,toks_enc,zP,xY]) ?_
     refine Ue (r:=zP) (b:=0) (x:=r3.2) (zh (.at 2061 []) (.of (x2.v:TP))) h0 (u7 [(32,.ref (.bx 3) 0 [1] (zh (.at 2061 []) (.of (x2.v:TP))))] rfl rfl rfl) [(32,.ref (.bx 3) 0 [1] (zh (.at 2061 []) (.of (x2.v:TP))))] rfl rfl (by simp [V.live,V.lives,y7,yM (α:=(Int×Int)) (fun _=>rfl),V.toks,V.tokss,zM,yP,toks_enc,zP,xY]) (by simp [V.toks,V.tokss,zM,toks_enc,zP,xY]) ?_
     refine Ue (r:=zP) (b:=0) (x:=r3.2) (.ref (.bx 3) 0 [1] (zh (.at 2061 []) (.of (x2.v:TP)))) h0 (u7 [(3,.ref (.bx 3) 0 [] (.agg [ji x2.a,zh (.at 2061 []) (.of (x2.v:TP))]))] h3 rfl rfl) [(3,.ref (.bx 3) 0 [] (.agg [ji x2.a,zh (.at 2061 []) (.of (x2.v:TP))]))] h3 rfl (by simp [V.live,V.lives,y7,yM (α:=(Int×Int)) (fun _=>rfl),V.toks,V.tokss,zM,yP,toks_enc,zP,xY]) (by simp [V.toks,V.tokss,zM,toks_enc,zP,xY]) ?_
     refine Ue (r:=zP) (b:=0) (x:=r3.2) (zh (.at 2061 []) (.of (x2.v:TP))) h0 (u7 [(34,.ref (.bx 3) 0 [1] (zh (.at 2061 []) (.of (x2.v:TP))))] rfl rfl rfl) [(34,.ref (.bx 3) 0 [1] (zh (.at 2061 []) (.of (x2.v:TP))))] rfl rfl (by simp [V.live,V.lives,y7,yM (α:=(Int×Int)) (fun _=>rfl),V.toks,V.tokss,zM,yP,toks_enc,zP,xY]) (by simp [V.toks,V.tokss,zM,toks_enc,zP,xY]) ?_
     refine gm h0 fun h36=>Ue (r:=zP) (b:=0) (x:=r3.2) (.ref (.bx 3) 0 [1] (zh (.at 2061 []) (.of (x2.v:TP)))) h0 (u7 [(3,.ref (.bx 3) 0 [] (.agg [ji x2.a,zh (.at 2061 []) (.of (x2.v:TP))]))] h3 rfl rfl) [(3,.ref (.bx 3) 0 [] (.agg [ji x2.a,zh (.at 2061 []) (.of (x2.v:TP))]))] h3 rfl (by simp [V.live,V.lives,y7,yM (α:=(Int×Int)) (fun _=>rfl),V.toks,V.tokss,zM,yP,toks_enc,zP,xY]) (by simp [V.toks,V.tokss,zM,toks_enc,zP,xY]) ?_
     refine Ue (r:=zP) (b:=0) (x:=r3.2) (zh (.at 2061 []) (.of (x2.v:TP))) h0 (u7 [(37,.ref (.bx 3) 0 [1] (zh (.at 2061 []) (.of (x2.v:TP))))] rfl rfl rfl) [(37,.ref (.bx 3) 0 [1] (zh (.at 2061 []) (.of (x2.v:TP))))] rfl rfl (by simp [V.live,V.lives,y7,yM (α:=(Int×Int)) (fun _=>rfl),V.toks,V.tokss,zM,yP,toks_enc,zP,xY]) (by simp [V.toks,V.tokss,zM,toks_enc,zP,xY]) ?_
     refine Ue (r:=zP) (b:=0) (x:=r3.2) (ji (x2.v.length:Int)) h0 (YN (o:=.of x2.v) rfl) [(38,zh (.at 2061 []) (.of (x2.v:TP)))] rfl rfl (by simp [V.live,V.lives,y7,yM (α:=(Int×Int)) (fun _=>rfl),V.toks,V.tokss,zM,yP,toks_enc,zP,xY]) (by simp [V.toks,V.tokss,zM,toks_enc,zP,xY]) ?_
     obtain ⟨r8,Er8,h⟩:=zd h
     refine vJ (r:=zP) (b:=0) (x:=r3.2) (x':=r8.2) (vs:=[enc ((x2.v.length:Int):Int)]) (res:=enc (r8.1:Int)) h0 (by exact (zL (v:=cuV zP r3.2) h36 rfl (zL (v:=enc ((x2.v.length:Int):Int)) rfl rfl yQ))) (yh te yz) fm1 (H.c20 _ _ _ Er8) H.g20 te rfl (fun s17 hb17 ha17=>?_)
     obtain ⟨v9,Ev9,h⟩:=zd h
     refine gv (.ref (.at 2061 []) r8.1.toNat [] (.agg [ji v9.1,ji v9.2])) (vi (o:=.of x2.v) (show s17 35=(zh (.at 2061 []) (.of (x2.v:TP))) from ha17 35 (zh (.at 2061 []) (.of (x2.v:TP))) _ rfl rfl (zm (r:=2061) (p:=[]) rfl rfl)) rfl Ev9 rfl) fun h41=>g1 41 (.agg [ji v9.1,ji v9.2]) h41 fun h42=>xv [(42,.agg [ji v9.1,ji v9.2])] [enc (v9:(Int×Int))] h42 rfl rfl (show s17 43 = .gone from ha17 43 _ _ h43 rfl rfl) ?_
     obtain ⟨ap10,Eap10,h⟩:=zd h
     refine ZG (q:=2061) (p:=[]) (o:=.of (x2.v:TP)) (ys:=([v9]:TP)) (t2:=.at 43 []) (lo2:=0) (show s17 33=(zh (.at 2061 []) (.of (x2.v:TP))) from ha17 33 (zh (.at 2061 []) (.of (x2.v:TP))) _ rfl rfl (zm (r:=2061) (p:=[]) rfl rfl)) rfl rfl (show s17 44 = .gone from ha17 44 _ _ h44 rfl rfl) (vK (o:=.of (x2.v:TP)) Eap10 trivial) (fun s18 ha18=>?_)
     refine g1 3 (.ref (.bx 3) 0 [1] (kdO ((.of x2.v):NL (Int×Int)))) (show s18 3=(.ref (.bx 3) 0 [] (.agg [ji x2.a,kdO ((.of x2.v):NL (Int×Int))])) from xG ha18 (show s17 3=(.ref (.bx 3) 0 [] (.agg [ji x2.a,zh (.at 2061 []) (.of (x2.v:TP))])) from ha17 3 _ _ h3 rfl (zi rfl (zr (zc mi (zc (zm (r:=2061) (p:=[]) rfl rfl) zk))))) (zi rfl (zr (zc mi (zc wX zk)))) (by intro h;first | (cases h;done) | (subst h;rfl))) fun h45=>zQ (zh (.at 44 []) (.of (ap10:TP))) (zx h45 rfl) (zx rfl rfl) ⟨by decide,by decide,rfl,rfl,YQ,ui rfl rfl⟩ (xf ?_)
     refine uq (x:=2061) (fun s19 hx_19 hd_19=>yR (r:=44) (x:=2061) (v:=_) (by exact hx_19) rfl (fun s20 hz20=>?_))
     refine ez [(0,bC r8.2),(3,.ref (.bx 3) 0 [] (.agg [ji x2.a,zh (.at 2061 []) (.of (ap10:TP))])),(4,bZ 4)] ⟨hz20 0 _ _ (show s19 0=(bC r8.2) from (hd_19 0 (by decide)).trans (zb (show s18 0=(bC r8.2) from zF ha18 (show s17 0=(bC r8.2) from hb17 0 h0) (zi rfl ue)) (zj rfl rfl Uw))) (zi rfl ue),hz20 3 _ (.ref (.bx 3) 0 [] (.agg [ji x2.a,zh (.at 2061 []) (.of (ap10:TP))])) (show s19 3=(.ref (.bx 3) 0 [] (.agg [ji x2.a,zh (.at 44 []) (.of (ap10:TP))])) from (hd_19 3 (by decide)).trans (zb (show s18 3=(.ref (.bx 3) 0 [] (.agg [ji x2.a,kdO ((.of x2.v):NL (Int×Int))])) from xG ha18 (show s17 3=(.ref (.bx 3) 0 [] (.agg [ji x2.a,zh (.at 2061 []) (.of (x2.v:TP))])) from ha17 3 _ _ h3 rfl (zi rfl (zr (zc mi (zc (zm (r:=2061) (p:=[]) rfl rfl) zk))))) (zi rfl (zr (zc mi (zc wX zk)))) (by intro h;first | (cases h;done) | (subst h;rfl))) (u6 (zf rfl (zf YS rfl))))) (zi rfl (zr (zc mi (zc (zm (r:=44) (p:=[]) rfl rfl) zk)))),hz20 4 _ _ (show s19 4=(bZ 4) from (hd_19 4 (by decide)).trans (zb (show s18 4=(bZ 4) from zF ha18 (show s17 4=(bZ 4) from ha17 4 _ _ h4 rfl (zi rfl (mIx rfl))) (zi rfl (mIx rfl))) (zj rfl rfl (zK (zf rfl (zf rfl rfl)))))) (zi rfl (mIx rfl))⟩ ?_
     rintro s ⟨h0,h3,h4⟩
     refine .nbk (.nsq (.seq (rg (g1 3 (.agg [ji x2.a,zh (.at 2061 []) (.of (ap10:TP))]) h3 fun h46=>zQ (.agg [ji x2.a,zh (.at 2061 []) (.of (ap10:TP))]) (zx h4 rfl) (zx h46 rfl) (xr (by first | rfl | simp [V.toks,V.tokss,toks_enc,zN])) (xf (JQ (x:=46) (v:=.agg [ji x2.a,zh (.at 2061 []) (.of (ap10:TP))]) [.at 2061 []] (by exact (zb h46 (zK (zf rfl (zf (yg rfl rfl) rfl))))) (by simp [V.toks,V.tokss,zM,toks_enc]) (fun s21 hz21=>?_)))))))
     refine ez [(0,bC r8.2),(4,.ref (.bx 4) 0 [] (.agg [ji x2.a,eP ap10]))] ⟨hz21 0 (bC r8.2) (bC r8.2) (zb h0 (zj rfl rfl Uw)) (wO rfl zbq rfl),hz21 4 (.ref (.bx 4) 0 [] (.agg [ji x2.a,zh (.at 2061 []) (.of (ap10:TP))])) (.ref (.bx 4) 0 [] (.agg [ji x2.a,eP ap10])) (zb h4 rfl) (wO rfl (Ja (vk rfl (vk Xo rfl))) rfl)⟩ ?_
     rintro s ⟨h0,h4⟩
     refine .nsq (.ret ?_)
     obtain rfl:=oi h
     exact rt1 (t:=0) (yL h4 (by kernel_rfl)) h0
   refine .skip (.nbk (.nsq (.seq (rg (g1 3 (.agg [ji x2.a,zh (.at 2061 []) (.of (x2.v:TP))]) h3 fun h46=>zQ (.agg [ji x2.a,zh (.at 2061 []) (.of (x2.v:TP))]) (zx h4 rfl) (zx h46 rfl) (xr (by first | rfl | simp [V.toks,V.tokss,toks_enc,zN])) (xf (JQ (x:=46) (v:=.agg [ji x2.a,zh (.at 2061 []) (.of (x2.v:TP))]) [.at 2061 []] (by exact (zb h46 (zK (zf rfl (zf (yg rfl rfl) rfl))))) (by simp [V.toks,V.tokss,zM,toks_enc]) (fun s22 hz22=>?_))))))))
   refine ez [(0,bC r3.2),(4,.ref (.bx 4) 0 [] (.agg [ji x2.a,eP x2.v]))] ⟨hz22 0 (bC r3.2) (bC r3.2) (zb h0 (zj rfl rfl Uw)) (wO rfl zbq rfl),hz22 4 (.ref (.bx 4) 0 [] (.agg [ji x2.a,zh (.at 2061 []) (.of (x2.v:TP))])) (.ref (.bx 4) 0 [] (.agg [ji x2.a,eP x2.v])) (zb h4 rfl) (wO rfl (Ja (vk rfl (vk Xo rfl))) rfl)⟩ ?_
   rintro s ⟨h0,h4⟩
   refine .nsq (.ret ?_)
   obtain rfl:=oi h
   exact rt1 (t:=0) (yL h4 (by kernel_rfl)) h0
 refine .skip (.nbk (.nsq (.seq (rg (g1 3 (.agg [ji x2.a,zh (.at 2061 []) (.of (x2.v:TP))]) h3 fun h46=>zQ (.agg [ji x2.a,zh (.at 2061 []) (.of (x2.v:TP))]) (zx h4 rfl) (zx h46 rfl) (xr (by first | rfl | simp [V.toks,V.tokss,toks_enc,zN])) (xf (JQ (x:=46) (v:=.agg [ji x2.a,zh (.at 2061 []) (.of (x2.v:TP))]) [.at 2061 []] (by exact (zb h46 (zK (zf rfl (zf (yg rfl rfl) rfl))))) (by simp [V.toks,V.tokss,zM,toks_enc]) (fun s23 hz23=>?_))))))))
 refine ez [(0,bC r3.2),(4,.ref (.bx 4) 0 [] (.agg [ji x2.a,eP x2.v]))] ⟨hz23 0 (bC r3.2) (bC r3.2) (zb h0 (zj rfl rfl Uw)) (wO rfl zbq rfl),hz23 4 (.ref (.bx 4) 0 [] (.agg [ji x2.a,zh (.at 2061 []) (.of (x2.v:TP))])) (.ref (.bx 4) 0 [] (.agg [ji x2.a,eP x2.v])) (zb h4 rfl) (wO rfl (Ja (vk rfl (vk Xo rfl))) rfl)⟩ ?_
 rintro s ⟨h0,h4⟩
 refine .nsq (.ret ?_)
 obtain rfl:=oi h
 exact rt1 (t:=0) (yL h4 (by kernel_rfl)) h0
end
def e74 (F:Nat):Ent:=ent 74 (fun (x:(CC×(Oh (Int×Int))×Unit))=>uh F x.1 x.2.1) (fun (r:(GR×CU))=>(.tup [enc (r.1:GR),.tup [cuV zP r.2]])) Zc false []
abbrev C74 (D:List V→Option V) (F:Nat):Prop:=∀ (x0:CC) (x1:(Oh (Int×Int))) r,uh F x0 x1=some r→D [Arg.arg x0,Arg.arg x1]=some (.tup [enc (r.1:GR),.tup [cuV zP r.2]])
theorem p74 {F:Nat}:C74 (e74 F).den F:=fun x0 x1 _ h=>zZ (x0,x1,()) h
theorem o74 (hF:zH Tp D σ) (H:H74 D σ F):(e74 F).Ok Tp:=okZ (f:=74) Try.func74 fun ⟨x0,x1,_⟩ y hy=>cT hF Try.func74 c74 (t74 H x0 x1 _ ⟨rfl,rfl⟩ hy)
def Jz:AC:=(.seq (rr [jm 98 0,jv 99 (.load (.ag [.s,.p]) (.t 6)),jx 100 (.callT (jf 74) [.t 98,.t 99] [0] [99]),jz (.store (.ag [.s,.p]) (.t 4) (.t 100))]) .ret)
def zsd:AC:=(.cond (.t 39) .skip (.exit 1))
def zrH:AC:=(.cond (.t 46) .skip (.exit 3))
def zqK:AC:=(.cond (.t 52) (.reg [.clr [58]] [jv 53 (.fld (.t 6) 1 1),jv 54 (.load .p (.t 53)),jm 55 9,jm 56 10,jv 57 (.bld (.agg [i0,i0]) [(0,0,.t 55),(1,1,.t 56)]),jx 58 (.callO (jf 72) [.t 54,.t 57]),jv 59 (.fld (.t 6) 1 1),jz (.store .p (.t 59) (.t 58))] [.drp 28,.home 58 28]) .skip)
def zkh:AC:=(rr [jm 47 10,jv 48 (.bin .add (.t 47) (jn 1)),jm 10 48])
def zsw:AC:=(.seq (.block 4 (.seq (rr [jm 49 0,jm 50 7,jx 51 (.callT (jf 20) [.t 49,.t 50] [0] []),jv 52 (.bin .eql (.t 51) (jn 0))]) zqK)) zkh)
def QA:AC:=(.seq (.seq (rr [jm 44 10,jm 45 5,jv 46 (.bin .lss (.t 44) (.t 45))]) zrH) zsw)
def zsI:AC:=(.block 3 (.loop QA))
def zhh:AC:=(.cond (.t 76) (.reg [.clr [82]] [jv 77 (.fld (.t 6) 1 1),jv 78 (.load .p (.t 77)),jm 79 11,jm 80 9,jv 81 (.bld (.agg [i0,i0]) [(0,0,.t 79),(1,1,.t 80)]),jx 82 (.callO (jf 72) [.t 78,.t 81]),jv 83 (.fld (.t 6) 1 1),jz (.store .p (.t 83) (.t 82))] [.drp 28,.home 82 28]) .skip)
def znE:AC:=(.seq (rr [jm 64 9,jv 65 (.bin .gtr (.t 64) (jn 0)),jm 66 65,jg 67 66 true (.mov (.t 8)),jg 68 66 true (.un .not (.t 67)),jv 69 (.pick (.t 66) (.t 68) kf),jm 70 69,jg 71 70 true (.load (.ag [.s,.p]) (.t 6)),jg 72 70 true (.mov (.t 9)),jg 73 70 true (.mov (.t 11)),.mk (some 74) (some (70,true)) false (.call (jf 73) [.t 71,.t 72,.t 73]),jg 75 70 true (.un .not (.t 74)),jv 76 (.pick (.t 70) (.t 75) kf)]) zhh)
def zax:AC:=(.seq (rr [jm 60 0,jm 61 9,jx 62 (.call (jf 26) [.t 61,jn 1]),jx 63 (.callT (jf 20) [.t 60,.t 62] [0] []),jm 11 63]) znE)
def L9:AC:=(rr [jm 40 9,jv 41 (.bin .add (.t 40) (jn 1)),jm 9 41])
def zut:AC:=(.seq (.block 2 (.seq (.seq (rr [jm 42 9,jv 43 (.bin .add (.t 42) (jn 1)),jm 10 43]) zsI) zax)) L9)
def Wq:AC:=(.seq (.seq (rr [jm 37 9,jm 38 5,jv 39 (.bin .lss (.t 37) (.t 38))]) zsd) zut)
def zno:AC:=(.cond (.t 91) (.reg [.clr [93]] [jm 92 5,jx 93 (.callO (jf 70) [.t 92]),jz (.store (.ag [.s,.p]) (.t 6) (.t 93))] [.drp 28,.ren 28 93 [1]]) .skip)
def zor:AC:=(.block 1 (.loop Wq))
def znH:AC:=(.seq (rr [jv 9 (.mov (jn 0))]) zor)
def znN:AC:=(.cond (.t 94) (.reg [.clr [97]] [jm 96 5,jx 97 (.callO (jf 71) [.t 96]),jz (.store (.ag [.s,.p]) (.t 6) (.t 97))] [.drp 28,.ren 28 97 [1]]) (.seq (.reg [.clr [33]] [jm 32 0,jx 33 (.litS i0 3 [(0,0,jn 3),(1,1,jn 4),(2,2,jn 6)]),jx 34 (.callT (jf 42) [.t 32,.t 33] [0] []),jm 35 0,jx 36 (.callT (jf 41) [.t 35,jn 6] [0] []),jm 7 34,jm 8 36] []) znH))
def zoT:AC:=(.cond (.t 88) (.seq (rr [jm 90 5,jv 91 (.bin .gtr (.t 90) (jn 2))]) zno) (.seq (rr [jv 95 (.bin .eql (.t 31) (jn 2)),jm 94 95]) znN))
def zoa:AC:=(.cond (.t 84) (.reg [.clr [87]] [jm 86 5,jx 87 (.callO (jf 69) [.t 86]),jz (.store (.ag [.s,.p]) (.t 6) (.t 87))] [.drp 28,.ren 28 87 [1]]) (.seq (rr [jv 89 (.bin .eql (.t 31) (jn 1)),jm 88 89]) zoT))
def znY:AC:=(.block 0 (.seq (rr [jv 85 (.bin .eql (.t 31) (jn 0)),jm 84 85]) zoa))
def zox:AC:=(.seq (.seq (rr [jm 30 0,jx 31 (.callT (jf 20) [.t 30,jn 8] [0] [])]) znY) Jz)
def zoE:AC:=(.seq (.reg [.clr [28,6]] [jm 27 5,jx 28 (.lit (.agg [i0,i0]) 0 []),jv 29 (.bld (.agg [i0,.sl .nl (.ag [.s,.s]) 0 []]) [(0,0,.t 27),(1,1,.t 28)]),jx 6 (.alloc (.agg [i0,.sl .nl (.ag [.s,.s]) 0 []])),jz (.store (.ag [.s,.p]) (.t 6) (.t 29))] []) zox)
def zd6:AC:=(.seq (rr [jm 24 5,jm 25 1,jx 26 (.call (jf 40) [.t 24,.t 25]),jm 5 26]) zoE)
def zhj:AC:=(.cond (.t 20) (rr [jm 21 0,jx 22 (.callT (jf 20) [.t 21,jn 2] [0] []),jv 23 (.bin .add (jn 7) (.t 22)),jm 5 23]) .skip)
def znZ:AC:=(.seq (.seq (rr [jm 15 1,jv 16 (.bin .gtr (.t 15) (jn 6)),jm 17 16,jg 18 17 true (.mov (.t 0)),.mk (some 19) (some (17,true)) false (.callT (jf 41) [.t 18,jn 4] [0] []),jv 20 (.pick (.t 17) (.t 19) kf)]) zhj) zd6)
def zpj:AC:=(.seq (.reg [.clr [13]] [jm 12 0,jx 13 (.litS i0 7 [(0,0,jn 4),(1,1,jn 5),(2,2,jn 3),(3,3,jn 6),(4,4,jn 2),(5,5,jn 1),(6,6,jn 0)]),jx 14 (.callT (jf 42) [.t 12,.t 13] [0] []),jm 5 14] []) znZ)
def A39:AC:=(.seq (.reg [.clr [4]] [jx 4 (.alloc (.agg [i0,.sl .nl (.ag [.s,.s]) 0 []]))] []) zpj)
def zw1:List An:=[⟨0,[.clr [4]],[],[],[]⟩,⟨1,[.clr [13]],[],[3000000,6001],[]⟩,⟨2,[],[],[5000000],[]⟩,⟨3,[],[],[2000000],[]⟩,⟨5,[.clr [28,6]],[],[],[]⟩,⟨6,[],[],[2000000],[]⟩,⟨7,[.clr [33]],[],[3000000,6001,5000000],[]⟩,⟨14,[],[],[3000000],[]⟩,⟨15,[.clr [58]],[],[1005],[.drp 28,.home 58 28]⟩,⟨16,[],[],[4000000],[]⟩,⟨18,[.clr [82]],[],[1005],[.drp 28,.home 82 28]⟩,⟨20,[.clr [87]],[],[1001],[.drp 28,.ren 28 87 [1]]⟩,⟨23,[.clr [93]],[],[1001],[.drp 28,.ren 28 93 [1]]⟩,⟨25,[.clr [97]],[],[1001],[.drp 28,.ren 28 97 [1]]⟩,⟨26,[],[],[3000000,3500099],[]⟩]
theorem c39:cq Tp Try.f39 zw1=some A39:=by kernel_rfl
structure H39 (D:Den) (σ:Sig) (F:Nat):Prop where
 c42:C42 (D 42) F
 g42:σ 42=some (Zc,false)
 c41:C41 (D 41) F
 g41:σ 41=some (Zc,false)
 c20:C20 (D 20) F
 g20:σ 20=some (Zc,false)
 c40:C40 (D 40) F
 g40:σ 40=some (0,false)
 c69o:zpn (D 1000000069) F
 g69o:σ 1000000069=some (1,false)
 c70o:zqp (D 1000000070) F
 g70o:σ 1000000070=some (1,false)
 c71o:ztW (D 1000000071) F
 g71o:σ 1000000071=some (1,false)
 c72o:zn9 (D 1000000072) F
 g72o:σ 1000000072=some (1,false)
 c26:C26 (D 26) F
 g26:σ 26=some (0,false)
 c73:C73 (D 73) F
 g73:σ 73=some (0,false)
 c74:C74 (D 74) F
 g74:σ 74=some (Zc,false)
abbrev R39 (r:(GR×CU)):(Nat→V)→Prop:=RT Tp [.cell 4 26] (enc (r.1:GR)) [cuV zP r.2]
section
variable {r:(GR×CU)}
def xz (F:Nat)   (x101:LB) (x102:Int) (x103:Int) (x104:Int) (x105:(NL (Int×Int))):Option (GR×CU):=
 (zdX x105).bind fun li107=>
 (uh F (cu x101 x102 x103) (Oh.mk x104 li107:Oh (Int×Int))).bind fun r106=>
 some (r106.1,r106.2)
theorem J7 (H:H39 D σ F)   (x101:LB) (x102:Int) (x103:Int) (x104:Int) (x105:(NL (Int×Int))) (s:Nat→V) (hs:zB [(0,.ref (.bx zP) 0 [] (.agg [eB x101,ji x102,.int .u64 x103])),(4,bZ 4),(6,.ref (.bx 6) 0 [] (.agg [ji x104,zh (.at 28 []) (x105:NL (Int×Int))]))] s) (h:xz F   x101 x102 x103 x104 x105=some r):Run D σ (R39 r) (.nrm [.bk 0,.sq Jz]) s:=by
 unfold xz at h
 obtain ⟨h0,h4,h6⟩:=hs
 refine .nbk (.nsq (.seq (rg (gm h0 fun h98=>gv (.agg [ji x104,zh (.at 28 []) (x105:NL (Int×Int))]) (xm (c:=.agg [ji x104,zh (.at 28 []) (x105:NL (Int×Int))]) h6 (by simp [V.shape,V.shapes,zG,Sh.beq,Sh.beqs])) fun h99=>?_))))
 obtain ⟨li107,Eli107,h⟩:=zd h
 obtain ⟨r106,Er106,h⟩:=zd h
 refine zov (r:=zP) (b:=0) (e:=99) (q:=28) (ρ:=[]) (x:=((S3.mk x101 x102 (Kd.mk x103:Kd .u64)):CU)) (x':=r106.2) (n:=x104) (xs:=(li107:TP)) (res:=enc (r106.1:GR)) h0 (zca Eli107 h99) (by exact (zL (v:=cuV zP ((S3.mk x101 x102 (Kd.mk x103:Kd .u64)):CU)) h98 rfl (zL (v:=.agg [ji x104,zh (.at 28 []) (.of (li107:TP))]) (zca Eli107 h99) rfl yQ))) (H.c74 _ _ _ Er106) H.g74 te rfl (fun s106 hb106 ha106=>zQ (gV r106.1) (zx (show s106 4=(bZ 4) from ha106 4 _ _ h4 rfl (zi rfl (mIx rfl))) rfl) (zx rfl rfl) (xr (by first | rfl | simp [V.toks,V.tokss,toks_enc,zN])) ?_)
 refine gz [(0,bC r106.2),(4,bG 4 r106.1)] ⟨zb (show s106 0=(bC r106.2) from hb106 0 h0) (zj rfl rfl Uw),zb (show s106 4=(bZ 4) from ha106 4 _ _ h4 rfl (zi rfl (mIx rfl))) rfl⟩ ?_
 rintro s ⟨h0,h4⟩
 refine .nsq (.ret ?_)
 obtain rfl:=oi h
 exact rt1 (t:=0) (yL h4 (by kernel_rfl)) h0
def uI (F:Nat) (r181:(Int×CU)) (r14:Int) (r111:(Int×CU)) (r112:(Bool×CU)) (x142:Int) (x176:Int) (c5:LB→Int→Int→(NL (Int×Int))→Int→Option (GR×CU)) (c8:LB→Int→Int→(NL (Int×Int))→Int→Option (GR×CU)) (x183:(NL (Int×Int))):Option (GR×CU):=
 c8 r181.2.a r181.2.b r181.2.c.v x183 (w64 (x176 + 1))
theorem zdl (H:H39 D σ F) (r181:(Int×CU)) (r14:Int) (r111:(Int×CU)) (r112:(Bool×CU)) (x142:Int) (x176:Int) (c5:LB→Int→Int→(NL (Int×Int))→Int→Option (GR×CU)) (Hc5:∀ (x138:LB) (x139:Int) (x140:Int) (x141:(NL (Int×Int))) (x142:Int) (s:Nat→V),zB [(0,.ref (.bx zP) 0 [] (.agg [eB x138,ji x139,.int .u64 x140])),(4,bZ 4),(5,ji r14),(6,.ref (.bx 6) 0 [] (.agg [ji r14,zh (.at 28 []) (x141:NL (Int×Int))])),(7,ji r111.1),(8,jb r112.1),(9,ji x142)] s→c5 x138 x139 x140 x141 x142=some r→Run D σ (R39 r) (.run Wq [.lp Wq,.bk 1,.bk 0,.sq Jz]) s) (c8:LB→Int→Int→(NL (Int×Int))→Int→Option (GR×CU)) (Hc8:∀ (x172:LB) (x173:Int) (x174:Int) (x175:(NL (Int×Int))) (x176:Int) (s:Nat→V),zB [(0,.ref (.bx zP) 0 [] (.agg [eB x172,ji x173,.int .u64 x174])),(4,bZ 4),(5,ji r14),(6,.ref (.bx 6) 0 [] (.agg [ji r14,zh (.at 28 []) (x175:NL (Int×Int))])),(7,ji r111.1),(8,jb r112.1),(9,ji x142),(10,ji x176)] s→c8 x172 x173 x174 x175 x176=some r→Run D σ (R39 r) (.run QA [.lp QA,.bk 3,.sq zax,.bk 2,.sq L9,.lp Wq,.bk 1,.bk 0,.sq Jz]) s) (x183:(NL (Int×Int))) (s:Nat→V) (hs:zB [(0,bC r181.2),(4,bZ 4),(5,ji r14),(6,.ref (.bx 6) 0 [] (.agg [ji r14,zh (.at 28 []) (x183:NL (Int×Int))])),(7,ji r111.1),(8,jb r112.1),(9,ji x142),(10,ji x176)] s) (h:uI F r181 r14 r111 r112 x142 x176 c5 c8 x183=some r):Run D σ (R39 r) (.nrm [.bk 4,.sq zkh,.lp QA,.bk 3,.sq zax,.bk 2,.sq L9,.lp Wq,.bk 1,.bk 0,.sq Jz]) s:=by
 unfold uI at h
 obtain ⟨h0,h4,h5,h6,h7,h8,h9,h10⟩:=hs
 refine .nbk (.nsq (rg (gm h10 fun h47=>g1 47 (ji (w64 (x176 + 1))) h47 fun h48=>gm h48 fun h10=>gq (.nlp ?_))))
 exact Hc8 r181.2.a r181.2.b r181.2.c.v x183 (w64 (x176 + 1)) _ ⟨h0,h4,h5,h6,h7,h8,h9,h10⟩ h
def uL (F:Nat) (r186:(Int×CU)) (r14:Int) (r111:(Int×CU)) (r112:(Bool×CU)) (x142:Int) (c5:LB→Int→Int→(NL (Int×Int))→Int→Option (GR×CU)) (x190:(NL (Int×Int))):Option (GR×CU):=
 c5 r186.2.a r186.2.b r186.2.c.v x190 (w64 (x142 + 1))
theorem zco (H:H39 D σ F) (r186:(Int×CU)) (r14:Int) (r111:(Int×CU)) (r112:(Bool×CU)) (x142:Int) (c5:LB→Int→Int→(NL (Int×Int))→Int→Option (GR×CU)) (Hc5:∀ (x138:LB) (x139:Int) (x140:Int) (x141:(NL (Int×Int))) (x142:Int) (s:Nat→V),zB [(0,.ref (.bx zP) 0 [] (.agg [eB x138,ji x139,.int .u64 x140])),(4,bZ 4),(5,ji r14),(6,.ref (.bx 6) 0 [] (.agg [ji r14,zh (.at 28 []) (x141:NL (Int×Int))])),(7,ji r111.1),(8,jb r112.1),(9,ji x142)] s→c5 x138 x139 x140 x141 x142=some r→Run D σ (R39 r) (.run Wq [.lp Wq,.bk 1,.bk 0,.sq Jz]) s) (x190:(NL (Int×Int))) (s:Nat→V) (hs:zB [(0,bC r186.2),(4,bZ 4),(5,ji r14),(6,.ref (.bx 6) 0 [] (.agg [ji r14,zh (.at 28 []) (x190:NL (Int×Int))])),(7,ji r111.1),(8,jb r112.1),(9,ji x142)] s) (h:uL F r186 r14 r111 r112 x142 c5 x190=some r):Run D σ (R39 r) (.nrm [.bk 2,.sq L9,.lp Wq,.bk 1,.bk 0,.sq Jz]) s:=by
 unfold uL at h
 obtain ⟨h0,h4,h5,h6,h7,h8,h9⟩:=hs
 refine .nbk (.nsq (rg (gm h9 fun h40=>g1 40 (ji (w64 (x142 + 1))) h40 fun h41=>gm h41 fun h9=>gq (.nlp ?_))))
 exact Hc5 r186.2.a r186.2.b r186.2.c.v x190 (w64 (x142 + 1)) _ ⟨h0,h4,h5,h6,h7,h8,h9⟩ h
def xT (F:Nat) (r186:(Int×CU)) (r14:Int) (x175:(NL (Int×Int))) (r111:(Int×CU)) (r112:(Bool×CU)) (x142:Int) (c5:LB→Int→Int→(NL (Int×Int))→Int→Option (GR×CU)) (x188:Bool):Option (GR×CU):=
 bif x188 then
  (Yr F x175.list (r186.1,x142)).bind fun r191=>
  uL F r186 r14 r111 r112 x142 c5 r191
 else
  uL F r186 r14 r111 r112 x142 c5 x175
theorem Nu (H:H39 D σ F) (r186:(Int×CU)) (r14:Int) (x175:(NL (Int×Int))) (r111:(Int×CU)) (r112:(Bool×CU)) (x142:Int) (c5:LB→Int→Int→(NL (Int×Int))→Int→Option (GR×CU)) (Hc5:∀ (x138:LB) (x139:Int) (x140:Int) (x141:(NL (Int×Int))) (x142:Int) (s:Nat→V),zB [(0,.ref (.bx zP) 0 [] (.agg [eB x138,ji x139,.int .u64 x140])),(4,bZ 4),(5,ji r14),(6,.ref (.bx 6) 0 [] (.agg [ji r14,zh (.at 28 []) (x141:NL (Int×Int))])),(7,ji r111.1),(8,jb r112.1),(9,ji x142)] s→c5 x138 x139 x140 x141 x142=some r→Run D σ (R39 r) (.run Wq [.lp Wq,.bk 1,.bk 0,.sq Jz]) s) (x188:Bool) (s:Nat→V) (hs:zB [(0,bC r186.2),(4,bZ 4),(5,ji r14),(6,.ref (.bx 6) 0 [] (.agg [ji r14,zh (.at 28 []) (x175:NL (Int×Int))])),(7,ji r111.1),(8,jb r112.1),(9,ji x142),(11,ji r186.1),(76,jb x188)] s) (h:xT F r186 r14 x175 r111 r112 x142 c5 x188=some r):Run D σ (R39 r) (.nrm [.sq zhh,.bk 2,.sq L9,.lp Wq,.bk 1,.bk 0,.sq Jz]) s:=by
 unfold xT at h
 obtain ⟨h0,h4,h5,h6,h7,h8,h9,h11,h76⟩:=hs
 refine .nsq (zu h76 h (fun h=>?_) (fun h=>?_))
 · refine zC (yc ?_)
   refine ez [(0,_),(4,_),(5,_),(6,_),(7,_),(8,_),(9,_),(11,_),(82,_)] ⟨za h0 rfl (zi rfl ue),za h4 rfl (zi rfl (mIx rfl)),za h5 rfl mi,za h6 rfl (zi rfl (zr (zc mi (zc (zm (r:=28) (p:=[]) rfl rfl) zk)))),za h7 rfl mi,za h8 rfl mb,za h9 rfl mi,za h11 rfl mi,zg rfl⟩ ?_
   rintro s ⟨h0,h4,h5,h6,h7,h8,h9,h11,h82⟩
   refine g1 6 (.ref (.bx 6) 0 [1] (zh (.at 28 []) (x175:NL (Int×Int)))) h6 fun h77=>gv (zh (.at 28 []) (x175:NL (Int×Int))) (xm h77 w7) fun h78=>gm h11 fun h79=>gm h9 fun h80=>g2 79 80 (.agg [ji r186.1,ji x142]) h79 h80 fun h81=>?_
   obtain ⟨r191,Er191,h⟩:=zd h
   refine YO (m:=1) (al:=false) (r:=zh .sh (r191:NL (Int×Int))) (v:=zh (.at 82 []) (r191:NL (Int×Int))) (kk:=1000000072) [eP x175.list,enc ((r186.1,x142):(Int×Int))] (zl h78 YP (ug (o:=x175)) (zl h81 rfl (erase_enc ((r186.1,x142):(Int×Int))) zJ)) (H.c72o _ _ _ Er191) H.g72o rfl vH uK YP h82 (g1 6 (.ref (.bx 6) 0 [1] (zh (.at 28 []) (x175:NL (Int×Int)))) h6 fun h83=>zQ (zh (.at 82 []) (r191:NL (Int×Int))) (zx h83 rfl) (zx rfl YP) ⟨by decide,by decide,K3,UQ,UQ,ui rfl rfl⟩ (xf (uq (x:=28) (fun s202 hx_202 hd_202=>?_))))
   refine yR (r:=82) (x:=28) (v:=_) (by exact hx_202) rfl (fun s203 hz203=>?_)
   refine ez [(0,bC r186.2),(4,bZ 4),(5,ji r14),(6,.ref (.bx 6) 0 [] (.agg [ji r14,zh (.at 28 []) (r191:NL (Int×Int))])),(7,ji r111.1),(8,jb r112.1),(9,ji x142)] ⟨hz203 0 _ _ (show s202 0=(bC r186.2) from (hd_202 0 (by decide)).trans (zb h0 (zj rfl rfl Uw))) (zi rfl ue),hz203 4 _ _ (show s202 4=(bZ 4) from (hd_202 4 (by decide)).trans (zb h4 (zj rfl rfl (zK (zf rfl (zf rfl rfl)))))) (zi rfl (mIx rfl)),hz203 5 _ _ (show s202 5=(ji r14) from (hd_202 5 (by decide)).trans (zb h5 rfl)) mi,hz203 6 _ (.ref (.bx 6) 0 [] (.agg [ji r14,zh (.at 28 []) (r191:NL (Int×Int))])) (show s202 6=(.ref (.bx 6) 0 [] (.agg [ji r14,zh (.at 82 []) (r191:NL (Int×Int))])) from (hd_202 6 (by decide)).trans (zb h6 (u6 (zf rfl (zf (yg rfl rfl) rfl))))) (zi rfl (zr (zc mi (zc (zm (r:=82) (p:=[]) rfl rfl) zk)))),hz203 7 _ _ (show s202 7=(ji r111.1) from (hd_202 7 (by decide)).trans (zb h7 rfl)) mi,hz203 8 _ _ (show s202 8=(jb r112.1) from (hd_202 8 (by decide)).trans (zb h8 rfl)) mb,hz203 9 _ _ (show s202 9=(ji x142) from (hd_202 9 (by decide)).trans (zb h9 rfl)) mi⟩ ?_
   rintro s ⟨h0,h4,h5,h6,h7,h8,h9⟩
   exact zco H r186 r14 r111 r112 x142 c5 Hc5 r191 _ ⟨h0,h4,h5,h6,h7,h8,h9⟩ h
 refine .skip ?_
 exact zco H r186 r14 r111 r112 x142 c5 Hc5 x175 _ ⟨h0,h4,h5,h6,h7,h8,h9⟩ h
def yZ (F:Nat) (r14:Int) (r111:(Int×CU)) (r112:(Bool×CU)) (x142:Int) (c5:LB→Int→Int→(NL (Int×Int))→Int→Option (GR×CU)):Nat→LB→Int→Int→(NL (Int×Int))→Int→Option (GR×CU)
 | 0,_,_,_,_,_=>none
 | k + 1,x172,x173,x174,x175,x176=>
   bif decide (x176 < r14) then
    (yj F (cu x172 x173 x174) r111.1).bind fun r181=>
    bif (r181.1 == 0) then
     (Yr F x175.list (x142,x176)).bind fun r184=>
     uI F r181 r14 r111 r112 x142 x176 c5 (yZ F r14 r111 r112 x142 c5 k) r184
    else
     uI F r181 r14 r111 r112 x142 x176 c5 (yZ F r14 r111 r112 x142 c5 k) x175
   else
    (YG F x142 1).bind fun r185=>
    (yj F (cu x172 x173 x174) r185).bind fun r186=>
    bif decide (x142 > 0) then
     bif (!r112.1) then
      (Xl F (r14,x175.list) x142 r186.1).bind fun r192=>
      xT F r186 r14 x175 r111 r112 x142 c5 (!r192)
     else
      xT F r186 r14 x175 r111 r112 x142 c5 false
    else
     xT F r186 r14 x175 r111 r112 x142 c5 false
theorem zh2 (H:H39 D σ F) (r14:Int) (r111:(Int×CU)) (r112:(Bool×CU)) (x142:Int) (c5:LB→Int→Int→(NL (Int×Int))→Int→Option (GR×CU)) (Hc5:∀ (x138:LB) (x139:Int) (x140:Int) (x141:(NL (Int×Int))) (x142:Int) (s:Nat→V),zB [(0,.ref (.bx zP) 0 [] (.agg [eB x138,ji x139,.int .u64 x140])),(4,bZ 4),(5,ji r14),(6,.ref (.bx 6) 0 [] (.agg [ji r14,zh (.at 28 []) (x141:NL (Int×Int))])),(7,ji r111.1),(8,jb r112.1),(9,ji x142)] s→c5 x138 x139 x140 x141 x142=some r→Run D σ (R39 r) (.run Wq [.lp Wq,.bk 1,.bk 0,.sq Jz]) s):∀ (k:Nat) (x172:LB) (x173:Int) (x174:Int) (x175:(NL (Int×Int))) (x176:Int) (s:Nat→V),zB [(0,.ref (.bx zP) 0 [] (.agg [eB x172,ji x173,.int .u64 x174])),(4,bZ 4),(5,ji r14),(6,.ref (.bx 6) 0 [] (.agg [ji r14,zh (.at 28 []) (x175:NL (Int×Int))])),(7,ji r111.1),(8,jb r112.1),(9,ji x142),(10,ji x176)] s→yZ F r14 r111 r112 x142 c5 k x172 x173 x174 x175 x176=some r→Run D σ (R39 r) (.run QA [.lp QA,.bk 3,.sq zax,.bk 2,.sq L9,.lp Wq,.bk 1,.bk 0,.sq Jz]) s:=by
 intro k
 induction k with
 | zero=>intro x172 x173 x174 x175 x176 s _ h;exact nm h
 | succ k ih=>
   intro x172 x173 x174 x175 x176 s hs h
   rw [yZ] at h
   obtain ⟨h0,h4,h5,h6,h7,h8,h9,h10⟩:=hs
   refine .seq (.seq (rg (gm h10 fun h44=>gm h5 fun h45=>g2 44 45 (jb (decide (x176 < r14))) h44 h45 fun h46=>gq (.nsq (zu h46 h (fun h=>?_) (fun h=>?_))))))
   · refine .skip (.nsq (.seq (.block (.seq (rg (gm h0 fun h49=>gm h7 fun h50=>?_))))))
     obtain ⟨r181,Er181,h⟩:=zd h
     refine vJ (r:=zP) (b:=0) (x:=((S3.mk x172 x173 (Kd.mk x174:Kd .u64)):CU)) (x':=r181.2) (vs:=[enc (r111.1:Int)]) (res:=enc (r181.1:Int)) h0 (by exact (zL (v:=cuV zP ((S3.mk x172 x173 (Kd.mk x174:Kd .u64)):CU)) h49 rfl (zL (v:=enc (r111.1:Int)) h50 rfl yQ))) (yh te yz) fm1 (H.c20 _ _ _ Er181) H.g20 te rfl (fun s190 hb190 ha190=>g1 51 (jb (r181.1 == 0)) (rf (ji r181.1)) fun h52=>?_)
     refine gz [(0,_),(4,bZ 4),(5,ji r14),(6,.ref (.bx 6) 0 [] (.agg [ji r14,zh (.at 28 []) (x175:NL (Int×Int))])),(7,ji r111.1),(8,jb r112.1),(9,ji x142),(10,ji x176),(52,_)] ⟨(show s190 0=(bC r181.2) from hb190 0 h0),(show s190 4=(bZ 4) from ha190 4 _ _ h4 rfl (zi rfl (mIx rfl))),(show s190 5=(ji r14) from ha190 5 _ _ h5 rfl mi),(show s190 6=(.ref (.bx 6) 0 [] (.agg [ji r14,zh (.at 28 []) (x175:NL (Int×Int))])) from ha190 6 _ _ h6 rfl (zi rfl (zr (zc mi (zc (zm (r:=28) (p:=[]) rfl rfl) zk))))),(show s190 7=(ji r111.1) from ha190 7 _ _ h7 rfl mi),(show s190 8=(jb r112.1) from ha190 8 _ _ h8 rfl mb),(show s190 9=(ji x142) from ha190 9 _ _ h9 rfl mi),(show s190 10=(ji x176) from ha190 10 _ _ h10 rfl mi),h52⟩ ?_
     rintro s ⟨h0,h4,h5,h6,h7,h8,h9,h10,h52⟩
     refine .nsq (zu h52 h (fun h=>?_) (fun h=>?_))
     · refine zC (yc ?_)
       refine ez [(0,_),(4,_),(5,_),(6,_),(7,_),(8,_),(9,_),(10,_),(58,_)] ⟨za h0 rfl (zi rfl ue),za h4 rfl (zi rfl (mIx rfl)),za h5 rfl mi,za h6 rfl (zi rfl (zr (zc mi (zc (zm (r:=28) (p:=[]) rfl rfl) zk)))),za h7 rfl mi,za h8 rfl mb,za h9 rfl mi,za h10 rfl mi,zg rfl⟩ ?_
       rintro s ⟨h0,h4,h5,h6,h7,h8,h9,h10,h58⟩
       refine g1 6 (.ref (.bx 6) 0 [1] (zh (.at 28 []) (x175:NL (Int×Int)))) h6 fun h53=>gv (zh (.at 28 []) (x175:NL (Int×Int))) (xm h53 w7) fun h54=>gm h9 fun h55=>gm h10 fun h56=>g2 55 56 (.agg [ji x142,ji x176]) h55 h56 fun h57=>?_
       obtain ⟨r184,Er184,h⟩:=zd h
       refine YO (m:=1) (al:=false) (r:=zh .sh (r184:NL (Int×Int))) (v:=zh (.at 58 []) (r184:NL (Int×Int))) (kk:=1000000072) [eP x175.list,enc ((x142,x176):(Int×Int))] (zl h54 YP (ug (o:=x175)) (zl h57 rfl (erase_enc ((x142,x176):(Int×Int))) zJ)) (H.c72o _ _ _ Er184) H.g72o rfl vH uK YP h58 (g1 6 (.ref (.bx 6) 0 [1] (zh (.at 28 []) (x175:NL (Int×Int)))) h6 fun h59=>zQ (zh (.at 58 []) (r184:NL (Int×Int))) (zx h59 rfl) (zx rfl YP) ⟨by decide,by decide,K3,UQ,UQ,ui rfl rfl⟩ (xf (uq (x:=28) (fun s195 hx_195 hd_195=>?_))))
       refine yR (r:=58) (x:=28) (v:=_) (by exact hx_195) rfl (fun s196 hz196=>?_)
       refine ez [(0,bC r181.2),(4,bZ 4),(5,ji r14),(6,.ref (.bx 6) 0 [] (.agg [ji r14,zh (.at 28 []) (r184:NL (Int×Int))])),(7,ji r111.1),(8,jb r112.1),(9,ji x142),(10,ji x176)] ⟨hz196 0 _ _ (show s195 0=(bC r181.2) from (hd_195 0 (by decide)).trans (zb h0 (zj rfl rfl Uw))) (zi rfl ue),hz196 4 _ _ (show s195 4=(bZ 4) from (hd_195 4 (by decide)).trans (zb h4 (zj rfl rfl (zK (zf rfl (zf rfl rfl)))))) (zi rfl (mIx rfl)),hz196 5 _ _ (show s195 5=(ji r14) from (hd_195 5 (by decide)).trans (zb h5 rfl)) mi,hz196 6 _ (.ref (.bx 6) 0 [] (.agg [ji r14,zh (.at 28 []) (r184:NL (Int×Int))])) (show s195 6=(.ref (.bx 6) 0 [] (.agg [ji r14,zh (.at 58 []) (r184:NL (Int×Int))])) from (hd_195 6 (by decide)).trans (zb h6 (u6 (zf rfl (zf (yg rfl rfl) rfl))))) (zi rfl (zr (zc mi (zc (zm (r:=58) (p:=[]) rfl rfl) zk)))),hz196 7 _ _ (show s195 7=(ji r111.1) from (hd_195 7 (by decide)).trans (zb h7 rfl)) mi,hz196 8 _ _ (show s195 8=(jb r112.1) from (hd_195 8 (by decide)).trans (zb h8 rfl)) mb,hz196 9 _ _ (show s195 9=(ji x142) from (hd_195 9 (by decide)).trans (zb h9 rfl)) mi,hz196 10 _ _ (show s195 10=(ji x176) from (hd_195 10 (by decide)).trans (zb h10 rfl)) mi⟩ ?_
       rintro s ⟨h0,h4,h5,h6,h7,h8,h9,h10⟩
       exact zdl H r181 r14 r111 r112 x142 x176 c5 Hc5 (yZ F r14 r111 r112 x142 c5 k) ih r184 _ ⟨h0,h4,h5,h6,h7,h8,h9,h10⟩ h
     refine .skip ?_
     exact zdl H r181 r14 r111 r112 x142 x176 c5 Hc5 (yZ F r14 r111 r112 x142 c5 k) ih x175 _ ⟨h0,h4,h5,h6,h7,h8,h9,h10⟩ h
   refine .exit (.esq (.elp (.ebk (.nsq (.seq (rg (gm h0 fun h60=>gm h9 fun h61=>?_)))))))
   obtain ⟨r185,Er185,h⟩:=zd h
   refine gcF [enc (x142:Int),enc (1:Int)] (zl h61 rfl rfl (zl (v:=ji 1) rfl rfl rfl zJ)) (H.c26 _ _ _ Er185) H.g26 ?_
   obtain ⟨r186,Er186,h⟩:=zd h
   refine vJ (r:=zP) (b:=0) (x:=((S3.mk x172 x173 (Kd.mk x174:Kd .u64)):CU)) (x':=r186.2) (vs:=[enc (r185:Int)]) (res:=enc (r186.1:Int)) h0 (by exact (zL (v:=cuV zP ((S3.mk x172 x173 (Kd.mk x174:Kd .u64)):CU)) h60 rfl (zL (v:=enc (r185:Int)) rfl rfl yQ))) (yh te yz) fm1 (H.c20 _ _ _ Er186) H.g20 te rfl (fun s197 hb197 ha197=>gm (rf (ji r186.1)) fun h11=>?_)
   refine gz [(0,_),(4,bZ 4),(5,ji r14),(6,.ref (.bx 6) 0 [] (.agg [ji r14,zh (.at 28 []) (x175:NL (Int×Int))])),(7,ji r111.1),(8,jb r112.1),(9,ji x142),(11,_)] ⟨(show s197 0=(bC r186.2) from hb197 0 h0),(show s197 4=(bZ 4) from ha197 4 _ _ h4 rfl (zi rfl (mIx rfl))),(show s197 5=(ji r14) from ha197 5 _ _ h5 rfl mi),(show s197 6=(.ref (.bx 6) 0 [] (.agg [ji r14,zh (.at 28 []) (x175:NL (Int×Int))])) from ha197 6 _ _ h6 rfl (zi rfl (zr (zc mi (zc (zm (r:=28) (p:=[]) rfl rfl) zk))))),(show s197 7=(ji r111.1) from ha197 7 _ _ h7 rfl mi),(show s197 8=(jb r112.1) from ha197 8 _ _ h8 rfl mb),(show s197 9=(ji x142) from ha197 9 _ _ h9 rfl mi),h11⟩ ?_
   rintro s ⟨h0,h4,h5,h6,h7,h8,h9,h11⟩
   refine .nsq (.seq (rg (gm h9 fun h64=>g1 64 (jb (decide (x142 > 0))) h64 fun h65=>gm h65 fun h66=>yd h (fun hg3 h=>?_) (fun hg3 h=>?_))))
   · refine zt (ct h66 hg3) (gm h8 fun h67=>zt (ct h66 hg3) (g1 67 (jb (!r112.1)) h67 fun h68=>g2 66 68 (jb (!r112.1)) (ct h66 hg3) h68 fun h69=>gm h69 fun h70=>yd h (fun hg7 h=>?_) (fun hg7 h=>?_)))
     · refine zt (ct h70 hg7) (gv (.agg [ji r14,zh (.at 28 []) (x175:NL (Int×Int))]) (xm (c:=.agg [ji r14,zh (.at 28 []) (x175:NL (Int×Int))]) h6 (by simp [V.shape,V.shapes,zG,Sh.beq,Sh.beqs])) fun h71=>zt (ct h70 hg7) (gm h9 fun h72=>zt (ct h70 hg7) (gm h11 fun h73=>?_)))
       obtain ⟨r192,Er192,h⟩:=zd h
       refine zt (ct h70 hg7) (gcF [enc ((r14,x175.list):GR),enc (x142:Int),enc (r186.1:Int)] (zl h71 rfl (zgX (vg rfl (vg (ug (o:=x175)) xD))) (zl h72 rfl rfl (zl h73 rfl rfl zJ))) (H.c73 _ _ _ _ Er192) H.g73 (zt (ct h70 hg7) (g1 74 (jb (!r192)) (rf (jb r192)) fun h75=>g2 70 75 (jb (!r192)) (ct h70 hg7) h75 fun h76=>gq ?_)))
       exact Nu H r186 r14 x175 r111 r112 x142 c5 Hc5 (!r192) _ ⟨h0,h4,h5,h6,h7,h8,h9,h11,h76⟩ h
     iterate 5 refine yq (ct h70 hg7) ?_
     refine g2 70 75 (jb false) (ct h70 hg7) (rf (.tup [])) fun h76=>gq ?_
     exact Nu H r186 r14 x175 r111 r112 x142 c5 Hc5 false _ ⟨h0,h4,h5,h6,h7,h8,h9,h11,h76⟩ h
   iterate 2 refine yq (ct h66 hg3) ?_
   refine g2 66 68 (jb false) (ct h66 hg3) (rf (.tup [])) fun h69=>gm h69 fun h70=>yq h70 ?_
   iterate 4 refine yq h70 ?_
   refine g2 70 75 (jb false) h70 (rf (.tup [])) fun h76=>gq ?_
   exact Nu H r186 r14 x175 r111 r112 x142 c5 Hc5 false _ ⟨h0,h4,h5,h6,h7,h8,h9,h11,h76⟩ h
def xS (F:Nat) (r14:Int) (r111:(Int×CU)) (r112:(Bool×CU)) :Nat→LB→Int→Int→(NL (Int×Int))→Int→Option (GR×CU)
 | 0,_,_,_,_,_=>none
 | k + 1,x138,x139,x140,x141,x142=>
   bif decide (x142 < r14) then
    yZ F r14 r111 r112 x142 (xS F r14 r111 r112 k) F x138 x139 x140 x141 (w64 (x142 + 1))
   else
    xz F x138 x139 x140 r14 x141
theorem zhP (H:H39 D σ F) (r14:Int) (r111:(Int×CU)) (r112:(Bool×CU)) :∀ (k:Nat) (x138:LB) (x139:Int) (x140:Int) (x141:(NL (Int×Int))) (x142:Int) (s:Nat→V),zB [(0,.ref (.bx zP) 0 [] (.agg [eB x138,ji x139,.int .u64 x140])),(4,bZ 4),(5,ji r14),(6,.ref (.bx 6) 0 [] (.agg [ji r14,zh (.at 28 []) (x141:NL (Int×Int))])),(7,ji r111.1),(8,jb r112.1),(9,ji x142)] s→xS F r14 r111 r112 k x138 x139 x140 x141 x142=some r→Run D σ (R39 r) (.run Wq [.lp Wq,.bk 1,.bk 0,.sq Jz]) s:=by
 intro k
 induction k with
 | zero=>intro x138 x139 x140 x141 x142 s _ h;exact nm h
 | succ k ih=>
   intro x138 x139 x140 x141 x142 s hs h
   rw [xS] at h
   obtain ⟨h0,h4,h5,h6,h7,h8,h9⟩:=hs
   refine .seq (.seq (rg (gm h9 fun h37=>gm h5 fun h38=>g2 37 38 (jb (decide (x142 < r14))) h37 h38 fun h39=>gq (.nsq (zu h39 h (fun h=>?_) (fun h=>?_))))))
   · refine .skip (.nsq (.seq (.block (.seq (.seq (rg (gm h9 fun h42=>g1 42 (ji (w64 (x142 + 1))) h42 fun h43=>gm h43 fun h10=>gq (.nsq (.block (.loop ?_))))))))))
     exact zh2 H r14 r111 r112 x142 (xS F r14 r111 r112 k) ih F x138 x139 x140 x141 (w64 (x142 + 1)) _ ⟨h0,h4,h5,h6,h7,h8,h9,h10⟩ h
   refine .exit (.esq (.elp (.ebk ?_)))
   exact J7 H x138 x139 x140 r14 x141 _ ⟨h0,h4,h6⟩ h
def wW (F:Nat) (x2:Int)  (x10:LB) (x11:Int) (x12:Int) (x13:Int):Option (GR×CU):=
 (ZM F x13 x2).bind fun r14=>
 (yj F (cu x10 x11 x12) 8).bind fun r15=>
 bif (r15.1 == 0) then
  (YZ F r14).bind fun r108=>
  xz F r15.2.a r15.2.b r15.2.c.v r108.1 r108.2
 else
  bif (r15.1 == 1) then
   bif decide (r14 > 2) then
    (Ya F r14).bind fun r109=>
    xz F r15.2.a r15.2.b r15.2.c.v r109.1 r109.2
   else
    xz F r15.2.a r15.2.b r15.2.c.v r14 (.of [])
  else
   bif (r15.1 == 2) then
    (Zj F r14).bind fun r110=>
    xz F r15.2.a r15.2.b r15.2.c.v r110.1 r110.2
   else
    (xx F (Cu.mk r15.2) [3,4,6]).bind fun r111=>
    (wF F (Cu.mk r111.2) 6).bind fun r112=>
    xS F r14 r111 r112 F r112.2.a r112.2.b r112.2.c.v (.of []) 0
theorem zcR (H:H39 D σ F) (x2:Int)  (x10:LB) (x11:Int) (x12:Int) (x13:Int) (s:Nat→V) (hs:zB [(0,.ref (.bx zP) 0 [] (.agg [eB x10,ji x11,.int .u64 x12])),(1,ji x2),(4,bZ 4),(5,ji x13)] s) (h:wW F x2  x10 x11 x12 x13=some r):Run D σ (R39 r) (.nrm [.sq zd6]) s:=by
 unfold wW at h
 obtain ⟨h0,h1,h4,h5⟩:=hs
 refine .nsq (.seq (rg (gm h5 fun h24=>gm h1 fun h25=>?_)))
 obtain ⟨r14,Er14,h⟩:=zd h
 refine gcF [enc (x13:Int),enc (x2:Int)] (zl h24 rfl rfl (zl h25 rfl rfl zJ)) (H.c40 _ _ _ Er14) H.g40 (gm (rf (ji r14)) fun h5=>gq (.nsq (.seq (zC (yc ?_)))))
 refine ez [(0,_),(4,_),(5,_),(6,_),(28,_)] ⟨za h0 rfl (zi rfl ue),za h4 rfl (zi rfl (mIx rfl)),za h5 rfl mi,zg rfl,zg rfl⟩ ?_
 rintro s ⟨h0,h4,h5,h6,h28⟩
 refine gm h5 fun h27=>xv [] [] trivial rfl rfl h28 (g2 27 28 (.agg [ji r14,zh (.at 28 []) (.of ([]:TP))]) h27 (rf (zh (.at 28 []) (.of ([]:TP)))) fun h29=>y6 h6 (zQ (.agg [ji r14,zh (.at 28 []) (.of ([]:TP))]) (zx rfl rfl) (zx h29 rfl) (xr (by first | rfl | simp [V.toks,V.tokss,toks_enc,zN])) (gz [(0,.ref (.bx zP) 0 [] (.agg [eB x10,ji x11,.int .u64 x12])),(4,bZ 4),(5,ji r14),(6,.ref (.bx 6) 0 [] (.agg [ji r14,zh (.at 28 []) (.of ([]:TP))]))] ⟨zb h0 (zj rfl rfl Uw),zb h4 (zj rfl rfl (zK (zf rfl (zf rfl rfl)))),zb h5 rfl,zb rfl rfl⟩ ?_)))
 rintro s ⟨h0,h4,h5,h6⟩
 refine .nsq (.seq (.seq (rg (gm h0 fun h30=>?_))))
 obtain ⟨r15,Er15,h⟩:=zd h
 refine vJ (r:=zP) (b:=0) (x:=((S3.mk x10 x11 (Kd.mk x12:Kd .u64)):CU)) (x':=r15.2) (vs:=[enc (8:Int)]) (res:=enc (r15.1:Int)) h0 (by exact (zL (v:=cuV zP ((S3.mk x10 x11 (Kd.mk x12:Kd .u64)):CU)) h30 rfl (zL (v:=enc (8:Int)) rfl rfl yQ))) (yh te yz) fm1 (H.c20 _ _ _ Er15) H.g20 te rfl (fun s8 hb8 ha8=>?_)
 refine gz [(0,_),(4,bZ 4),(5,ji r14),(6,.ref (.bx 6) 0 [] (.agg [ji r14,zh (.at 28 []) (.of ([]:TP))])),(31,ji r15.1)] ⟨(show s8 0=(bC r15.2) from hb8 0 h0),(show s8 4=(bZ 4) from ha8 4 _ _ h4 rfl (zi rfl (mIx rfl))),(show s8 5=(ji r14) from ha8 5 _ _ h5 rfl mi),(show s8 6=(.ref (.bx 6) 0 [] (.agg [ji r14,zh (.at 28 []) (.of ([]:TP))])) from ha8 6 _ _ h6 rfl (zi rfl (zr (zc mi (zc (zm (r:=28) (p:=[]) rfl rfl) zk))))),rfl⟩ ?_
 rintro s ⟨h0,h4,h5,h6,h31⟩
 refine .nsq (.block (.seq (rg (g1 31 (jb (r15.1 == 0)) h31 fun h85=>gm h85 fun h84=>gq (.nsq (zu h84 h (fun h=>?_) (fun h=>?_)))))))
 · refine zC (yc ?_)
   refine ez [(0,_),(4,_),(5,_),(6,_),(87,_)] ⟨za h0 rfl (zi rfl ue),za h4 rfl (zi rfl (mIx rfl)),za h5 rfl mi,za h6 rfl (zi rfl (zr (zc mi (zc (zm (r:=28) (p:=[]) rfl rfl) zk)))),zg rfl⟩ ?_
   rintro s ⟨h0,h4,h5,h6,h87⟩
   refine gm h5 fun h86=>?_
   obtain ⟨r108,Er108,h⟩:=zd h
   refine YO (m:=1) (al:=false) (r:=.agg [enc (r108.1:Int),zh .sh (r108.2:NL (Int×Int))]) (v:=.agg [ji r108.1,zh (.at 87 [1]) (r108.2:NL (Int×Int))]) (kk:=1000000069) [enc (r14:Int)] (zl h86 rfl rfl zJ) (H.c69o _ _ Er108) H.g69o rfl (WR (yh rfl (yh vH yz))) (Jr (vm rfl (vm uK We))) rfl h87 ?_
   refine zQ (.agg [ji r108.1,zh (.at 87 [1]) (r108.2:NL (Int×Int))]) (zx h6 rfl) (zx rfl rfl) ⟨by decide,by decide,rfl,(by simp [V.shape,V.shapes,zG,Sh.beq,Sh.beqs]),(by simp [V.shape,V.shapes,zG,Sh.beq,Sh.beqs]),(by simp [V.toks,V.tokss,zN])⟩ (xf (uq (x:=28) (fun s108 hx_108 hd_108=>zcv (x:=28) (q:=87) (p:=[1]) (v:=.dead) (by exact hx_108) rfl (fun s109 hz109=>?_))))
   refine ez [(0,bC r15.2),(4,bZ 4),(6,.ref (.bx 6) 0 [] (.agg [ji r108.1,zh (.at 28 []) (r108.2:NL (Int×Int))]))] ⟨hz109 0 _ (bC r15.2) (show s108 0=(bC r15.2) from (hd_108 0 (by decide)).trans (zb h0 (zj rfl rfl Uw))) (zi rfl ue),hz109 4 _ (bZ 4) (show s108 4=(bZ 4) from (hd_108 4 (by decide)).trans (zb h4 (zj rfl rfl (zK (zf rfl (zf rfl rfl)))))) (zi rfl (mIx rfl)),hz109 6 _ (.ref (.bx 6) 0 [] (.agg [ji r108.1,zh (.at 28 []) (r108.2:NL (Int×Int))])) (show s108 6=(.ref (.bx 6) 0 [] (.agg [ji r108.1,zh (.at 87 [1]) (r108.2:NL (Int×Int))])) from (hd_108 6 (by decide)).trans (zb h6 rfl)) (zi rfl (zr (zc mi (zc (zm (r:=87) (p:=[1]) rfl rfl) zk))))⟩ ?_
   rintro s ⟨h0,h4,h6⟩
   exact J7 H r15.2.a r15.2.b r15.2.c.v r108.1 r108.2 _ ⟨h0,h4,h6⟩ h
 refine .seq (rg (g1 31 (jb (r15.1 == 1)) h31 fun h89=>gm h89 fun h88=>gq (.nsq (zu h88 h (fun h=>?_) (fun h=>?_)))))
 · refine .seq (rg (gm h5 fun h90=>g1 90 (jb (decide (r14 > 2))) h90 fun h91=>gq (.nsq (zu h91 h (fun h=>?_) (fun h=>?_)))))
   · refine zC (yc ?_)
     refine ez [(0,_),(4,_),(5,_),(6,_),(93,_)] ⟨za h0 rfl (zi rfl ue),za h4 rfl (zi rfl (mIx rfl)),za h5 rfl mi,za h6 rfl (zi rfl (zr (zc mi (zc (zm (r:=28) (p:=[]) rfl rfl) zk)))),zg rfl⟩ ?_
     rintro s ⟨h0,h4,h5,h6,h93⟩
     refine gm h5 fun h92=>?_
     obtain ⟨r109,Er109,h⟩:=zd h
     refine YO (m:=1) (al:=false) (r:=.agg [enc (r109.1:Int),zh .sh (r109.2:NL (Int×Int))]) (v:=.agg [ji r109.1,zh (.at 93 [1]) (r109.2:NL (Int×Int))]) (kk:=1000000070) [enc (r14:Int)] (zl h92 rfl rfl zJ) (H.c70o _ _ Er109) H.g70o rfl (WR (yh rfl (yh vH yz))) (Jr (vm rfl (vm uK We))) rfl h93 ?_
     refine zQ (.agg [ji r109.1,zh (.at 93 [1]) (r109.2:NL (Int×Int))]) (zx h6 rfl) (zx rfl rfl) ⟨by decide,by decide,rfl,(by simp [V.shape,V.shapes,zG,Sh.beq,Sh.beqs]),(by simp [V.shape,V.shapes,zG,Sh.beq,Sh.beqs]),(by simp [V.toks,V.tokss,zN])⟩ (xf (uq (x:=28) (fun s111 hx_111 hd_111=>zcv (x:=28) (q:=93) (p:=[1]) (v:=.dead) (by exact hx_111) rfl (fun s112 hz112=>?_))))
     refine ez [(0,bC r15.2),(4,bZ 4),(6,.ref (.bx 6) 0 [] (.agg [ji r109.1,zh (.at 28 []) (r109.2:NL (Int×Int))]))] ⟨hz112 0 _ (bC r15.2) (show s111 0=(bC r15.2) from (hd_111 0 (by decide)).trans (zb h0 (zj rfl rfl Uw))) (zi rfl ue),hz112 4 _ (bZ 4) (show s111 4=(bZ 4) from (hd_111 4 (by decide)).trans (zb h4 (zj rfl rfl (zK (zf rfl (zf rfl rfl)))))) (zi rfl (mIx rfl)),hz112 6 _ (.ref (.bx 6) 0 [] (.agg [ji r109.1,zh (.at 28 []) (r109.2:NL (Int×Int))])) (show s111 6=(.ref (.bx 6) 0 [] (.agg [ji r109.1,zh (.at 93 [1]) (r109.2:NL (Int×Int))])) from (hd_111 6 (by decide)).trans (zb h6 rfl)) (zi rfl (zr (zc mi (zc (zm (r:=93) (p:=[1]) rfl rfl) zk))))⟩ ?_
     rintro s ⟨h0,h4,h6⟩
     exact J7 H r15.2.a r15.2.b r15.2.c.v r109.1 r109.2 _ ⟨h0,h4,h6⟩ h
   refine .skip ?_
   exact J7 H r15.2.a r15.2.b r15.2.c.v r14 (.of []) _ ⟨h0,h4,h6⟩ h
 refine .seq (rg (g1 31 (jb (r15.1 == 2)) h31 fun h95=>gm h95 fun h94=>gq (.nsq (zu h94 h (fun h=>?_) (fun h=>?_)))))
 · refine zC (yc ?_)
   refine ez [(0,_),(4,_),(5,_),(6,_),(97,_)] ⟨za h0 rfl (zi rfl ue),za h4 rfl (zi rfl (mIx rfl)),za h5 rfl mi,za h6 rfl (zi rfl (zr (zc mi (zc (zm (r:=28) (p:=[]) rfl rfl) zk)))),zg rfl⟩ ?_
   rintro s ⟨h0,h4,h5,h6,h97⟩
   refine gm h5 fun h96=>?_
   obtain ⟨r110,Er110,h⟩:=zd h
   refine YO (m:=1) (al:=false) (r:=.agg [enc (r110.1:Int),zh .sh (r110.2:NL (Int×Int))]) (v:=.agg [ji r110.1,zh (.at 97 [1]) (r110.2:NL (Int×Int))]) (kk:=1000000071) [enc (r14:Int)] (zl h96 rfl rfl zJ) (H.c71o _ _ Er110) H.g71o rfl (WR (yh rfl (yh vH yz))) (Jr (vm rfl (vm uK We))) rfl h97 ?_
   refine zQ (.agg [ji r110.1,zh (.at 97 [1]) (r110.2:NL (Int×Int))]) (zx h6 rfl) (zx rfl rfl) ⟨by decide,by decide,rfl,(by simp [V.shape,V.shapes,zG,Sh.beq,Sh.beqs]),(by simp [V.shape,V.shapes,zG,Sh.beq,Sh.beqs]),(by simp [V.toks,V.tokss,zN])⟩ (xf (uq (x:=28) (fun s114 hx_114 hd_114=>zcv (x:=28) (q:=97) (p:=[1]) (v:=.dead) (by exact hx_114) rfl (fun s115 hz115=>?_))))
   refine ez [(0,bC r15.2),(4,bZ 4),(6,.ref (.bx 6) 0 [] (.agg [ji r110.1,zh (.at 28 []) (r110.2:NL (Int×Int))]))] ⟨hz115 0 _ (bC r15.2) (show s114 0=(bC r15.2) from (hd_114 0 (by decide)).trans (zb h0 (zj rfl rfl Uw))) (zi rfl ue),hz115 4 _ (bZ 4) (show s114 4=(bZ 4) from (hd_114 4 (by decide)).trans (zb h4 (zj rfl rfl (zK (zf rfl (zf rfl rfl)))))) (zi rfl (mIx rfl)),hz115 6 _ (.ref (.bx 6) 0 [] (.agg [ji r110.1,zh (.at 28 []) (r110.2:NL (Int×Int))])) (show s114 6=(.ref (.bx 6) 0 [] (.agg [ji r110.1,zh (.at 97 [1]) (r110.2:NL (Int×Int))])) from (hd_114 6 (by decide)).trans (zb h6 rfl)) (zi rfl (zr (zc mi (zc (zm (r:=97) (p:=[1]) rfl rfl) zk))))⟩ ?_
   rintro s ⟨h0,h4,h6⟩
   exact J7 H r15.2.a r15.2.b r15.2.c.v r110.1 r110.2 _ ⟨h0,h4,h6⟩ h
 refine .seq (zC (yc ?_))
 refine ez [(0,_),(4,_),(5,_),(6,_),(33,_)] ⟨za h0 rfl (zi rfl ue),za h4 rfl (zi rfl (mIx rfl)),za h5 rfl mi,za h6 rfl (zi rfl (zr (zc mi (zc (zm (r:=28) (p:=[]) rfl rfl) zk)))),zg rfl⟩ ?_
 rintro s ⟨h0,h4,h5,h6,h33⟩
 refine gm h0 fun h32=>KO [] ([3,4,6]:LI) trivial rfl rfl rfl h33 (fun s117 hd_117 hl_117=>?_)
 obtain ⟨r111,Er111,h⟩:=zd h
 refine vJ (r:=zP) (b:=0) (x:=r15.2) (x':=r111.2) (vs:=[enc ([3,4,6]:LI)]) (res:=enc (r111.1:Int)) (show s117 0=(bC r15.2) from (hl_117 0 (by decide)).trans h0) (by exact (zL (v:=cuV zP r15.2) (show s117 32=(bC r15.2) from (hl_117 32 (by decide)).trans h32) rfl (zL (v:=enc ([3,4,6]:LI)) (show s117 33=(eL [3,4,6]) from hd_117) rfl yQ))) (yh te yz) fm1 (H.c42 _ _ _ Er111) H.g42 te rfl (fun s118 hb118 ha118=>gm (show s118 0=(bC r111.2) from hb118 0 (show s117 0=(bC r15.2) from (hl_117 0 (by decide)).trans h0)) fun h35=>?_)
 obtain ⟨r112,Er112,h⟩:=zd h
 refine vJ (r:=zP) (b:=0) (x:=r111.2) (x':=r112.2) (vs:=[enc (6:Int)]) (res:=enc (r112.1:Bool)) (show s118 0=(bC r111.2) from hb118 0 (show s117 0=(bC r15.2) from (hl_117 0 (by decide)).trans h0)) (by exact (zL (v:=cuV zP r111.2) h35 rfl (zL (v:=enc (6:Int)) rfl rfl yQ))) (yh te yz) fm1 (H.c41 _ _ _ Er112) H.g41 te rfl (fun s119 hb119 ha119=>gm (show s119 34=(ji r111.1) from ha119 34 (ji r111.1) _ rfl rfl mi) fun h7=>gm (rf (jb r112.1)) fun h8=>?_)
 refine gz [(0,_),(4,bZ 4),(5,ji r14),(6,.ref (.bx 6) 0 [] (.agg [ji r14,zh (.at 28 []) (.of ([]:TP))])),(7,_),(8,_)] ⟨(show s119 0=(bC r112.2) from hb119 0 (show s118 0=(bC r111.2) from hb118 0 (show s117 0=(bC r15.2) from (hl_117 0 (by decide)).trans h0))),(show s119 4=(bZ 4) from ha119 4 (bZ 4) _ (show s118 4=(bZ 4) from ha118 4 _ _ (show s117 4=(bZ 4) from (hl_117 4 (by decide)).trans h4) rfl (zi rfl (mIx rfl))) rfl (zi rfl (mIx rfl))),(show s119 5=(ji r14) from ha119 5 (ji r14) _ (show s118 5=(ji r14) from ha118 5 _ _ (show s117 5=(ji r14) from (hl_117 5 (by decide)).trans h5) rfl mi) rfl mi),(show s119 6=(.ref (.bx 6) 0 [] (.agg [ji r14,zh (.at 28 []) (.of ([]:TP))])) from ha119 6 (.ref (.bx 6) 0 [] (.agg [ji r14,zh (.at 28 []) (.of ([]:TP))])) _ (show s118 6=(.ref (.bx 6) 0 [] (.agg [ji r14,zh (.at 28 []) (.of ([]:TP))])) from ha118 6 _ _ (show s117 6=(.ref (.bx 6) 0 [] (.agg [ji r14,zh (.at 28 []) (.of ([]:TP))])) from (hl_117 6 (by decide)).trans h6) rfl (zi rfl (zr (zc mi (zc (zm (r:=28) (p:=[]) rfl rfl) zk))))) rfl (zi rfl (zr (zc mi (zc (zm (r:=28) (p:=[]) rfl rfl) zk))))),h7,h8⟩ ?_
 rintro s ⟨h0,h4,h5,h6,h7,h8⟩
 refine .nsq (.seq (rg (g0 (ji 0) fun h9=>gq (.nsq (.block (.loop ?_))))))
 exact zhP H r14 r111 r112 F r112.2.a r112.2.b r112.2.c.v (.of []) 0 _ ⟨h0,h4,h5,h6,h7,h8,h9⟩ h
def vC (F:Nat) (x2:Int) (r3:(Int×CU))  (x5:LB) (x6:Int) (x7:Int) (x8:Bool):Option (GR×CU):=
 bif x8 then
  (yj F (cu x5 x6 x7) 2).bind fun r193=>
  wW F x2 r193.2.a r193.2.b r193.2.c.v (w64 (7 + r193.1))
 else
  wW F x2 x5 x6 x7 r3.1
theorem zb8 (H:H39 D σ F) (x2:Int) (r3:(Int×CU))  (x5:LB) (x6:Int) (x7:Int) (x8:Bool) (s:Nat→V) (hs:zB [(0,.ref (.bx zP) 0 [] (.agg [eB x5,ji x6,.int .u64 x7])),(1,ji x2),(4,bZ 4),(5,ji r3.1),(20,jb x8)] s) (h:vC F x2 r3  x5 x6 x7 x8=some r):Run D σ (R39 r) (.nrm [.sq zhj,.sq zd6]) s:=by
 unfold vC at h
 obtain ⟨h0,h1,h4,h5,h20⟩:=hs
 refine .nsq (zu h20 h (fun h=>?_) (fun h=>?_))
 · refine rg (gm h0 fun h21=>?_)
   obtain ⟨r193,Er193,h⟩:=zd h
   refine vJ (r:=zP) (b:=0) (x:=((S3.mk x5 x6 (Kd.mk x7:Kd .u64)):CU)) (x':=r193.2) (vs:=[enc (2:Int)]) (res:=enc (r193.1:Int)) h0 (by exact (zL (v:=cuV zP ((S3.mk x5 x6 (Kd.mk x7:Kd .u64)):CU)) h21 rfl (zL (v:=enc (2:Int)) rfl rfl yQ))) (yh te yz) fm1 (H.c20 _ _ _ Er193) H.g20 te rfl (fun s204 hb204 ha204=>g1 22 (ji (w64 (7 + r193.1))) (rf (ji r193.1)) fun h23=>gm h23 fun h5=>gz [(0,_),(1,ji x2),(4,bZ 4),(5,_)] ⟨(show s204 0=(bC r193.2) from hb204 0 h0),(show s204 1=(ji x2) from ha204 1 _ _ h1 rfl mi),(show s204 4=(bZ 4) from ha204 4 _ _ h4 rfl (zi rfl (mIx rfl))),h5⟩ ?_)
   rintro s ⟨h0,h1,h4,h5⟩
   exact zcR H x2 r193.2.a r193.2.b r193.2.c.v (w64 (7 + r193.1)) _ ⟨h0,h1,h4,h5⟩ h
 refine .skip ?_
 exact zcR H x2 x5 x6 x7 r3.1 _ ⟨h0,h1,h4,h5⟩ h
def w8 (F:Nat) (x1:CC) (x2:Int):Option (GR×CU):=
 (xx F (Cu.mk x1.v) [4,5,3,6,2,1,0]).bind fun r3=>
 bif decide (x2 > 6) then
  (wF F (Cu.mk r3.2) 4).bind fun r194=>
  vC F x2 r3 r194.2.a r194.2.b r194.2.c.v r194.1
 else
  vC F x2 r3 r3.2.a r3.2.b r3.2.c.v false
theorem t39 (H:H39 D σ F) (x1:CC) (x2:Int) (s:Nat→V) (hs:zB [(0,bC x1.v),(1,ji x2)] s) (h:w8 F x1 x2=some r):Run D σ (R39 r) (.run A39 []) s:=by
 unfold w8 at h
 obtain ⟨h0,h1⟩:=hs
 refine .seq (zC (yc ?_))
 refine ez [(0,_),(1,_),(4,_)] ⟨za h0 rfl (zi rfl ue),za h1 rfl mi,zg rfl⟩ ?_
 rintro s ⟨h0,h1,h4⟩
 refine y6 h4 (gq (.nsq (.seq (zC (yc ?_)))))
 refine ez [(0,_),(1,_),(4,_),(13,_)] ⟨za h0 rfl (zi rfl ue),za h1 rfl mi,za rfl rfl (zi rfl (mIx rfl)),zg rfl⟩ ?_
 rintro s ⟨h0,h1,h4,h13⟩
 refine gm h0 fun h12=>KO [] ([4,5,3,6,2,1,0]:LI) trivial rfl rfl rfl h13 (fun s3 hd_3 hl_3=>?_)
 obtain ⟨r3,Er3,h⟩:=zd h
 refine vJ (r:=zP) (b:=0) (x:=x1.v) (x':=r3.2) (vs:=[enc ([4,5,3,6,2,1,0]:LI)]) (res:=enc (r3.1:Int)) (show s3 0=(bC x1.v) from (hl_3 0 (by decide)).trans h0) (by exact (zL (v:=cuV zP x1.v) (show s3 12=(bC x1.v) from (hl_3 12 (by decide)).trans h12) rfl (zL (v:=enc ([4,5,3,6,2,1,0]:LI)) (show s3 13=(eL [4,5,3,6,2,1,0]) from hd_3) rfl yQ))) (yh te yz) fm1 (H.c42 _ _ _ Er3) H.g42 te rfl (fun s4 hb4 ha4=>gm (rf (ji r3.1)) fun h5=>?_)
 refine gz [(0,_),(1,ji x2),(4,bZ 4),(5,_)] ⟨(show s4 0=(bC r3.2) from hb4 0 (show s3 0=(bC x1.v) from (hl_3 0 (by decide)).trans h0)),(show s4 1=(ji x2) from ha4 1 _ _ (show s3 1=(ji x2) from (hl_3 1 (by decide)).trans h1) rfl mi),(show s4 4=(bZ 4) from ha4 4 _ _ (show s3 4=(bZ 4) from (hl_3 4 (by decide)).trans h4) rfl (zi rfl (mIx rfl))),h5⟩ ?_
 rintro s ⟨h0,h1,h4,h5⟩
 refine .nsq (.seq (.seq (rg (gm h1 fun h15=>g1 15 (jb (decide (x2 > 6))) h15 fun h16=>gm h16 fun h17=>yd h (fun hg3 h=>?_) (fun hg3 h=>?_)))))
 · refine zt (ct h17 hg3) (gm h0 fun h18=>?_)
   obtain ⟨r194,Er194,h⟩:=zd h
   refine zt (ct h17 hg3) (vJ (r:=zP) (b:=0) (x:=r3.2) (x':=r194.2) (vs:=[enc (4:Int)]) (res:=enc (r194.1:Bool)) h0 (by exact (zL (v:=cuV zP r3.2) h18 rfl (zL (v:=enc (4:Int)) rfl rfl yQ))) (yh te yz) fm1 (H.c41 _ _ _ Er194) H.g41 te rfl (fun s205 hb205 ha205=>g2 17 19 (jb r194.1) (show s205 17=(jb true) from ha205 17 _ _ (ct h17 hg3) rfl mb) (rf (jb r194.1)) fun h20=>?_))
   refine gz [(0,_),(1,ji x2),(4,bZ 4),(5,ji r3.1),(20,_)] ⟨(show s205 0=(bC r194.2) from hb205 0 h0),(show s205 1=(ji x2) from ha205 1 _ _ h1 rfl mi),(show s205 4=(bZ 4) from ha205 4 _ _ h4 rfl (zi rfl (mIx rfl))),(show s205 5=(ji r3.1) from ha205 5 _ _ h5 rfl mi),h20⟩ ?_
   rintro s ⟨h0,h1,h4,h5,h20⟩
   exact zb8 H x2 r3 r194.2.a r194.2.b r194.2.c.v r194.1 _ ⟨h0,h1,h4,h5,h20⟩ h
 iterate 2 refine yq (ct h17 hg3) ?_
 refine g2 17 19 (jb false) (ct h17 hg3) (rf (.tup [])) fun h20=>gq ?_
 exact zb8 H x2 r3 r3.2.a r3.2.b r3.2.c.v false _ ⟨h0,h1,h4,h5,h20⟩ h
end
def e39 (F:Nat):Ent:=ent 39 (fun (x:(CC×Int×Unit))=>w8 F x.1 x.2.1) (fun (r:(GR×CU))=>(.tup [enc (r.1:GR),.tup [cuV zP r.2]])) Zc false []
abbrev C39 (D:List V→Option V) (F:Nat):Prop:=∀ (x0:CC) (x1:Int) r,w8 F x0 x1=some r→D [Arg.arg x0,enc x1]=some (.tup [enc (r.1:GR),.tup [cuV zP r.2]])
theorem p39 {F:Nat}:C39 (e39 F).den F:=fun x0 x1 _ h=>zZ (x0,x1,()) h
theorem o39 (hF:zH Tp D σ) (H:H39 D σ F):(e39 F).Ok Tp:=okZ (f:=39) Try.func39 fun ⟨x0,x1,_⟩ y hy=>cT hF Try.func39 c39 (t39 H x0 x1 _ ⟨rfl,rfl⟩ hy)
end Go.Zq
