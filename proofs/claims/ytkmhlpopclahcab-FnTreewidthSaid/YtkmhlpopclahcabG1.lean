/- Functions of the program as typed functions, and that the machine runs as they say (part 1). No further condition. -/
import Derived.Test.YtkmhlpopclahcabK4
import Derived.Test.YtkmhlpopclahcabKC
import Derived.Test.YtkmhlpopclahcabProg
import Derived.Test.YtkmhlpopclahcabChecked
import Derived.KernelRfl
set_option linter.unusedVariables false
set_option linter.unusedSimpArgs false
namespace Go.Zq
open Go.Proofs Go.Shelf
def zuU:AC:=(.seq (.reg [] [jm 3 0,jv 4 (.len (.t 3)),jv 5 (.bin .gtr (.t 4) (jn 65536)),jm 2 5] []) .ret)
def A4:AC:=(.seq (.reg [] [jv 2 (.mov kf)] []) zuU)
def an4:List An:=[]
theorem c4:cC Try.prog Try.f4.ntmps an4 (Try.f4.body.getD .skip)=some A4:=by kernel_rfl
structure H4 (D:Den) (σ:Sig) (F:Nat):Prop where
 mk ::
abbrev R4 (r:Bool):(Nat→V)→Prop:=RR Try.prog [.tmp 2] 0 false (Enc.enc (r:Bool))
section
variable {D:Den} {σ:Sig} {F:Nat} {r:Bool}
def Kx (F:Nat) (x_1:LB):Option Bool:=
 some (decide ((x_1.length:Int) > 65536))
theorem t4 (H:H4 D σ F) (x_1:LB) (s:Nat→V) (hs:zl [(0,eB x_1)] s) (h:Kx F x_1=some r):Run D σ (R4 r) (.run A4 []) s:=by
 unfold Kx at h
 have h0:=hs
 refine .seq (rg (g0 (jb false) fun h2=>gq (.nsq (.seq (rg (gm h0 fun h3=>gv (ji (x_1.length:Int)) (yu (xs:=x_1) h3) fun h4=>g1 4 (jb (decide ((x_1.length:Int) > 65536))) h4 fun h5=>gm h5 fun h2=>gq (.nsq (.ret ?_))))))))
 have hr:=Option.some.inj h
 subst hr
 exact rrA (zn h2) rfl
end
def e4 (F:Nat):Ent:=ent 4 (fun (x:(LB×Unit))=>Kx F x.1) (fun (r:Bool)=>(Enc.enc (r:Bool))) 0 false []
abbrev C4 (D:List V→Option V) (F:Nat):Prop:=∀ (x0:LB) r,Kx F x0=some r→D [Enc.enc x0]=some (Enc.enc (r:Bool))
theorem p4 {F:Nat}:C4 (e4 F).den F:=fun x0 _ h=>zN (x0,()) h
theorem o4 {D:Den} {σ:Sig} {F:Nat} (hF:zy Try.prog D σ) (H:H4 D σ F):(e4 F).Ok Try.prog:=by
 refine yl (f:=4) (show unk 4=4 from rfl) (fun args r h=>?_) ⟨Try.f4,Try.func4,rfl,rfl⟩
 obtain ⟨⟨x0,_⟩,y,rfl,hy,rfl⟩:=zM h
 exact zm hF (by kernel_rfl) Try.func4 rfl c4 (show 1≤Try.f4.ntmps by decide) (t4 H x0 _ rfl hy)
def zp9:AC:=(.cond (.t 53) (.seq (.reg [] [jm 54 3,jm 2 54] []) .ret) .skip)
def zso:AC:=(.seq (.reg [] [jm 55 0,jv 56 (.nilc (.t 55)),jv 57 (.fld (.t 56) 2 2),jv 58 (.load .s (.t 57)),jv 59 (.bin .shr (.t 58) (.k (.int .u64 (.ofNat 40)))),jv 60 (.bin .and (.t 59) (.k (.int .u64 (.ofNat 255)))),jv 61 (.conv .i64 (.t 60)),jm 2 61] []) .ret)
def zqf:AC:=(.seq (.seq (.reg [] [jm 44 0,jv 45 (.nilc (.t 44)),jv 46 (.fld (.t 45) 1 1),jv 47 (.load .s (.t 46)),jm 48 0,jv 49 (.nilc (.t 48)),jv 50 (.fld (.t 49) 0 0),jv 51 (.load .p (.t 50)),jv 52 (.len (.t 51)),jv 53 (.bin .leq (.t 47) (.t 52))] []) zp9) zso)
def zoq:AC:=(.seq (.reg [] [jm 32 0,jm 33 0,jv 34 (.nilc (.t 33)),jv 35 (.fld (.t 34) 2 2),jv 36 (.load .s (.t 35)),jv 37 (.bin .mul (.t 36) (.k (.int .u64 (.ofNat 6364136223846793005)))),jm 38 3,jv 39 (.conv .u64 (.t 38)),jv 40 (.bin .add (.t 37) (.t 39)),jv 41 (.bin .add (.t 40) (.k (.int .u64 (.ofNat 462197)))),jv 42 (.nilc (.t 32)),jv 43 (.fld (.t 42) 2 2),jz (.store .s (.t 43) (.t 41))] []) zqf)
def zlm:AC:=(.seq (.reg [] [jm 25 0,jv 26 (.nilc (.t 25)),jv 27 (.fld (.t 26) 1 1),jv 28 (.load .s (.t 27)),jv 29 (.bin .add (.t 28) (jn 1)),jv 30 (.nilc (.t 25)),jv 31 (.fld (.t 30) 1 1),jz (.store .s (.t 31) (.t 29))] []) zoq)
def zo2:AC:=(.cond (.t 13) (.reg [] [jm 14 0,jv 15 (.nilc (.t 14)),jv 16 (.fld (.t 15) 0 0),jv 17 (.load .p (.t 16)),jm 18 0,jv 19 (.nilc (.t 18)),jv 20 (.fld (.t 19) 1 1),jv 21 (.load .s (.t 20)),jv 22 (.idx (.t 17) (.t 21) 1),jv 23 (.load .s (.t 22)),jv 24 (.conv .i64 (.t 23)),jm 3 24] []) .skip)
def zp2:AC:=(.seq (.seq (.reg [] [jm 4 0,jv 5 (.nilc (.t 4)),jv 6 (.fld (.t 5) 1 1),jv 7 (.load .s (.t 6)),jm 8 0,jv 9 (.nilc (.t 8)),jv 10 (.fld (.t 9) 0 0),jv 11 (.load .p (.t 10)),jv 12 (.len (.t 11)),jv 13 (.bin .lss (.t 7) (.t 12))] []) zo2) zlm)
def zpZ:AC:=(.seq (.reg [] [jv 3 (.mov (jn 0))] []) zp2)
def A78:AC:=(.seq (.reg [] [jv 2 (.mov (jn 0))] []) zpZ)
def zuW:List An:=[]
theorem c78:cC Try.prog Try.f78.ntmps zuW (Try.f78.body.getD .skip)=some A78:=by kernel_rfl
structure H78 (D:Den) (σ:Sig) (F:Nat):Prop where
 mk ::
abbrev R78 (r:(Int×CU)):(Nat→V)→Prop:=RT Try.prog [.tmp 2] (Enc.enc (r.1:Int)) [cuV zH r.2]
section
variable {D:Den} {σ:Sig} {F:Nat} {r:(Int×CU)}
def vz (F:Nat) (x_1:CC)  (x_3:Int):Option (Int×CU):=
 bif decide ((w64 (x_1.v.b + 1))≤(x_1.v.a.length:Int)) then
  some (x_3,S3.mk x_1.v.a (w64 (x_1.v.b + 1)) (Kd.mk (IntKind.u64.wrap ((IntKind.u64.wrap ((IntKind.u64.wrap (x_1.v.c.v * 6364136223846793005)) + (IntKind.u64.wrap x_3))) + 462197)):Kd .u64))
 else
  (Wn .u64 (IntKind.u64.wrap ((IntKind.u64.wrap ((IntKind.u64.wrap (x_1.v.c.v * 6364136223846793005)) + (IntKind.u64.wrap x_3))) + 462197)) 40).bind fun q_4=>
  some (w64 (yf .u64 q_4 255),S3.mk x_1.v.a (w64 (x_1.v.b + 1)) (Kd.mk (IntKind.u64.wrap ((IntKind.u64.wrap ((IntKind.u64.wrap (x_1.v.c.v * 6364136223846793005)) + (IntKind.u64.wrap x_3))) + 462197)):Kd .u64))
theorem zbL (H:H78 D σ F) (x_1:CC)  (x_3:Int) (s:Nat→V) (hs:zl [(0,bC x_1.v),(2,ji 0),(3,ji x_3)] s) (h:vz F x_1  x_3=some r):Run D σ (R78 r) (.nrm [.sq zlm]) s:=by
 unfold vz at h
 obtain ⟨h0,h2,h3⟩:=hs
 refine .nsq (.seq (rg (gm h0 fun h25=>g1 25 (bC x_1.v) h25 fun h26=>g1 26 (.ref (.bx zH) 0 [1] (ji x_1.v.b)) h26 fun h27=>g1 27 (ji x_1.v.b) h27 fun h28=>g1 28 (ji (w64 (x_1.v.b + 1))) h28 fun h29=>g1 25 (bC x_1.v) h25 fun h30=>g1 30 (.ref (.bx zH) 0 [1] (ji x_1.v.b)) h30 fun h31=>yb (ji (w64 (x_1.v.b + 1))) (zw h31 rfl) (zw h29 rfl) (wj (by first | rfl | simp [V.toks,V.tokss,Enc.toks_enc,ya])) (gz [(0,.ref (.bx zH) 0 [] (.agg [eB x_1.v.a,ji (w64 (x_1.v.b + 1)),.int .u64 x_1.v.c.v])),(2,ji 0),(3,ji x_3)] ⟨zb h0 rfl,zb h2 rfl,zb h3 rfl⟩ ?_))))
 rintro s ⟨h0,h2,h3⟩
 refine .nsq (.seq (rg (gm h0 fun h32=>gm h0 fun h33=>g1 33 (.ref (.bx zH) 0 [] (.agg [eB x_1.v.a,ji (w64 (x_1.v.b + 1)),.int .u64 x_1.v.c.v])) h33 fun h34=>g1 34 (.ref (.bx zH) 0 [2] (.int .u64 x_1.v.c.v)) h34 fun h35=>g1 35 (.int .u64 x_1.v.c.v) h35 fun h36=>g1 36 (.int .u64 (IntKind.u64.wrap (x_1.v.c.v * 6364136223846793005))) h36 fun h37=>gm h3 fun h38=>g1 38 (.int .u64 (IntKind.u64.wrap x_3)) h38 fun h39=>g2 37 39 (.int .u64 (IntKind.u64.wrap ((IntKind.u64.wrap (x_1.v.c.v * 6364136223846793005)) + (IntKind.u64.wrap x_3)))) h37 h39 fun h40=>?_)))
 refine g1 40 (.int .u64 (IntKind.u64.wrap ((IntKind.u64.wrap ((IntKind.u64.wrap (x_1.v.c.v * 6364136223846793005)) + (IntKind.u64.wrap x_3))) + 462197))) h40 fun h41=>g1 32 (.ref (.bx zH) 0 [] (.agg [eB x_1.v.a,ji (w64 (x_1.v.b + 1)),.int .u64 x_1.v.c.v])) h32 fun h42=>g1 42 (.ref (.bx zH) 0 [2] (.int .u64 x_1.v.c.v)) h42 fun h43=>yb (.int .u64 (IntKind.u64.wrap ((IntKind.u64.wrap ((IntKind.u64.wrap (x_1.v.c.v * 6364136223846793005)) + (IntKind.u64.wrap x_3))) + 462197))) (zw h43 rfl) (zw h41 rfl) (wj (by first | rfl | simp [V.toks,V.tokss,Enc.toks_enc,ya])) ?_
 refine gz [(0,.ref (.bx zH) 0 [] (.agg [eB x_1.v.a,ji (w64 (x_1.v.b + 1)),.int .u64 (IntKind.u64.wrap ((IntKind.u64.wrap ((IntKind.u64.wrap (x_1.v.c.v * 6364136223846793005)) + (IntKind.u64.wrap x_3))) + 462197))])),(2,ji 0),(3,ji x_3)] ⟨zb h0 rfl,zb h2 rfl,zb h3 rfl⟩ ?_
 rintro s ⟨h0,h2,h3⟩
 refine .nsq (.seq (.seq (rg (gm h0 fun h44=>g1 44 (.ref (.bx zH) 0 [] (.agg [eB x_1.v.a,ji (w64 (x_1.v.b + 1)),.int .u64 (IntKind.u64.wrap ((IntKind.u64.wrap ((IntKind.u64.wrap (x_1.v.c.v * 6364136223846793005)) + (IntKind.u64.wrap x_3))) + 462197))])) h44 fun h45=>g1 45 (.ref (.bx zH) 0 [1] (ji (w64 (x_1.v.b + 1)))) h45 fun h46=>g1 46 (ji (w64 (x_1.v.b + 1))) h46 fun h47=>gm h0 fun h48=>g1 48 (.ref (.bx zH) 0 [] (.agg [eB x_1.v.a,ji (w64 (x_1.v.b + 1)),.int .u64 (IntKind.u64.wrap ((IntKind.u64.wrap ((IntKind.u64.wrap (x_1.v.c.v * 6364136223846793005)) + (IntKind.u64.wrap x_3))) + 462197))])) h48 fun h49=>?_))))
 refine g1 49 (.ref (.bx zH) 0 [0] (eB x_1.v.a)) h49 fun h50=>g1 50 (eB x_1.v.a) h50 fun h51=>gv (ji (x_1.v.a.length:Int)) (yu (xs:=x_1.v.a) h51) fun h52=>g2 47 52 (jb (decide ((w64 (x_1.v.b + 1))≤(x_1.v.a.length:Int)))) h47 h52 fun h53=>gq (.nsq (zk (t:=decide ((w64 (x_1.v.b + 1))≤(x_1.v.a.length:Int))) h53 h (fun h=>?_) (fun h=>?_)))
 · refine .seq (rg (gm h3 fun h54=>gm h54 fun h2=>gq (.nsq (.ret ?_))))
   have hr:=Option.some.inj h
   subst hr
   exact rt1 (t:=0) (zn h2) h0
 refine .skip (.nsq (.seq (rg (gm h0 fun h55=>g1 55 (.ref (.bx zH) 0 [] (.agg [eB x_1.v.a,ji (w64 (x_1.v.b + 1)),.int .u64 (IntKind.u64.wrap ((IntKind.u64.wrap ((IntKind.u64.wrap (x_1.v.c.v * 6364136223846793005)) + (IntKind.u64.wrap x_3))) + 462197))])) h55 fun h56=>g1 56 (.ref (.bx zH) 0 [2] (.int .u64 (IntKind.u64.wrap ((IntKind.u64.wrap ((IntKind.u64.wrap (x_1.v.c.v * 6364136223846793005)) + (IntKind.u64.wrap x_3))) + 462197)))) h56 fun h57=>g1 57 (.int .u64 (IntKind.u64.wrap ((IntKind.u64.wrap ((IntKind.u64.wrap (x_1.v.c.v * 6364136223846793005)) + (IntKind.u64.wrap x_3))) + 462197))) h57 fun h58=>?_))))
 obtain ⟨q_4,E_q_4,h⟩:=bind_some h
 refine gv (.int .u64 q_4) (YE h58 rfl E_q_4) fun h59=>g1 59 (.int .u64 (yf .u64 q_4 255)) h59 fun h60=>g1 60 (ji (w64 (yf .u64 q_4 255))) h60 fun h61=>gm h61 fun h2=>gq (.nsq (.ret ?_))
 have hr:=Option.some.inj h
 subst hr
 exact rt1 (t:=0) (zn h2) h0
def wQ (F:Nat) (x_1:CC):Option (Int×CU):=
 bif decide (x_1.v.b < (x_1.v.a.length:Int)) then
  (idx x_1.v.a x_1.v.b).bind fun e_5=>
  vz F x_1 (w64 e_5.v)
 else
  vz F x_1 0
theorem t78 (H:H78 D σ F) (x_1:CC) (s:Nat→V) (hs:zl [(0,bC x_1.v)] s) (h:wQ F x_1=some r):Run D σ (R78 r) (.run A78 []) s:=by
 unfold wQ at h
 have h0:=hs
 refine .seq (rg (g0 (ji 0) fun h2=>gq (.nsq (.seq (rg (g0 (ji 0) fun h3=>gq (.nsq (.seq (.seq (rg (gm h0 fun h4=>g1 4 (bC x_1.v) h4 fun h5=>g1 5 (.ref (.bx zH) 0 [1] (ji x_1.v.b)) h5 fun h6=>g1 6 (ji x_1.v.b) h6 fun h7=>gm h0 fun h8=>g1 8 (bC x_1.v) h8 fun h9=>g1 9 (.ref (.bx zH) 0 [0] (eB x_1.v.a)) h9 fun h10=>g1 10 (eB x_1.v.a) h10 fun h11=>gv (ji (x_1.v.a.length:Int)) (yu (xs:=x_1.v.a) h11) fun h12=>g2 7 12 (jb (decide (x_1.v.b < (x_1.v.a.length:Int)))) h7 h12 fun h13=>gq (.nsq (zk (t:=decide (x_1.v.b < (x_1.v.a.length:Int))) h13 h (fun h=>?_) (fun h=>?_))))))))))))))
 · refine rg (gm h0 fun h14=>g1 14 (bC x_1.v) h14 fun h15=>g1 15 (.ref (.bx zH) 0 [0] (eB x_1.v.a)) h15 fun h16=>g1 16 (eB x_1.v.a) h16 fun h17=>gm h0 fun h18=>g1 18 (bC x_1.v) h18 fun h19=>g1 19 (.ref (.bx zH) 0 [1] (ji x_1.v.b)) h19 fun h20=>g1 20 (ji x_1.v.b) h20 fun h21=>?_)
   obtain ⟨e_5,E_e_5,h⟩:=bind_some h
   refine gv (.ref .sh 0 [] (.int .u8 e_5.v)) (yz (t:=.sh) (lo:=0) (xs:=x_1.v.a) h17 h21 E_e_5 rfl rfl) fun h22=>g1 22 (.int .u8 e_5.v) h22 fun h23=>g1 23 (ji (w64 e_5.v)) h23 fun h24=>gm h24 fun h3=>gq ?_
   exact zbL H x_1 (w64 e_5.v) _ ⟨h0,h2,h3⟩ h
 refine .skip ?_
 exact zbL H x_1 0 _ ⟨h0,h2,h3⟩ h
end
def e78 (F:Nat):Ent:=ent 78 (fun (x:(CC×Unit))=>wQ F x.1) (fun (r:(Int×CU))=>(.tup [Enc.enc (r.1:Int),.tup [cuV zH r.2]])) Zk false []
abbrev C78 (D:List V→Option V) (F:Nat):Prop:=∀ (x0:CC) r,wQ F x0=some r→D [Arg.arg x0]=some (.tup [Enc.enc (r.1:Int),.tup [cuV zH r.2]])
theorem p78 {F:Nat}:C78 (e78 F).den F:=fun x0 _ h=>zN (x0,()) h
theorem o78 {D:Den} {σ:Sig} {F:Nat} (hF:zy Try.prog D σ) (H:H78 D σ F):(e78 F).Ok Try.prog:=by
 refine yl (f:=78) (show unk 78=78 from rfl) (fun args r h=>?_) ⟨Try.f78,Try.func78,rfl,rfl⟩
 obtain ⟨⟨x0,_⟩,y,rfl,hy,rfl⟩:=zM h
 exact wV hF (by kernel_rfl) Try.func78 rfl c78 rfl (show 1≤Try.f78.ntmps by decide) (by decide) (t78 H x0 _ rfl hy)
def zlo:AC:=(.seq (.reg [] [jm 17 5,jm 18 1,jv 19 (.bin .rem (.t 17) (.t 18)),jm 4 19] []) .ret)
def zo5:AC:=(.cond (.t 7) (.seq (.reg [] [jv 4 (.mov (jn 0))] []) .ret) .skip)
def zqO:AC:=(.cond (.t 11) (.reg [] [jm 12 5,jv 13 (.bin .mul (.t 12) (jn 256)),jm 14 0,jx 15 (.callT (jf 78) [.t 14] [0] []),jv 16 (.bin .add (.t 13) (.t 15)),jm 5 16] []) .skip)
def zsn:AC:=(.seq (.seq (.reg [] [jm 10 1,jv 11 (.bin .gtr (.t 10) (jn 200))] []) zqO) zlo)
def zpl:AC:=(.seq (.reg [] [jm 8 0,jx 9 (.callT (jf 78) [.t 8] [0] []),jm 5 9] []) zsn)
def zpY:AC:=(.seq (.seq (.reg [] [jm 6 1,jv 7 (.bin .leq (.t 6) (jn 1))] []) zo5) zpl)
def A65:AC:=(.seq (.reg [] [jv 4 (.mov (jn 0))] []) zpY)
def ztY:List An:=[⟨3,[],[],[2000000],[]⟩,⟨5,[],[],[4000000],[]⟩]
theorem c65:cC Try.prog Try.f65.ntmps ztY (Try.f65.body.getD .skip)=some A65:=by kernel_rfl
structure H65 (D:Den) (σ:Sig) (F:Nat):Prop where
 c78:C78 (D 78) F
 g78:σ 78=some (Zk,false)
abbrev R65 (r:(Int×CU)):(Nat→V)→Prop:=RT Try.prog [.tmp 4] (Enc.enc (r.1:Int)) [cuV zH r.2]
section
variable {D:Den} {σ:Sig} {F:Nat} {r:(Int×CU)}
def vx (F:Nat) (x_2:Int)  (x_5:LB) (x_6:Int) (x_7:Int) (x_8:Int):Option (Int×CU):=
 (zgp .i64 x_8 x_2).bind fun q_9=>
 some (q_9,S3.mk x_5 x_6 (Kd.mk x_7:Kd .u64))
theorem zbo (H:H65 D σ F) (x_2:Int)  (x_5:LB) (x_6:Int) (x_7:Int) (x_8:Int) (s:Nat→V) (hs:zl [(0,.ref (.bx zH) 0 [] (.agg [eB x_5,ji x_6,.int .u64 x_7])),(1,ji x_2),(4,ji 0),(5,ji x_8)] s) (h:vx F x_2  x_5 x_6 x_7 x_8=some r):Run D σ (R65 r) (.nrm [.sq zlo]) s:=by
 unfold vx at h
 obtain ⟨h0,h1,h4,h5⟩:=hs
 refine .nsq (.seq (rg (gm h5 fun h17=>gm h1 fun h18=>?_)))
 obtain ⟨q_9,E_q_9,h⟩:=bind_some h
 refine gv (ji q_9) (zlQ h17 h18 E_q_9) fun h19=>gm h19 fun h4=>gq (.nsq (.ret ?_))
 have hr:=Option.some.inj h
 subst hr
 exact rt1 (t:=0) (zn h4) h0
def yA (F:Nat) (x_1:CC) (x_2:Int):Option (Int×CU):=
 bif decide (x_2≤1) then
  some (0,x_1.v)
 else
  (wQ F (Cu.mk x_1.v)).bind fun r_3=>
  bif decide (x_2 > 200) then
   (wQ F (Cu.mk r_3.2)).bind fun r_10=>
   vx F x_2 r_10.2.a r_10.2.b r_10.2.c.v (w64 ((w64 (r_3.1 * 256)) + r_10.1))
  else
   vx F x_2 r_3.2.a r_3.2.b r_3.2.c.v r_3.1
theorem t65 (H:H65 D σ F) (x_1:CC) (x_2:Int) (s:Nat→V) (hs:zl [(0,bC x_1.v),(1,ji x_2)] s) (h:yA F x_1 x_2=some r):Run D σ (R65 r) (.run A65 []) s:=by
 unfold yA at h
 obtain ⟨h0,h1⟩:=hs
 refine .seq (rg (g0 (ji 0) fun h4=>gq (.nsq (.seq (.seq (rg (gm h1 fun h6=>g1 6 (jb (decide (x_2≤1))) h6 fun h7=>gq (.nsq (zk (t:=decide (x_2≤1)) h7 h (fun h=>?_) (fun h=>?_))))))))))
 · refine .seq (rg (g0 (ji 0) fun h4=>gq (.nsq (.ret ?_))))
   have hr:=Option.some.inj h
   subst hr
   exact rt1 (t:=0) (zn h4) h0
 refine .skip (.nsq (.seq (rg (gm h0 fun h8=>?_))))
 obtain ⟨r_3,E_r_3,h⟩:=bind_some h
 refine uz (r:=zH) (b:=0) (x:=x_1.v) (x':=r_3.2) (vs:=[]) (res:=Enc.enc (r_3.1:Int)) h0 (by exact (zQ (v:=cuV zH x_1.v) h8 rfl yR)) yH (fun f=>zh) (H.c78 _ _ E_r_3) H.g78 te rfl (fun s_1 hb_1 ha_1=>gm (rf (ji r_3.1)) fun h5=>gz [(0,_),(1,ji x_2),(4,ji 0),(5,_)] ⟨(show s_1 0=(bC r_3.2) from hb_1 0 h0),(show s_1 1=(ji x_2) from ha_1 1 _ _ h1 rfl mi),(show s_1 4=(ji 0) from ha_1 4 _ _ h4 rfl mi),h5⟩ ?_)
 rintro s ⟨h0,h1,h4,h5⟩
 refine .nsq (.seq (.seq (rg (gm h1 fun h10=>g1 10 (jb (decide (x_2 > 200))) h10 fun h11=>gq (.nsq (zk (t:=decide (x_2 > 200)) h11 h (fun h=>?_) (fun h=>?_)))))))
 · refine rg (gm h5 fun h12=>g1 12 (ji (w64 (r_3.1 * 256))) h12 fun h13=>gm h0 fun h14=>?_)
   obtain ⟨r_10,E_r_10,h⟩:=bind_some h
   refine uz (r:=zH) (b:=0) (x:=r_3.2) (x':=r_10.2) (vs:=[]) (res:=Enc.enc (r_10.1:Int)) h0 (by exact (zQ (v:=cuV zH r_3.2) h14 rfl yR)) yH (fun f=>zh) (H.c78 _ _ E_r_10) H.g78 te rfl (fun s_3 hb_3 ha_3=>g2 13 15 (ji (w64 ((w64 (r_3.1 * 256)) + r_10.1))) (show s_3 13=(ji (w64 (r_3.1 * 256))) from ha_3 13 _ _ h13 rfl mi) (rf (ji r_10.1)) fun h16=>gm h16 fun h5=>gz [(0,_),(1,ji x_2),(4,ji 0),(5,_)] ⟨(show s_3 0=(bC r_10.2) from hb_3 0 h0),(show s_3 1=(ji x_2) from ha_3 1 _ _ h1 rfl mi),(show s_3 4=(ji 0) from ha_3 4 _ _ h4 rfl mi),h5⟩ ?_)
   rintro s ⟨h0,h1,h4,h5⟩
   exact zbo H x_2 r_10.2.a r_10.2.b r_10.2.c.v (w64 ((w64 (r_3.1 * 256)) + r_10.1)) _ ⟨h0,h1,h4,h5⟩ h
 refine .skip ?_
 exact zbo H x_2 r_3.2.a r_3.2.b r_3.2.c.v r_3.1 _ ⟨h0,h1,h4,h5⟩ h
end
def e65 (F:Nat):Ent:=ent 65 (fun (x:(CC×Int×Unit))=>yA F x.1 x.2.1) (fun (r:(Int×CU))=>(.tup [Enc.enc (r.1:Int),.tup [cuV zH r.2]])) Zk false []
abbrev C65 (D:List V→Option V) (F:Nat):Prop:=∀ (x0:CC) (x1:Int) r,yA F x0 x1=some r→D [Arg.arg x0,Enc.enc x1]=some (.tup [Enc.enc (r.1:Int),.tup [cuV zH r.2]])
theorem p65 {F:Nat}:C65 (e65 F).den F:=fun x0 x1 _ h=>zN (x0,x1,()) h
theorem o65 {D:Den} {σ:Sig} {F:Nat} (hF:zy Try.prog D σ) (H:H65 D σ F):(e65 F).Ok Try.prog:=by
 refine yl (f:=65) (show unk 65=65 from rfl) (fun args r h=>?_) ⟨Try.f65,Try.func65,rfl,rfl⟩
 obtain ⟨⟨x0,x1,_⟩,y,rfl,hy,rfl⟩:=zM h
 exact wV hF (by kernel_rfl) Try.func65 rfl c65 rfl (show 2≤Try.f65.ntmps by decide) (by decide) (t65 H x0 x1 _ ⟨rfl,rfl⟩ hy)
def zoh:AC:=(.seq (.reg [] [jm 5 1,jm 6 0,jm 7 1,jv 8 (.len (.t 7)),jx 9 (.callT (jf 65) [.t 6,.t 8] [0] []),jv 10 (.idx (.t 5) (.t 9) 1),jv 11 (.load .s (.t 10)),jm 4 11] []) .ret)
def A67:AC:=(.seq (.reg [] [jv 4 (.mov (jn 0))] []) zoh)
def zuK:List An:=[⟨1,[],[],[5000000],[]⟩]
theorem c67:cC Try.prog Try.f67.ntmps zuK (Try.f67.body.getD .skip)=some A67:=by kernel_rfl
structure H67 (D:Den) (σ:Sig) (F:Nat):Prop where
 c65:C65 (D 65) F
 g65:σ 65=some (Zk,false)
abbrev R67 (r:(Int×CU)):(Nat→V)→Prop:=RT Try.prog [.tmp 4] (Enc.enc (r.1:Int)) [cuV zH r.2]
section
variable {D:Den} {σ:Sig} {F:Nat} {r:(Int×CU)}
def xm (F:Nat) (x_1:CC) (x_2:LI):Option (Int×CU):=
 (yA F (Cu.mk x_1.v) (x_2.length:Int)).bind fun r_3=>
 (idx x_2 r_3.1).bind fun e_4=>
 some (e_4,r_3.2)
theorem t67 (H:H67 D σ F) (x_1:CC) (x_2:LI) (s:Nat→V) (hs:zl [(0,bC x_1.v),(1,eL x_2)] s) (h:xm F x_1 x_2=some r):Run D σ (R67 r) (.run A67 []) s:=by
 unfold xm at h
 obtain ⟨h0,h1⟩:=hs
 refine .seq (rg (g0 (ji 0) fun h4=>gq (.nsq (.seq (rg (gm h1 fun h5=>gm h0 fun h6=>gm h1 fun h7=>gv (ji (x_2.length:Int)) (yu (xs:=x_2) h7) fun h8=>?_))))))
 obtain ⟨r_3,E_r_3,h⟩:=bind_some h
 refine uz (r:=zH) (b:=0) (x:=x_1.v) (x':=r_3.2) (vs:=[Enc.enc ((x_2.length:Int):Int)]) (res:=Enc.enc (r_3.1:Int)) h0 (by exact (zQ (v:=cuV zH x_1.v) h6 rfl (zQ (v:=Enc.enc ((x_2.length:Int):Int)) h8 rfl yR))) (yk te yH) fm1 (H.c65 _ _ _ E_r_3) H.g65 te rfl (fun s_1 hb_1 ha_1=>?_)
 obtain ⟨e_4,E_e_4,h⟩:=bind_some h
 refine gv (.ref .sh 0 [] (ji e_4)) (yz (t:=.sh) (lo:=0) (xs:=x_2) (show s_1 5=(eL x_2) from ha_1 5 _ _ h5 rfl me) rfl E_e_4 rfl rfl) fun h10=>g1 10 (ji e_4) h10 fun h11=>gm h11 fun h4=>gz [(0,_),(4,_)] ⟨(show s_1 0=(bC r_3.2) from hb_1 0 h0),h4⟩ ?_
 rintro s ⟨h0,h4⟩
 refine .nsq (.ret ?_)
 have hr:=Option.some.inj h
 subst hr
 exact rt1 (t:=0) (zn h4) h0
end
def e67 (F:Nat):Ent:=ent 67 (fun (x:(CC×LI×Unit))=>xm F x.1 x.2.1) (fun (r:(Int×CU))=>(.tup [Enc.enc (r.1:Int),.tup [cuV zH r.2]])) Zk false []
abbrev C67 (D:List V→Option V) (F:Nat):Prop:=∀ (x0:CC) (x1:LI) r,xm F x0 x1=some r→D [Arg.arg x0,Enc.enc x1]=some (.tup [Enc.enc (r.1:Int),.tup [cuV zH r.2]])
theorem p67 {F:Nat}:C67 (e67 F).den F:=fun x0 x1 _ h=>zN (x0,x1,()) h
theorem o67 {D:Den} {σ:Sig} {F:Nat} (hF:zy Try.prog D σ) (H:H67 D σ F):(e67 F).Ok Try.prog:=by
 refine yl (f:=67) (show unk 67=67 from rfl) (fun args r h=>?_) ⟨Try.f67,Try.func67,rfl,rfl⟩
 obtain ⟨⟨x0,x1,_⟩,y,rfl,hy,rfl⟩:=zM h
 exact wV hF (by kernel_rfl) Try.func67 rfl c67 rfl (show 2≤Try.f67.ntmps by decide) (by decide) (t67 H x0 x1 _ ⟨rfl,rfl⟩ hy)
def zr6:AC:=(.seq (.reg [] [jm 5 0,jm 6 1,jx 7 (.callT (jf 65) [.t 5,.t 6] [0] []),jv 8 (.bin .eql (.t 7) (jn 0)),jm 4 8] []) .ret)
def A66:AC:=(.seq (.reg [] [jv 4 (.mov kf)] []) zr6)
def zuM:List An:=[⟨1,[],[],[3000000],[]⟩]
theorem c66:cC Try.prog Try.f66.ntmps zuM (Try.f66.body.getD .skip)=some A66:=by kernel_rfl
structure H66 (D:Den) (σ:Sig) (F:Nat):Prop where
 c65:C65 (D 65) F
 g65:σ 65=some (Zk,false)
abbrev R66 (r:(Bool×CU)):(Nat→V)→Prop:=RT Try.prog [.tmp 4] (Enc.enc (r.1:Bool)) [cuV zH r.2]
section
variable {D:Den} {σ:Sig} {F:Nat} {r:(Bool×CU)}
def wJ (F:Nat) (x_1:CC) (x_2:Int):Option (Bool×CU):=
 (yA F (Cu.mk x_1.v) x_2).bind fun r_3=>
 some ((r_3.1 == 0),r_3.2)
theorem t66 (H:H66 D σ F) (x_1:CC) (x_2:Int) (s:Nat→V) (hs:zl [(0,bC x_1.v),(1,ji x_2)] s) (h:wJ F x_1 x_2=some r):Run D σ (R66 r) (.run A66 []) s:=by
 unfold wJ at h
 obtain ⟨h0,h1⟩:=hs
 refine .seq (rg (g0 (jb false) fun h4=>gq (.nsq (.seq (rg (gm h0 fun h5=>gm h1 fun h6=>?_))))))
 obtain ⟨r_3,E_r_3,h⟩:=bind_some h
 refine uz (r:=zH) (b:=0) (x:=x_1.v) (x':=r_3.2) (vs:=[Enc.enc (x_2:Int)]) (res:=Enc.enc (r_3.1:Int)) h0 (by exact (zQ (v:=cuV zH x_1.v) h5 rfl (zQ (v:=Enc.enc (x_2:Int)) h6 rfl yR))) (yk te yH) fm1 (H.c65 _ _ _ E_r_3) H.g65 te rfl (fun s_1 hb_1 ha_1=>g1 7 (jb (r_3.1 == 0)) (rf (ji r_3.1)) fun h8=>gm h8 fun h4=>gz [(0,_),(4,_)] ⟨(show s_1 0=(bC r_3.2) from hb_1 0 h0),h4⟩ ?_)
 rintro s ⟨h0,h4⟩
 refine .nsq (.ret ?_)
 have hr:=Option.some.inj h
 subst hr
 exact rt1 (t:=0) (zn h4) h0
end
def e66 (F:Nat):Ent:=ent 66 (fun (x:(CC×Int×Unit))=>wJ F x.1 x.2.1) (fun (r:(Bool×CU))=>(.tup [Enc.enc (r.1:Bool),.tup [cuV zH r.2]])) Zk false []
abbrev C66 (D:List V→Option V) (F:Nat):Prop:=∀ (x0:CC) (x1:Int) r,wJ F x0 x1=some r→D [Arg.arg x0,Enc.enc x1]=some (.tup [Enc.enc (r.1:Bool),.tup [cuV zH r.2]])
theorem p66 {F:Nat}:C66 (e66 F).den F:=fun x0 x1 _ h=>zN (x0,x1,()) h
theorem o66 {D:Den} {σ:Sig} {F:Nat} (hF:zy Try.prog D σ) (H:H66 D σ F):(e66 F).Ok Try.prog:=by
 refine yl (f:=66) (show unk 66=66 from rfl) (fun args r h=>?_) ⟨Try.f66,Try.func66,rfl,rfl⟩
 obtain ⟨⟨x0,x1,_⟩,y,rfl,hy,rfl⟩:=zM h
 exact wV hF (by kernel_rfl) Try.func66 rfl c66 rfl (show 2≤Try.f66.ntmps by decide) (by decide) (t66 H x0 x1 _ ⟨rfl,rfl⟩ hy)
def zsh:AC:=(.cond (.t 7) (.seq (.reg [] [jm 8 0,jm 4 8] []) .ret) .skip)
def zrI:AC:=(.seq (.reg [] [jm 9 1,jm 4 9] []) .ret)
def zq4:AC:=(.seq (.seq (.reg [] [jm 5 0,jm 6 1,jv 7 (.bin .lss (.t 5) (.t 6))] []) zsh) zrI)
def A36:AC:=(.seq (.reg [] [jv 4 (.mov (jn 0))] []) zq4)
def ztn:List An:=[]
theorem c36:cC Try.prog Try.f36.ntmps ztn (Try.f36.body.getD .skip)=some A36:=by kernel_rfl
structure H36 (D:Den) (σ:Sig) (F:Nat):Prop where
 mk ::
abbrev R36 (r:Int):(Nat→V)→Prop:=RR Try.prog [.tmp 4] 0 false (Enc.enc (r:Int))
section
variable {D:Den} {σ:Sig} {F:Nat} {r:Int}
def uT (F:Nat) (x_1:Int) (x_2:Int):Option Int:=
 bif decide (x_1 < x_2) then
  some x_1
 else
  some x_2
theorem t36 (H:H36 D σ F) (x_1:Int) (x_2:Int) (s:Nat→V) (hs:zl [(0,ji x_1),(1,ji x_2)] s) (h:uT F x_1 x_2=some r):Run D σ (R36 r) (.run A36 []) s:=by
 unfold uT at h
 obtain ⟨h0,h1⟩:=hs
 refine .seq (rg (g0 (ji 0) fun h4=>gq (.nsq (.seq (.seq (rg (gm h0 fun h5=>gm h1 fun h6=>g2 5 6 (jb (decide (x_1 < x_2))) h5 h6 fun h7=>gq (.nsq (zk (t:=decide (x_1 < x_2)) h7 h (fun h=>?_) (fun h=>?_))))))))))
 · refine .seq (rg (gm h0 fun h8=>gm h8 fun h4=>gq (.nsq (.ret ?_))))
   have hr:=Option.some.inj h
   subst hr
   exact rrA (zn h4) rfl
 refine .skip (.nsq (.seq (rg (gm h1 fun h9=>gm h9 fun h4=>gq (.nsq (.ret ?_))))))
 have hr:=Option.some.inj h
 subst hr
 exact rrA (zn h4) rfl
end
def e36 (F:Nat):Ent:=ent 36 (fun (x:(Int×Int×Unit))=>uT F x.1 x.2.1) (fun (r:Int)=>(Enc.enc (r:Int))) 0 false []
abbrev C36 (D:List V→Option V) (F:Nat):Prop:=∀ (x0:Int) (x1:Int) r,uT F x0 x1=some r→D [Enc.enc x0,Enc.enc x1]=some (Enc.enc (r:Int))
theorem p36 {F:Nat}:C36 (e36 F).den F:=fun x0 x1 _ h=>zN (x0,x1,()) h
theorem o36 {D:Den} {σ:Sig} {F:Nat} (hF:zy Try.prog D σ) (H:H36 D σ F):(e36 F).Ok Try.prog:=by
 refine yl (f:=36) (show unk 36=36 from rfl) (fun args r h=>?_) ⟨Try.f36,Try.func36,rfl,rfl⟩
 obtain ⟨⟨x0,x1,_⟩,y,rfl,hy,rfl⟩:=zM h
 exact zm hF (by kernel_rfl) Try.func36 rfl c36 (show 2≤Try.f36.ntmps by decide) (t36 H x0 x1 _ ⟨rfl,rfl⟩ hy)
def znC:AC:=(.cond (.t 11) .skip (.exit 0))
def zmp:AC:=(.reg [] [jm 12 4,jv 13 (.bin .add (.t 12) (jn 1)),jm 4 13] [])
def zmJ:AC:=(.seq (.block 1 (.reg [.clr [20,21]] [jv 14 (.fld (.t 3) 1 1),jv 15 (.load .p (.t 14)),jm 16 4,jm 17 4,jv 18 (.bin .add (.t 17) (jn 1)),jv 19 (.bld (.agg [i0,i0]) [(0,0,.t 16),(1,1,.t 18)]),jx 20 (.lit (.agg [i0,i0]) 1 [(0,0,.t 19)]),jx 21 (.app (.ag [.s,.s]) (.t 15) (.t 20)),jv 22 (.fld (.t 3) 1 1),jz (.store .p (.t 22) (.t 21))] [.drp 6,.home 21 6])) zmp)
def zc2:AC:=(.seq (.seq (.reg [] [jm 8 4,jv 9 (.bin .add (.t 8) (jn 1)),jm 10 0,jv 11 (.bin .lss (.t 9) (.t 10))] []) znC) zmJ)
def zho:AC:=(.seq (.reg [] [jv 23 (.load (.ag [.s,.p]) (.t 3)),jz (.store (.ag [.s,.p]) (.t 2) (.t 23))] []) .ret)
def zlI:AC:=(.block 0 (.loop zc2))
def zlJ:AC:=(.seq (.seq (.reg [] [jv 4 (.mov (jn 0))] []) zlI) zho)
def zly:AC:=(.seq (.reg [.clr [6,3]] [jm 5 0,jx 6 (.lit (.agg [i0,i0]) 0 []),jv 7 (.bld (.agg [i0,.sl .nl (.ag [.s,.s]) 0 []]) [(0,0,.t 5),(1,1,.t 6)]),jx 3 (.alloc (.agg [i0,.sl .nl (.ag [.s,.s]) 0 []])),jz (.store (.ag [.s,.p]) (.t 3) (.t 7))] []) zlJ)
def zqt:AC:=(.seq (.reg [.clr [2]] [jx 2 (.alloc (.agg [i0,.sl .nl (.ag [.s,.s]) 0 []]))] []) zly)
def zow:List An:=[⟨0,[.clr [2]],[],[],[]⟩,⟨1,[.clr [6,3]],[],[],[]⟩,⟨5,[.clr [20,21]],[],[],[.drp 6,.home 21 6]⟩]
theorem c68o:cC Try.prog Try.f68.ntmps zow (Try.f68.body.getD .skip)=some zqt:=by kernel_rfl
structure znm (D:Den) (σ:Sig) (F:Nat):Prop where
 mk ::
abbrev zqj (r:(Int×(NL (Int×Int)))):(Nat→V)→Prop:=RR Try.prog [.cell 2 26] 1 false (.agg [Enc.enc (r.1:Int),zi .sh (r.2:NL (Int×Int))])
section
variable {D:Den} {σ:Sig} {F:Nat} {r:(Int×(NL (Int×Int)))}
def YG (F:Nat) (x_1:Int) :Nat→LP→Int→Option (Int×(NL (Int×Int)))
 | 0,_,_=>none
 | k + 1,x_3,x_4=>
   bif decide ((w64 (x_4 + 1)) < x_1) then
    (wS x_3 [(x_4,w64 (x_4 + 1))]).bind fun ap_6=>
    (YG F x_1 k) ap_6 (w64 (x_4 + 1))
   else
    some (x_1,.of x_3)
theorem zfC (H:znm D σ F) (x_1:Int) :∀ (k:Nat) (x_3:LP) (x_4:Int) (s:Nat→V),zl [(0,ji x_1),(2,bZ 2),(3,.ref (.bx 3) 0 [] (.agg [ji x_1,zi (.at 6 []) (.of (x_3:LP))])),(4,ji x_4)] s→YG F x_1 k x_3 x_4=some r→Run D σ (zqj r) (.run zc2 [.lp zc2,.bk 0,.sq zho]) s:=by
 intro k
 induction k with
 | zero=>intro x_3 x_4 s _ h;exact nm h
 | succ k ih=>
   intro x_3 x_4 s hs h
   rw [YG] at h
   obtain ⟨h0,h2,h3,h4⟩:=hs
   refine .seq (.seq (rg (gm h4 fun h8=>g1 8 (ji (w64 (x_4 + 1))) h8 fun h9=>gm h0 fun h10=>g2 9 10 (jb (decide ((w64 (x_4 + 1)) < x_1))) h9 h10 fun h11=>gq (.nsq (zk (t:=decide ((w64 (x_4 + 1)) < x_1)) h11 h (fun h=>?_) (fun h=>?_))))))
   · refine .skip (.nsq (.seq (.block (zq (zS ?_)))))
     refine ez [(0,_),(2,_),(3,_),(4,_),(20,_),(21,_)] ⟨za h0 rfl mi,za h2 rfl (zf rfl (mIx rfl)),za h3 rfl (zf rfl (zA (zd mi (zd (zj (r:=6) (p:=[]) rfl rfl) zh)))),za h4 rfl mi,zc rfl,zc rfl⟩ ?_
     rintro s ⟨h0,h2,h3,h4,h20,h21⟩
     refine g1 3 (.ref (.bx 3) 0 [1] (zi (.at 6 []) (.of (x_3:LP)))) h3 fun h14=>g1 14 (zi (.at 6 []) (.of (x_3:LP))) h14 fun h15=>gm h4 fun h16=>gm h4 fun h17=>g1 17 (ji (w64 (x_4 + 1))) h17 fun h18=>g2 16 18 (.agg [ji x_4,ji (w64 (x_4 + 1))]) h16 h18 fun h19=>xT [(19,.agg [ji x_4,ji (w64 (x_4 + 1))])] [Enc.enc ((x_4,w64 (x_4 + 1)):(Int×Int))] h19 rfl rfl h20 ?_
     obtain ⟨ap_6,E_ap_6,h⟩:=bind_some h
     refine Xz (q:=6) (p:=[]) (o:=.of (x_3:LP)) (ys:=([(x_4,w64 (x_4 + 1))]:LP)) (t2:=.at 20 []) (lo2:=0) h15 rfl rfl h21 (ZJ (o:=.of (x_3:LP)) E_ap_6 trivial) (fun s_12 ha_12=>g1 3 (.ref (.bx 3) 0 [1] (kdO ((.of x_3):NL (Int×Int)))) (show s_12 3=(.ref (.bx 3) 0 [] (.agg [ji x_1,kdO ((.of x_3):NL (Int×Int))])) from uu ha_12 h3 (zf rfl (zA (zd mi (zd YL zh)))) (by intro h;first | (cases h;done) | (subst h;rfl))) fun h22=>yb (zi (.at 21 []) (.of (ap_6:LP))) (zw h22 rfl) (zw rfl rfl) ⟨by decide,by decide,rfl,rfl,JO,YQ rfl rfl⟩ (yQ ?_))
     refine W9 (x:=6) (fun s_13 hx_13 hd_13=>yC (r:=21) (x:=6) (v:=_) (by exact hx_13) rfl (fun s_14 hg_14=>?_))
     refine ez [(0,ji x_1),(2,bZ 2),(3,.ref (.bx 3) 0 [] (.agg [ji x_1,zi (.at 6 []) (.of (ap_6:LP))])),(4,ji x_4)] ⟨hg_14 0 _ _ (show s_13 0=(ji x_1) from (hd_13 0 (by decide)).trans (zb (show s_12 0=(ji x_1) from zJ ha_12 h0 mi) rfl)) mi,hg_14 2 _ _ (show s_13 2=(bZ 2) from (hd_13 2 (by decide)).trans (zb (show s_12 2=(bZ 2) from zJ ha_12 h2 (zf rfl (mIx rfl))) (zC rfl rfl (yr (zp rfl (zp rfl rfl)))))) (zf rfl (mIx rfl)),hg_14 3 _ (.ref (.bx 3) 0 [] (.agg [ji x_1,zi (.at 6 []) (.of (ap_6:LP))])) (show s_13 3=(.ref (.bx 3) 0 [] (.agg [ji x_1,zi (.at 21 []) (.of (ap_6:LP))])) from (hd_13 3 (by decide)).trans (zb (show s_12 3=(.ref (.bx 3) 0 [] (.agg [ji x_1,kdO ((.of x_3):NL (Int×Int))])) from uu ha_12 h3 (zf rfl (zA (zd mi (zd YL zh)))) (by intro h;first | (cases h;done) | (subst h;rfl))) (XY (zp rfl (zp J7 rfl))))) (zf rfl (zA (zd mi (zd (zj (r:=21) (p:=[]) rfl rfl) zh)))),hg_14 4 _ _ (show s_13 4=(ji x_4) from (hd_13 4 (by decide)).trans (zb (show s_12 4=(ji x_4) from zJ ha_12 h4 mi) rfl)) mi⟩ ?_
     rintro s ⟨h0,h2,h3,h4⟩
     refine .nbk (.nsq (rg (gm h4 fun h12=>g1 12 (ji (w64 (x_4 + 1))) h12 fun h13=>gm h13 fun h4=>gq (.nlp ?_))))
     exact ih ap_6 (w64 (x_4 + 1)) _ ⟨h0,h2,h3,h4⟩ h
   refine .exit (.esq (.elp (.ebk (.nsq (.seq (rg (g1 3 (.agg [ji x_1,zi (.at 6 []) (.of (x_3:LP))]) h3 fun h23=>yb (.agg [ji x_1,zi (.at 6 []) (.of (x_3:LP))]) (zw h2 rfl) (zw h23 rfl) (wj (by first | rfl | simp [V.toks,V.tokss,Enc.toks_enc,ya])) (gz [(2,.ref (.bx 2) 0 [] (.agg [ji x_1,zi (.at 6 []) (.of (x_3:LP))]))] (zb h2 rfl) ?_))))))))
   rintro s h2
   refine .nsq (.ret ?_)
   have hr:=Option.some.inj h
   subst hr
   exact rrA (wN h2 (by kernel_rfl)) (Z6 (J3 (ZE LX (ZE (Yj (o:=((.of x_3):NL (Int×Int)))) UY))) rfl (XB (x9 rfl (x9 (xB rfl) u6))))
def ZN (F:Nat) (x_1:Int):Option (Int×(NL (Int×Int))):=
 YG F x_1 F [] 0
theorem zt5 (H:znm D σ F) (x_1:Int) (s:Nat→V) (hs:zl [(0,ji x_1)] s) (h:ZN F x_1=some r):Run D σ (zqj r) (.run zqt []) s:=by
 unfold ZN at h
 have h0:=hs
 refine .seq (zq (zS ?_))
 refine ez [(0,_),(2,_)] ⟨za h0 rfl mi,zc rfl⟩ ?_
 rintro s ⟨h0,h2⟩
 refine xk h2 (gq (.nsq (.seq (zq (zS ?_)))))
 refine ez [(0,_),(2,_),(3,_),(6,_)] ⟨za h0 rfl mi,za rfl rfl (zf rfl (mIx rfl)),zc rfl,zc rfl⟩ ?_
 rintro s ⟨h0,h2,h3,h6⟩
 refine gm h0 fun h5=>xT [] [] trivial rfl rfl h6 (g2 5 6 (.agg [ji x_1,zi (.at 6 []) (.of ([]:LP))]) h5 (rf (zi (.at 6 []) (.of ([]:LP)))) fun h7=>xk h3 (yb (.agg [ji x_1,zi (.at 6 []) (.of ([]:LP))]) (zw rfl rfl) (zw h7 rfl) (wj (by first | rfl | simp [V.toks,V.tokss,Enc.toks_enc,ya])) (gz [(0,ji x_1),(2,bZ 2),(3,.ref (.bx 3) 0 [] (.agg [ji x_1,zi (.at 6 []) (.of ([]:LP))]))] ⟨zb h0 rfl,zb h2 (zC rfl rfl (yr (zp rfl (zp rfl rfl)))),zb rfl rfl⟩ ?_)))
 rintro s ⟨h0,h2,h3⟩
 refine .nsq (.seq (.seq (rg (g0 (ji 0) fun h4=>gq (.nsq (.block (.loop ?_)))))))
 exact zfC H x_1 F [] 0 _ ⟨h0,h2,h3,h4⟩ h
end
def zlL (F:Nat):Ent:=ent 1000000068 (fun (x:(Int×Unit))=>ZN F x.1) (fun (r:(Int×(NL (Int×Int))))=>(.agg [Enc.enc (r.1:Int),zi .sh (r.2:NL (Int×Int))])) 1 false []
abbrev zmh (D:List V→Option V) (F:Nat):Prop:=∀ (x0:Int) r,ZN F x0=some r→D [Enc.enc x0]=some (.agg [Enc.enc (r.1:Int),zi .sh (r.2:NL (Int×Int))])
theorem zqL {F:Nat}:zmh (zlL F).den F:=fun x0 _ h=>zN (x0,()) h
theorem ztd {D:Den} {σ:Sig} {F:Nat} (hF:zy Try.prog D σ) (H:znm D σ F):(zlL F).Ok Try.prog:=by
 refine yl (f:=68) (show unk 1000000068=68 from rfl) (fun args r h=>?_) ⟨Try.f68,Try.func68,rfl,rfl⟩
 obtain ⟨⟨x0,_⟩,y,rfl,hy,rfl⟩:=zM h
 exact zm hF (by kernel_rfl) Try.func68 rfl c68o (show 1≤Try.f68.ntmps by decide) (zt5 H x0 _ rfl hy)
def zpL:AC:=(.seq (.reg [] [jv 5 (.idxA (.t 2) (jn 0) 2 1),jv 6 (.load .s (.t 5)),jv 7 (.idxA (.t 3) (jn 0) 2 1),jv 8 (.load .s (.t 7)),jv 9 (.bin .lss (.t 6) (.t 8)),jm 10 9,jg 11 10 false (.idxA (.t 2) (jn 0) 2 1),jg 12 10 false (.load .s (.t 11)),jg 13 10 false (.idxA (.t 3) (jn 0) 2 1),jg 14 10 false (.load .s (.t 13)),jg 15 10 false (.bin .eql (.t 12) (.t 14)),jg 16 10 false (.mov (.t 15)),jg 17 16 true (.idxA (.t 2) (jn 1) 2 1),jg 18 16 true (.load .s (.t 17)),jg 19 16 true (.idxA (.t 3) (jn 1) 2 1),jg 20 16 true (.load .s (.t 19)),jg 21 16 true (.bin .lss (.t 18) (.t 20)),jg 22 10 false (.pick (.t 16) (.t 21) kf),jv 23 (.pick (.t 10) kt (.t 22)),jm 4 23] []) .ret)
def A48:AC:=(.seq (.reg [.clr [2,3]] [jx 2 (.box (.t 0)),jx 3 (.box (.t 1)),jv 4 (.mov kf)] []) zpL)
def zt2:List An:=[⟨0,[.clr [2,3]],[],[],[]⟩]
theorem c48:cC Try.prog Try.f48.ntmps zt2 (Try.f48.body.getD .skip)=some A48:=by kernel_rfl
structure H48 (D:Den) (σ:Sig) (F:Nat):Prop where
 mk ::
abbrev R48 (r:Bool):(Nat→V)→Prop:=RR Try.prog [.tmp 4] 0 false (Enc.enc (r:Bool))
section
variable {D:Den} {σ:Sig} {F:Nat} {r:Bool}
def uN (F:Nat) (x_1:(Int×Int)) (x_2:(Int×Int)):Option Bool:=
 bif decide (x_1.1 < x_2.1) then
  some true
 else
  bif (x_1.1 == x_2.1) then
   some (decide (x_1.2 < x_2.2))
  else
   some false
theorem t48 (H:H48 D σ F) (x_1:(Int×Int)) (x_2:(Int×Int)) (s:Nat→V) (hs:zl [(0,.agg [ji x_1.1,ji x_1.2]),(1,.agg [ji x_2.1,ji x_2.2])] s) (h:uN F x_1 x_2=some r):Run D σ (R48 r) (.run A48 []) s:=by
 unfold uN at h
 obtain ⟨h0,h1⟩:=hs
 refine .seq (zq (zS ?_))
 refine ez [(0,_),(1,_),(2,_),(3,_)] ⟨za h0 rfl mII,za h1 rfl mII,zc rfl,zc rfl⟩ ?_
 rintro s ⟨h0,h1,h2,h3⟩
 refine xz (.agg [ji x_1.1,ji x_1.2]) (zw h0 rfl) h2 rfl (xz (.agg [ji x_2.1,ji x_2.2]) (zw h1 rfl) h3 rfl (g0 (jb false) fun h4=>gq (.nsq (.seq (rg (g1 2 (.ref (.bx 2) 0 [0] (ji x_1.1)) (rf (.ref (.bx 2) 0 [] (.agg [ji x_1.1,ji x_1.2]))) fun h5=>g1 5 (ji x_1.1) h5 fun h6=>g1 3 (.ref (.bx 3) 0 [0] (ji x_2.1)) (rf (.ref (.bx 3) 0 [] (.agg [ji x_2.1,ji x_2.2]))) fun h7=>g1 7 (ji x_2.1) h7 fun h8=>g2 6 8 (jb (decide (x_1.1 < x_2.1))) h6 h8 fun h9=>gm h9 fun h10=>zW (c:=decide (x_1.1 < x_2.1)) h (fun hg6 h=>?_) (fun hg6 h=>?_)))))))
 · iterate 6 refine z9 (ct h10 hg6) ?_
   iterate 5 refine uw rfl ?_
   refine z9 (ct h10 hg6) (g2 10 22 (jb true) (ct h10 hg6) (rf (.tup [])) fun h23=>gm h23 fun h4=>gq (.nsq (.ret ?_)))
   have hr:=Option.some.inj h
   subst hr
   exact rrA (zn h4) rfl
 refine zg (ct h10 hg6) (g1 2 (.ref (.bx 2) 0 [0] (ji x_1.1)) (rf (.ref (.bx 2) 0 [] (.agg [ji x_1.1,ji x_1.2]))) fun h11=>zg (ct h10 hg6) (g1 11 (ji x_1.1) h11 fun h12=>zg (ct h10 hg6) (g1 3 (.ref (.bx 3) 0 [0] (ji x_2.1)) (rf (.ref (.bx 3) 0 [] (.agg [ji x_2.1,ji x_2.2]))) fun h13=>zg (ct h10 hg6) (g1 13 (ji x_2.1) h13 fun h14=>zg (ct h10 hg6) (g2 12 14 (jb (x_1.1 == x_2.1)) h12 h14 fun h15=>zg (ct h10 hg6) (gm h15 fun h16=>zW (c:=(x_1.1 == x_2.1)) h (fun hg12 h=>?_) (fun hg12 h=>?_)))))))
 · refine zg (ct h16 hg12) (g1 2 (.ref (.bx 2) 0 [1] (ji x_1.2)) (rf (.ref (.bx 2) 0 [] (.agg [ji x_1.1,ji x_1.2]))) fun h17=>zg (ct h16 hg12) (g1 17 (ji x_1.2) h17 fun h18=>zg (ct h16 hg12) (g1 3 (.ref (.bx 3) 0 [1] (ji x_2.2)) (rf (.ref (.bx 3) 0 [] (.agg [ji x_2.1,ji x_2.2]))) fun h19=>zg (ct h16 hg12) (g1 19 (ji x_2.2) h19 fun h20=>zg (ct h16 hg12) (g2 18 20 (jb (decide (x_1.2 < x_2.2))) h18 h20 fun h21=>zg (ct h10 hg6) (g2 16 21 (jb (decide (x_1.2 < x_2.2))) (ct h16 hg12) h21 fun h22=>g2 10 22 (jb (decide (x_1.2 < x_2.2))) (ct h10 hg6) h22 fun h23=>gm h23 fun h4=>gq (.nsq (.ret ?_))))))))
   have hr:=Option.some.inj h
   subst hr
   exact rrA (zn h4) rfl
 iterate 5 refine z9 (ct h16 hg12) ?_
 refine zg (ct h10 hg6) (g2 16 21 (jb false) (ct h16 hg12) (rf (.tup [])) fun h22=>g2 10 22 (jb false) (ct h10 hg6) h22 fun h23=>gm h23 fun h4=>gq (.nsq (.ret ?_)))
 have hr:=Option.some.inj h
 subst hr
 exact rrA (zn h4) rfl
end
def e48 (F:Nat):Ent:=ent 48 (fun (x:((Int×Int)×(Int×Int)×Unit))=>uN F x.1 x.2.1) (fun (r:Bool)=>(Enc.enc (r:Bool))) 0 false []
abbrev C48 (D:List V→Option V) (F:Nat):Prop:=∀ (x0:(Int×Int)) (x1:(Int×Int)) r,uN F x0 x1=some r→D [Enc.enc x0,Enc.enc x1]=some (Enc.enc (r:Bool))
theorem p48 {F:Nat}:C48 (e48 F).den F:=fun x0 x1 _ h=>zN (x0,x1,()) h
theorem o48 {D:Den} {σ:Sig} {F:Nat} (hF:zy Try.prog D σ) (H:H48 D σ F):(e48 F).Ok Try.prog:=by
 refine yl (f:=48) (show unk 48=48 from rfl) (fun args r h=>?_) ⟨Try.f48,Try.func48,rfl,rfl⟩
 obtain ⟨⟨x0,x1,_⟩,y,rfl,hy,rfl⟩:=zM h
 exact zm hF (by kernel_rfl) Try.func48 rfl c48 (show 2≤Try.f48.ntmps by decide) (t48 H x0 x1 _ ⟨rfl,rfl⟩ hy)
def zgE:AC:=(.cond (.t 17) .skip (.exit 0))
def zhc:AC:=(.block 1 (.reg [] [jm 18 5,jv 19 (.bin .add (.t 18) (jn 1)),jm 5 19] []))
def Ky:AC:=(.seq (.seq (.reg [] [jm 6 5,jm 7 0,jv 8 (.len (.t 7)),jv 9 (.bin .lss (.t 6) (.t 8)),jm 10 9,jg 11 10 true (.mov (.t 0)),jg 12 10 true (.mov (.t 5)),jg 13 10 true (.idx (.t 11) (.t 12) 2),jg 14 10 true (.load (.ag [.s,.s]) (.t 13)),jg 15 10 true (.load (.ag [.s,.s]) (.t 3)),.mk (some 16) (some (10,true)) false (.call (jf 48) [.t 14,.t 15]),jv 17 (.pick (.t 10) (.t 16) kf)] []) zgE) zhc)
def zaB:AC:=(.seq (.reg [.clr [20,24,26,27,31]] [jy 20 (.lit (.agg [i0,i0]) 0 []),jm 21 0,jm 22 5,jv 23 (.slice (.t 21) none (some (.t 22)) 2),jy 24 (.appS (.ag [.s,.s]) (.t 20) (.t 23)),jv 25 (.load (.ag [.s,.s]) (.t 3)),jx 26 (.lit (.agg [i0,i0]) 1 [(0,0,.t 25)]),jy 27 (.appS (.ag [.s,.s]) (.t 24) (.t 26)),jm 28 0,jm 29 5,jv 30 (.slice (.t 28) (some (.t 29)) none 2),jx 31 (.appS (.ag [.s,.s]) (.t 27) (.t 30)),jm 4 31] [.home 31 4]) .ret)
def znQ:AC:=(.seq (.block 0 (.loop Ky)) zaB)
def zlw:AC:=(.seq (.reg [] [jv 5 (.mov (jn 0))] []) znQ)
def zoA:AC:=(.seq (.reg [.clr [3]] [jx 3 (.box (.t 1)),jv 4 (.mov (.k (.sl .nl (.ag [.s,.s]) 0 [])))] []) zlw)
def zpi:List An:=[⟨0,[.clr [3]],[],[],[]⟩,⟨4,[.clr [20,24,26,27,31]],[0,4,7],[4,7,11],[.home 31 4]⟩]
theorem c71o:cC Try.prog Try.f71.ntmps zpi (Try.f71.body.getD .skip)=some zoA:=by kernel_rfl
structure zkB (D:Den) (σ:Sig) (F:Nat):Prop where
 c48:C48 (D 48) F
 g48:σ 48=some (0,false)
abbrev zj6 (r:(NL (Int×Int))):(Nat→V)→Prop:=RR Try.prog [.tmp 4] 1 false (zi .sh (r:NL (Int×Int)))
section
variable {D:Den} {σ:Sig} {F:Nat} {r:(NL (Int×Int))}
def ud (F:Nat) (x_1:LP) (e_2:(Int×Int)) (x_8:Int) (c1:Int→Option (NL (Int×Int))) (x_16:Bool):Option (NL (Int×Int)):=
 bif x_16 then
  c1 (w64 (x_8 + 1))
 else
  (sub x_1 0 x_8).bind fun sub_17=>
  (wS [] sub_17).bind fun ap_18=>
  (wS ap_18 [e_2]).bind fun ap_19=>
  (sub x_1 x_8 (x_1.length:Int)).bind fun sub_20=>
  (wS ap_19 sub_20).bind fun ap_21=>
  some (.of ap_21)
theorem Nd (H:zkB D σ F) (x_1:LP) (e_2:(Int×Int)) (x_8:Int) (c1:Int→Option (NL (Int×Int))) (Hc1:∀ (x_8:Int) (s:Nat→V),zl [(0,eP x_1),(3,.ref (.bx 3) 0 [] (.agg [ji e_2.1,ji e_2.2])),(4,nP),(5,ji x_8)] s→c1 x_8=some r→Run D σ (zj6 r) (.run Ky [.lp Ky,.bk 0,.sq zaB]) s) (x_16:Bool) (s:Nat→V) (hs:zl [(0,eP x_1),(3,.ref (.bx 3) 0 [] (.agg [ji e_2.1,ji e_2.2])),(4,nP),(5,ji x_8),(17,jb x_16)] s) (h:ud F x_1 e_2 x_8 c1 x_16=some r):Run D σ (zj6 r) (.nrm [.sq zgE,.sq zhc,.lp Ky,.bk 0,.sq zaB]) s:=by
 unfold ud at h
 obtain ⟨h0,h3,h4,h5,h17⟩:=hs
 refine .nsq (zk (t:=x_16) h17 h (fun h=>?_) (fun h=>?_))
 · refine .skip (.nsq (.block (rg (gm h5 fun h18=>g1 18 (ji (w64 (x_8 + 1))) h18 fun h19=>gm h19 fun h5=>gq (.nbk (.nlp ?_))))))
   exact Hc1 (w64 (x_8 + 1)) _ ⟨h0,h3,h4,h5⟩ h
 refine .exit (.esq (.elp (.ebk (.nsq (.seq (zq (zS ?_)))))))
 refine ez [(0,_),(3,_),(4,_),(5,_),(20,_),(24,_),(26,_),(27,_),(31,_)] ⟨za h0 rfl me,za h3 rfl (zf rfl mII),za h4 rfl rfl,za h5 rfl mi,zc rfl,zc rfl,zc rfl,zc rfl,zc rfl⟩ ?_
 rintro s ⟨h0,h3,h4,h5,h20,h24,h26,h27,h31⟩
 refine zas [] [] trivial rfl rfl h20 (gm h0 fun h21=>gm h5 fun h22=>?_)
 obtain ⟨sub_17,E_sub_17,h⟩:=bind_some h
 refine gv (eP sub_17) (zbm (xs:=x_1) h21 (Xt) (Xx h22) E_sub_17 rfl) fun h23=>?_
 obtain ⟨ap_18,E_ap_18,h⟩:=bind_some h
 refine WY (p:=[]) (xs:=[]) (ys:=(sub_17:LP)) (t2:=.sh) (lo2:=0) rfl h23 rfl h24 rfl E_ap_18 (g1 3 (.agg [ji e_2.1,ji e_2.2]) h3 fun h25=>xT [(25,.agg [ji e_2.1,ji e_2.2])] [Enc.enc (e_2:(Int×Int))] h25 rfl rfl h26 ?_)
 obtain ⟨ap_19,E_ap_19,h⟩:=bind_some h
 refine WY (p:=[]) (xs:=ap_18) (ys:=([e_2]:LP)) (t2:=.at 26 []) (lo2:=0) rfl rfl rfl h27 rfl E_ap_19 (gm h0 fun h28=>gm h5 fun h29=>?_)
 obtain ⟨sub_20,E_sub_20,h⟩:=bind_some h
 refine gv (eP sub_20) (zbm (xs:=x_1) h28 (Xx h29) (Xt) E_sub_20 rfl) fun h30=>?_
 obtain ⟨ap_21,E_ap_21,h⟩:=bind_some h
 refine WY (p:=[]) (xs:=ap_19) (ys:=(sub_20:LP)) (t2:=.sh) (lo2:=0) rfl h30 rfl h31 rfl E_ap_21 (gm (rf (zi (.at 31 []) (.of (ap_21:LP)))) fun h4=>yQ (yC (r:=31) (x:=4) (v:=_) h4 rfl (fun s_3 hg_3=>?_)))
 refine ez [(4,zi (.at 4 []) (.of (ap_21:LP)))] (hg_3 4 _ _ h4 (zj (r:=31) (p:=[]) rfl rfl)) ?_
 rintro s h4
 refine .nsq (.ret ?_)
 have hr:=Option.some.inj h
 subst hr
 exact rrA (zn h4) (Z6 (Yj (o:=((.of ap_21):NL (Int×Int)))) rfl (xB rfl))
def wn (F:Nat) (x_1:LP) (e_2:(Int×Int)) :Nat→Int→Option (NL (Int×Int))
 | 0,_=>none
 | k + 1,x_8=>
   bif decide (x_8 < (x_1.length:Int)) then
    (idx x_1 x_8).bind fun e_22=>
    (uN F e_22 e_2).bind fun r_23=>
    ud F x_1 e_2 x_8 (wn F x_1 e_2 k) r_23
   else
    ud F x_1 e_2 x_8 (wn F x_1 e_2 k) false
theorem zfH (H:zkB D σ F) (x_1:LP) (e_2:(Int×Int)) :∀ (k:Nat) (x_8:Int) (s:Nat→V),zl [(0,eP x_1),(3,.ref (.bx 3) 0 [] (.agg [ji e_2.1,ji e_2.2])),(4,nP),(5,ji x_8)] s→wn F x_1 e_2 k x_8=some r→Run D σ (zj6 r) (.run Ky [.lp Ky,.bk 0,.sq zaB]) s:=by
 intro k
 induction k with
 | zero=>intro x_8 s _ h;exact nm h
 | succ k ih=>
   intro x_8 s hs h
   rw [wn] at h
   obtain ⟨h0,h3,h4,h5⟩:=hs
   refine .seq (.seq (rg (gm h5 fun h6=>gm h0 fun h7=>gv (ji (x_1.length:Int)) (yu (xs:=x_1) h7) fun h8=>g2 6 8 (jb (decide (x_8 < (x_1.length:Int)))) h6 h8 fun h9=>gm h9 fun h10=>zW (c:=decide (x_8 < (x_1.length:Int))) h (fun hg5 h=>?_) (fun hg5 h=>?_))))
   · refine zg (ct h10 hg5) (gm h0 fun h11=>zg (ct h10 hg5) (gm h5 fun h12=>?_))
     obtain ⟨e_22,E_e_22,h⟩:=bind_some h
     refine zg (ct h10 hg5) (gv (.ref .sh 0 [] (.agg [ji e_22.1,ji e_22.2])) (yz (t:=.sh) (lo:=0) (xs:=x_1) h11 h12 E_e_22 rfl rfl) fun h13=>zg (ct h10 hg5) (g1 13 (.agg [ji e_22.1,ji e_22.2]) h13 fun h14=>zg (ct h10 hg5) (g1 3 (.agg [ji e_2.1,ji e_2.2]) h3 fun h15=>?_)))
     obtain ⟨r_23,E_r_23,h⟩:=bind_some h
     refine zg (ct h10 hg5) (zF (m:=0) (al:=false) (r:=Enc.enc (r_23:Bool)) [Enc.enc (e_22:(Int×Int)),Enc.enc (e_2:(Int×Int))] (ze (v:=.agg [ji e_22.1,ji e_22.2]) h14 rfl (Enc.erase_enc (e_22:(Int×Int))) (ze (v:=.agg [ji e_2.1,ji e_2.2]) h15 rfl (Enc.erase_enc (e_2:(Int×Int))) zx)) (H.c48 _ _ _ E_r_23) H.g48 rfl rfl rfl rfl (g2 10 16 (jb r_23) (ct h10 hg5) (rf (jb r_23)) fun h17=>gq ?_))
     exact Nd H x_1 e_2 x_8 (wn F x_1 e_2 k) ih r_23 _ ⟨h0,h3,h4,h5,h17⟩ h
   iterate 6 refine z9 (ct h10 hg5) ?_
   refine g2 10 16 (jb false) (ct h10 hg5) (rf (.tup [])) fun h17=>gq ?_
   exact Nd H x_1 e_2 x_8 (wn F x_1 e_2 k) ih false _ ⟨h0,h3,h4,h5,h17⟩ h
def uV (F:Nat) (x_1:LP) (e_2:(Int×Int)):Option (NL (Int×Int)):=
 wn F x_1 e_2 F 0
theorem ztX (H:zkB D σ F) (x_1:LP) (e_2:(Int×Int)) (s:Nat→V) (hs:zl [(0,eP x_1),(1,.agg [ji e_2.1,ji e_2.2])] s) (h:uV F x_1 e_2=some r):Run D σ (zj6 r) (.run zoA []) s:=by
 unfold uV at h
 obtain ⟨h0,h1⟩:=hs
 refine .seq (zq (zS ?_))
 refine ez [(0,_),(1,_),(3,_)] ⟨za h0 rfl me,za h1 rfl mII,zc rfl⟩ ?_
 rintro s ⟨h0,h1,h3⟩
 refine xz (.agg [ji e_2.1,ji e_2.2]) (zw h1 rfl) h3 rfl (g0 nP fun h4=>gq (.nsq (.seq (rg (g0 (ji 0) fun h5=>gq (.nsq (.seq (.block (.loop ?_)))))))))
 exact zfH H x_1 e_2 F 0 _ ⟨h0,rfl,h4,h5⟩ h
end
def zmk (F:Nat):Ent:=ent 1000000071 (fun (x:(LP×(Int×Int)×Unit))=>uV F x.1 x.2.1) (fun (r:(NL (Int×Int)))=>(zi .sh (r:NL (Int×Int)))) 1 false []
abbrev znn (D:List V→Option V) (F:Nat):Prop:=∀ (x0:LP) (x1:(Int×Int)) r,uV F x0 x1=some r→D [Enc.enc x0,Enc.enc x1]=some (zi .sh (r:NL (Int×Int)))
theorem zqd {F:Nat}:znn (zmk F).den F:=fun x0 x1 _ h=>zN (x0,x1,()) h
theorem ztw {D:Den} {σ:Sig} {F:Nat} (hF:zy Try.prog D σ) (H:zkB D σ F):(zmk F).Ok Try.prog:=by
 refine yl (f:=71) (show unk 1000000071=71 from rfl) (fun args r h=>?_) ⟨Try.f71,Try.func71,rfl,rfl⟩
 obtain ⟨⟨x0,x1,_⟩,y,rfl,hy,rfl⟩:=zM h
 exact zm hF (by kernel_rfl) Try.func71 rfl c71o (show 2≤Try.f71.ntmps by decide) (ztX H x0 x1 _ ⟨rfl,rfl⟩ hy)
def zmT:AC:=(.seq (.reg [] [jv 13 (.load (.ag [.s,.p]) (.t 3)),jz (.store (.ag [.s,.p]) (.t 2) (.t 13))] []) .ret)
def zny:AC:=(.seq (.reg [.clr [11]] [jv 6 (.fld (.t 3) 1 1),jv 7 (.load .p (.t 6)),jm 8 0,jv 9 (.bin .sub (.t 8) (jn 1)),jv 10 (.bld (.agg [i0,i0]) [(0,0,jn 0),(1,1,.t 9)]),jx 11 (.callO (jf 71) [.t 7,.t 10]),jv 12 (.fld (.t 3) 1 1),jz (.store .p (.t 12) (.t 11))] [.drp 5,.home 11 5]) zmT)
def zmK:AC:=(.seq (.reg [.clr [5,3]] [jm 4 0,jx 5 (.callO (jf 68) [.t 4]),jx 3 (.alloc (.agg [i0,.sl .nl (.ag [.s,.s]) 0 []])),jz (.store (.ag [.s,.p]) (.t 3) (.t 5))] []) zny)
def zsm:AC:=(.seq (.reg [.clr [2]] [jx 2 (.alloc (.agg [i0,.sl .nl (.ag [.s,.s]) 0 []]))] []) zmK)
def zrM:List An:=[⟨0,[.clr [2]],[],[],[]⟩,⟨1,[.clr [5,3]],[],[1001],[]⟩,⟨2,[.clr [11]],[],[1005],[.drp 5,.home 11 5]⟩]
theorem c69o:cC Try.prog Try.f69.ntmps zrM (Try.f69.body.getD .skip)=some zsm:=by kernel_rfl
structure zqy (D:Den) (σ:Sig) (F:Nat):Prop where
 c68o:zmh (D 1000000068) F
 g68o:σ 1000000068=some (1,false)
 c71o:znn (D 1000000071) F
 g71o:σ 1000000071=some (1,false)
abbrev zur (r:(Int×(NL (Int×Int)))):(Nat→V)→Prop:=RR Try.prog [.cell 2 26] 1 false (.agg [Enc.enc (r.1:Int),zi .sh (r.2:NL (Int×Int))])
section
variable {D:Den} {σ:Sig} {F:Nat} {r:(Int×(NL (Int×Int)))}
def uR (F:Nat) (x_1:Int):Option (Int×(NL (Int×Int))):=
 (ZN F x_1).bind fun r_2=>
 (uV F r_2.2.list (0,w64 (x_1 - 1))).bind fun r_3=>
 some (r_2.1,r_3)
theorem zuR (H:zqy D σ F) (x_1:Int) (s:Nat→V) (hs:zl [(0,ji x_1)] s) (h:uR F x_1=some r):Run D σ (zur r) (.run zsm []) s:=by
 unfold uR at h
 have h0:=hs
 refine .seq (zq (zS ?_))
 refine ez [(0,_),(2,_)] ⟨za h0 rfl mi,zc rfl⟩ ?_
 rintro s ⟨h0,h2⟩
 refine xk h2 (gq (.nsq (.seq (zq (zS ?_)))))
 refine ez [(0,_),(2,_),(3,_),(5,_)] ⟨za h0 rfl mi,za rfl rfl (zf rfl (mIx rfl)),zc rfl,zc rfl⟩ ?_
 rintro s ⟨h0,h2,h3,h5⟩
 refine gm h0 fun h4=>?_
 obtain ⟨r_2,E_r_2,h⟩:=bind_some h
 refine ZA (m:=1) (al:=false) (r:=.agg [Enc.enc (r_2.1:Int),zi .sh (r_2.2:NL (Int×Int))]) (v:=.agg [ji r_2.1,zi (.at 5 [1]) (r_2.2:NL (Int×Int))]) (kk:=1000000068) [Enc.enc (x_1:Int)] (ze (v:=ji x_1) h4 rfl rfl zx) (H.c68o _ _ E_r_2) H.g68o rfl (UH (yk rfl (yk vf yH))) (J9 (Ze rfl (Ze vX Ul))) rfl h5 (xk h3 ?_)
 refine yb (.agg [ji r_2.1,zi (.at 5 [1]) (r_2.2:NL (Int×Int))]) (zw rfl rfl) (zw rfl rfl) ⟨by decide,by decide,rfl,(by simp [V.shape,V.shapes,yK,Sh.beq,Sh.beqs]),(by simp [V.shape,V.shapes,yK,Sh.beq,Sh.beqs]),(by simp [V.toks,V.tokss,ya])⟩ (gz [(0,ji x_1),(2,bZ 2),(3,.ref (.bx 3) 0 [] (.agg [ji r_2.1,zi (.at 5 [1]) (r_2.2:NL (Int×Int))]))] ⟨zb h0 rfl,zb h2 (zC rfl rfl (yr (zp rfl (zp rfl rfl)))),zb rfl rfl⟩ ?_)
 rintro s ⟨h0,h2,h3⟩
 refine .nsq (.seq (zq (zS ?_)))
 refine ez [(0,_),(2,_),(3,_),(11,_)] ⟨za h0 rfl mi,za h2 rfl (zf rfl (mIx rfl)),za h3 rfl (zf rfl (zA (zd mi (zd (zj (r:=5) (p:=[1]) rfl rfl) zh)))),zc rfl⟩ ?_
 rintro s ⟨h0,h2,h3,h11⟩
 refine g1 3 (.ref (.bx 3) 0 [1] (zi (.at 5 [1]) (r_2.2:NL (Int×Int)))) h3 fun h6=>gv (zi (.at 5 [1]) (r_2.2:NL (Int×Int))) (Z7 h6 UB) fun h7=>gm h0 fun h8=>g1 8 (ji (w64 (x_1 - 1))) h8 fun h9=>g1 9 (.agg [ji 0,ji (w64 (x_1 - 1))]) h9 fun h10=>?_
 obtain ⟨r_3,E_r_3,h⟩:=bind_some h
 refine ZA (m:=1) (al:=false) (r:=zi .sh (r_3:NL (Int×Int))) (v:=zi (.at 11 []) (r_3:NL (Int×Int))) (kk:=1000000071) [eP r_2.2.list,Enc.enc ((0,w64 (x_1 - 1)):(Int×Int))] (ze (v:=zi (.at 5 [1]) (r_2.2:NL (Int×Int))) h7 vv (vm (o:=r_2.2)) (ze (v:=.agg [ji 0,ji (w64 (x_1 - 1))]) h10 rfl (Enc.erase_enc ((0,w64 (x_1 - 1)):(Int×Int))) zx)) (H.c71o _ _ _ E_r_3) H.g71o rfl vf vX vv h11 (g1 3 (.ref (.bx 3) 0 [1] (zi (.at 5 [1]) (r_2.2:NL (Int×Int)))) h3 fun h12=>?_)
 refine yb (zi (.at 11 []) (r_3:NL (Int×Int))) (zw h12 rfl) (zw rfl vv) ⟨by decide,by decide,J2,Wq,Wq,YQ rfl rfl⟩ (yQ (W9 (x:=5) (fun s_4 hx_4 hd_4=>yC (r:=11) (x:=5) (v:=_) (by exact hx_4) rfl (fun s_5 hg_5=>?_))))
 refine ez [(2,bZ 2),(3,.ref (.bx 3) 0 [] (.agg [ji r_2.1,zi (.at 5 []) (r_3:NL (Int×Int))]))] ⟨hg_5 2 _ _ (show s_4 2=(bZ 2) from (hd_4 2 (by decide)).trans (zb h2 (zC rfl rfl (yr (zp rfl (zp rfl rfl)))))) (zf rfl (mIx rfl)),hg_5 3 _ (.ref (.bx 3) 0 [] (.agg [ji r_2.1,zi (.at 5 []) (r_3:NL (Int×Int))])) (show s_4 3=(.ref (.bx 3) 0 [] (.agg [ji r_2.1,zi (.at 11 []) (r_3:NL (Int×Int))])) from (hd_4 3 (by decide)).trans (zb h3 (XY (zp rfl (zp (uf rfl rfl) rfl))))) (zf rfl (zA (zd mi (zd (zj (r:=11) (p:=[]) rfl rfl) zh))))⟩ ?_
 rintro s ⟨h2,h3⟩
 refine .nsq (.seq (rg (gv (.agg [ji r_2.1,zi (.at 5 []) (r_3:NL (Int×Int))]) (Z7 (c:=.agg [ji r_2.1,zi (.at 5 []) (r_3:NL (Int×Int))]) h3 (by simp [V.shape,V.shapes,yK,WP,Sh.beq,Sh.beqs])) fun h13=>yb (.agg [ji r_2.1,zi (.at 5 []) (r_3:NL (Int×Int))]) (zw h2 rfl) (zw h13 rfl) ⟨by decide,by decide,rfl,(by simp [V.shape,V.shapes,yK,Sh.beq,Sh.beqs]),(by simp [V.shape,V.shapes,yK,Sh.beq,Sh.beqs]),(by simp [V.toks,V.tokss,ya])⟩ (gz [(2,.ref (.bx 2) 0 [] (.agg [ji r_2.1,zi (.at 5 []) (r_3:NL (Int×Int))]))] (zb h2 rfl) ?_))))
 rintro s h2
 refine .nsq (.ret ?_)
 have hr:=Option.some.inj h
 subst hr
 exact rrA (wN h2 (by simp only [V.shape,V.shapes,yK];kernel_rfl)) (Z6 (J3 (ZE LX (ZE (Yj (o:=(r_3:NL (Int×Int)))) UY))) rfl (XB (x9 rfl (x9 (xB rfl) u6))))
end
def zns (F:Nat):Ent:=ent 1000000069 (fun (x:(Int×Unit))=>uR F x.1) (fun (r:(Int×(NL (Int×Int))))=>(.agg [Enc.enc (r.1:Int),zi .sh (r.2:NL (Int×Int))])) 1 false []
abbrev zr9 (D:List V→Option V) (F:Nat):Prop:=∀ (x0:Int) r,uR F x0=some r→D [Enc.enc x0]=some (.agg [Enc.enc (r.1:Int),zi .sh (r.2:NL (Int×Int))])
theorem zuY {F:Nat}:zr9 (zns F).den F:=fun x0 _ h=>zN (x0,()) h
theorem zug {D:Den} {σ:Sig} {F:Nat} (hF:zy Try.prog D σ) (H:zqy D σ F):(zns F).Ok Try.prog:=by
 refine yl (f:=69) (show unk 1000000069=69 from rfl) (fun args r h=>?_) ⟨Try.f69,Try.func69,rfl,rfl⟩
 obtain ⟨⟨x0,_⟩,y,rfl,hy,rfl⟩:=zM h
 exact zm hF (by kernel_rfl) Try.func69 rfl c69o (show 1≤Try.f69.ntmps by decide) (zuR H x0 _ rfl hy)
def zlT:AC:=(.cond (.t 11) .skip (.exit 0))
def zl4:AC:=(.cond (.t 18) .skip (.exit 2))
def zmB:AC:=(.reg [] [jm 19 5,jv 20 (.bin .add (.t 19) (jn 1)),jm 5 20] [])
def zmW:AC:=(.seq (.block 3 (.reg [.clr [26,27]] [jv 21 (.fld (.t 3) 1 1),jv 22 (.load .p (.t 21)),jm 23 4,jm 24 5,jv 25 (.bld (.agg [i0,i0]) [(0,0,.t 23),(1,1,.t 24)]),jx 26 (.lit (.agg [i0,i0]) 1 [(0,0,.t 25)]),jx 27 (.app (.ag [.s,.s]) (.t 22) (.t 26)),jv 28 (.fld (.t 3) 1 1),jz (.store .p (.t 28) (.t 27))] [.drp 7,.home 27 7])) zmB)
def zdv:AC:=(.seq (.seq (.reg [] [jm 16 5,jm 17 0,jv 18 (.bin .lss (.t 16) (.t 17))] []) zl4) zmW)
def znp:AC:=(.block 2 (.loop zdv))
def zi8:AC:=(.reg [] [jm 12 4,jv 13 (.bin .add (.t 12) (jn 1)),jm 4 13] [])
def znd:AC:=(.seq (.block 1 (.seq (.reg [] [jm 14 4,jv 15 (.bin .add (.t 14) (jn 1)),jm 5 15] []) znp)) zi8)
def KF:AC:=(.seq (.seq (.reg [] [jm 9 4,jm 10 0,jv 11 (.bin .lss (.t 9) (.t 10))] []) zlT) znd)
def Lv:AC:=(.seq (.reg [] [jv 29 (.load (.ag [.s,.p]) (.t 3)),jz (.store (.ag [.s,.p]) (.t 2) (.t 29))] []) .ret)
def zku:AC:=(.block 0 (.loop KF))
def zkp:AC:=(.seq (.seq (.reg [] [jv 4 (.mov (jn 0))] []) zku) Lv)
def zj0:AC:=(.seq (.reg [.clr [7,3]] [jm 6 0,jx 7 (.lit (.agg [i0,i0]) 0 []),jv 8 (.bld (.agg [i0,.sl .nl (.ag [.s,.s]) 0 []]) [(0,0,.t 6),(1,1,.t 7)]),jx 3 (.alloc (.agg [i0,.sl .nl (.ag [.s,.s]) 0 []])),jz (.store (.ag [.s,.p]) (.t 3) (.t 8))] []) zkp)
def zpn:AC:=(.seq (.reg [.clr [2]] [jx 2 (.alloc (.agg [i0,.sl .nl (.ag [.s,.s]) 0 []]))] []) zj0)
def zse:List An:=[⟨0,[.clr [2]],[],[],[]⟩,⟨1,[.clr [7,3]],[],[],[]⟩,⟨8,[.clr [26,27]],[],[],[.drp 7,.home 27 7]⟩]
theorem c70o:cC Try.prog Try.f70.ntmps zse (Try.f70.body.getD .skip)=some zpn:=by kernel_rfl
structure zjl (D:Den) (σ:Sig) (F:Nat):Prop where
 mk ::
abbrev zjC (r:(Int×(NL (Int×Int)))):(Nat→V)→Prop:=RR Try.prog [.cell 2 26] 1 false (.agg [Enc.enc (r.1:Int),zi .sh (r.2:NL (Int×Int))])
section
variable {D:Den} {σ:Sig} {F:Nat} {r:(Int×(NL (Int×Int)))}
def uy (F:Nat) (x_1:Int) (x_8:Int) (c1:LP→Int→Option (Int×(NL (Int×Int)))):Nat→LP→Int→Option (Int×(NL (Int×Int)))
 | 0,_,_=>none
 | k + 1,x_15,x_16=>
   bif decide (x_16 < x_1) then
    (wS x_15 [(x_8,x_16)]).bind fun ap_18=>
    (uy F x_1 x_8 c1 k) ap_18 (w64 (x_16 + 1))
   else
    c1 x_15 (w64 (x_8 + 1))
theorem zf2 (H:zjl D σ F) (x_1:Int) (x_8:Int) (c1:LP→Int→Option (Int×(NL (Int×Int)))) (Hc1:∀ (x_7:LP) (x_8:Int) (s:Nat→V),zl [(0,ji x_1),(2,bZ 2),(3,.ref (.bx 3) 0 [] (.agg [ji x_1,zi (.at 7 []) (.of (x_7:LP))])),(4,ji x_8)] s→c1 x_7 x_8=some r→Run D σ (zjC r) (.run KF [.lp KF,.bk 0,.sq Lv]) s):∀ (k:Nat) (x_15:LP) (x_16:Int) (s:Nat→V),zl [(0,ji x_1),(2,bZ 2),(3,.ref (.bx 3) 0 [] (.agg [ji x_1,zi (.at 7 []) (.of (x_15:LP))])),(4,ji x_8),(5,ji x_16)] s→uy F x_1 x_8 c1 k x_15 x_16=some r→Run D σ (zjC r) (.run zdv [.lp zdv,.bk 2,.bk 1,.sq zi8,.lp KF,.bk 0,.sq Lv]) s:=by
 intro k
 induction k with
 | zero=>intro x_15 x_16 s _ h;exact nm h
 | succ k ih=>
   intro x_15 x_16 s hs h
   rw [uy] at h
   obtain ⟨h0,h2,h3,h4,h5⟩:=hs
   refine .seq (.seq (rg (gm h5 fun h16=>gm h0 fun h17=>g2 16 17 (jb (decide (x_16 < x_1))) h16 h17 fun h18=>gq (.nsq (zk (t:=decide (x_16 < x_1)) h18 h (fun h=>?_) (fun h=>?_))))))
   · refine .skip (.nsq (.seq (.block (zq (zS ?_)))))
     refine ez [(0,_),(2,_),(3,_),(4,_),(5,_),(26,_),(27,_)] ⟨za h0 rfl mi,za h2 rfl (zf rfl (mIx rfl)),za h3 rfl (zf rfl (zA (zd mi (zd (zj (r:=7) (p:=[]) rfl rfl) zh)))),za h4 rfl mi,za h5 rfl mi,zc rfl,zc rfl⟩ ?_
     rintro s ⟨h0,h2,h3,h4,h5,h26,h27⟩
     refine g1 3 (.ref (.bx 3) 0 [1] (zi (.at 7 []) (.of (x_15:LP)))) h3 fun h21=>g1 21 (zi (.at 7 []) (.of (x_15:LP))) h21 fun h22=>gm h4 fun h23=>gm h5 fun h24=>g2 23 24 (.agg [ji x_8,ji x_16]) h23 h24 fun h25=>xT [(25,.agg [ji x_8,ji x_16])] [Enc.enc ((x_8,x_16):(Int×Int))] h25 rfl rfl h26 ?_
     obtain ⟨ap_18,E_ap_18,h⟩:=bind_some h
     refine Xz (q:=7) (p:=[]) (o:=.of (x_15:LP)) (ys:=([(x_8,x_16)]:LP)) (t2:=.at 26 []) (lo2:=0) h22 rfl rfl h27 (ZJ (o:=.of (x_15:LP)) E_ap_18 trivial) (fun s_36 ha_36=>g1 3 (.ref (.bx 3) 0 [1] (kdO ((.of x_15):NL (Int×Int)))) (show s_36 3=(.ref (.bx 3) 0 [] (.agg [ji x_1,kdO ((.of x_15):NL (Int×Int))])) from uu ha_36 h3 (zf rfl (zA (zd mi (zd YL zh)))) (by intro h;first | (cases h;done) | (subst h;rfl))) fun h28=>yb (zi (.at 27 []) (.of (ap_18:LP))) (zw h28 rfl) (zw rfl rfl) ⟨by decide,by decide,rfl,rfl,JO,YQ rfl rfl⟩ (yQ ?_))
     refine W9 (x:=7) (fun s_37 hx_37 hd_37=>yC (r:=27) (x:=7) (v:=_) (by exact hx_37) rfl (fun s_38 hg_38=>?_))
     refine ez [(0,ji x_1),(2,bZ 2),(3,.ref (.bx 3) 0 [] (.agg [ji x_1,zi (.at 7 []) (.of (ap_18:LP))])),(4,ji x_8),(5,ji x_16)] ⟨hg_38 0 _ _ (show s_37 0=(ji x_1) from (hd_37 0 (by decide)).trans (zb (show s_36 0=(ji x_1) from zJ ha_36 h0 mi) rfl)) mi,hg_38 2 _ _ (show s_37 2=(bZ 2) from (hd_37 2 (by decide)).trans (zb (show s_36 2=(bZ 2) from zJ ha_36 h2 (zf rfl (mIx rfl))) (zC rfl rfl (yr (zp rfl (zp rfl rfl)))))) (zf rfl (mIx rfl)),hg_38 3 _ (.ref (.bx 3) 0 [] (.agg [ji x_1,zi (.at 7 []) (.of (ap_18:LP))])) (show s_37 3=(.ref (.bx 3) 0 [] (.agg [ji x_1,zi (.at 27 []) (.of (ap_18:LP))])) from (hd_37 3 (by decide)).trans (zb (show s_36 3=(.ref (.bx 3) 0 [] (.agg [ji x_1,kdO ((.of x_15):NL (Int×Int))])) from uu ha_36 h3 (zf rfl (zA (zd mi (zd YL zh)))) (by intro h;first | (cases h;done) | (subst h;rfl))) (XY (zp rfl (zp J7 rfl))))) (zf rfl (zA (zd mi (zd (zj (r:=27) (p:=[]) rfl rfl) zh)))),hg_38 4 _ _ (show s_37 4=(ji x_8) from (hd_37 4 (by decide)).trans (zb (show s_36 4=(ji x_8) from zJ ha_36 h4 mi) rfl)) mi,hg_38 5 _ _ (show s_37 5=(ji x_16) from (hd_37 5 (by decide)).trans (zb (show s_36 5=(ji x_16) from zJ ha_36 h5 mi) rfl)) mi⟩ ?_
     rintro s ⟨h0,h2,h3,h4,h5⟩
     refine .nbk (.nsq (rg (gm h5 fun h19=>g1 19 (ji (w64 (x_16 + 1))) h19 fun h20=>gm h20 fun h5=>gq (.nlp ?_))))
     exact ih ap_18 (w64 (x_16 + 1)) _ ⟨h0,h2,h3,h4,h5⟩ h
   refine .exit (.esq (.elp (.ebk (.nbk (.nsq (rg (gm h4 fun h12=>g1 12 (ji (w64 (x_8 + 1))) h12 fun h13=>gm h13 fun h4=>gq (.nlp ?_))))))))
   exact Hc1 x_15 (w64 (x_8 + 1)) _ ⟨h0,h2,h3,h4⟩ h
def vE (F:Nat) (x_1:Int) :Nat→LP→Int→Option (Int×(NL (Int×Int)))
 | 0,_,_=>none
 | k + 1,x_7,x_8=>
   bif decide (x_8 < x_1) then
    uy F x_1 x_8 (vE F x_1 k) F x_7 (w64 (x_8 + 1))
   else
    some (x_1,.of x_7)
theorem zf0 (H:zjl D σ F) (x_1:Int) :∀ (k:Nat) (x_7:LP) (x_8:Int) (s:Nat→V),zl [(0,ji x_1),(2,bZ 2),(3,.ref (.bx 3) 0 [] (.agg [ji x_1,zi (.at 7 []) (.of (x_7:LP))])),(4,ji x_8)] s→vE F x_1 k x_7 x_8=some r→Run D σ (zjC r) (.run KF [.lp KF,.bk 0,.sq Lv]) s:=by
 intro k
 induction k with
 | zero=>intro x_7 x_8 s _ h;exact nm h
 | succ k ih=>
   intro x_7 x_8 s hs h
   rw [vE] at h
   obtain ⟨h0,h2,h3,h4⟩:=hs
   refine .seq (.seq (rg (gm h4 fun h9=>gm h0 fun h10=>g2 9 10 (jb (decide (x_8 < x_1))) h9 h10 fun h11=>gq (.nsq (zk (t:=decide (x_8 < x_1)) h11 h (fun h=>?_) (fun h=>?_))))))
   · refine .skip (.nsq (.seq (.block (.seq (rg (gm h4 fun h14=>g1 14 (ji (w64 (x_8 + 1))) h14 fun h15=>gm h15 fun h5=>gq (.nsq (.block (.loop ?_)))))))))
     exact zf2 H x_1 x_8 (vE F x_1 k) ih F x_7 (w64 (x_8 + 1)) _ ⟨h0,h2,h3,h4,h5⟩ h
   refine .exit (.esq (.elp (.ebk (.nsq (.seq (rg (g1 3 (.agg [ji x_1,zi (.at 7 []) (.of (x_7:LP))]) h3 fun h29=>yb (.agg [ji x_1,zi (.at 7 []) (.of (x_7:LP))]) (zw h2 rfl) (zw h29 rfl) (wj (by first | rfl | simp [V.toks,V.tokss,Enc.toks_enc,ya])) (gz [(2,.ref (.bx 2) 0 [] (.agg [ji x_1,zi (.at 7 []) (.of (x_7:LP))]))] (zb h2 rfl) ?_))))))))
   rintro s h2
   refine .nsq (.ret ?_)
   have hr:=Option.some.inj h
   subst hr
   exact rrA (wN h2 (by kernel_rfl)) (Z6 (J3 (ZE LX (ZE (Yj (o:=((.of x_7):NL (Int×Int)))) UY))) rfl (XB (x9 rfl (x9 (xB rfl) u6))))
def vZ (F:Nat) (x_1:Int):Option (Int×(NL (Int×Int))):=
 vE F x_1 F [] 0
theorem zud (H:zjl D σ F) (x_1:Int) (s:Nat→V) (hs:zl [(0,ji x_1)] s) (h:vZ F x_1=some r):Run D σ (zjC r) (.run zpn []) s:=by
 unfold vZ at h
 have h0:=hs
 refine .seq (zq (zS ?_))
 refine ez [(0,_),(2,_)] ⟨za h0 rfl mi,zc rfl⟩ ?_
 rintro s ⟨h0,h2⟩
 refine xk h2 (gq (.nsq (.seq (zq (zS ?_)))))
 refine ez [(0,_),(2,_),(3,_),(7,_)] ⟨za h0 rfl mi,za rfl rfl (zf rfl (mIx rfl)),zc rfl,zc rfl⟩ ?_
 rintro s ⟨h0,h2,h3,h7⟩
 refine gm h0 fun h6=>xT [] [] trivial rfl rfl h7 (g2 6 7 (.agg [ji x_1,zi (.at 7 []) (.of ([]:LP))]) h6 (rf (zi (.at 7 []) (.of ([]:LP)))) fun h8=>xk h3 (yb (.agg [ji x_1,zi (.at 7 []) (.of ([]:LP))]) (zw rfl rfl) (zw h8 rfl) (wj (by first | rfl | simp [V.toks,V.tokss,Enc.toks_enc,ya])) (gz [(0,ji x_1),(2,bZ 2),(3,.ref (.bx 3) 0 [] (.agg [ji x_1,zi (.at 7 []) (.of ([]:LP))]))] ⟨zb h0 rfl,zb h2 (zC rfl rfl (yr (zp rfl (zp rfl rfl)))),zb rfl rfl⟩ ?_)))
 rintro s ⟨h0,h2,h3⟩
 refine .nsq (.seq (.seq (rg (g0 (ji 0) fun h4=>gq (.nsq (.block (.loop ?_)))))))
 exact zf0 H x_1 F [] 0 _ ⟨h0,h2,h3,h4⟩ h
end
def zmq (F:Nat):Ent:=ent 1000000070 (fun (x:(Int×Unit))=>vZ F x.1) (fun (r:(Int×(NL (Int×Int))))=>(.agg [Enc.enc (r.1:Int),zi .sh (r.2:NL (Int×Int))])) 1 false []
abbrev zoI (D:List V→Option V) (F:Nat):Prop:=∀ (x0:Int) r,vZ F x0=some r→D [Enc.enc x0]=some (.agg [Enc.enc (r.1:Int),zi .sh (r.2:NL (Int×Int))])
theorem zuh {F:Nat}:zoI (zmq F).den F:=fun x0 _ h=>zN (x0,()) h
theorem zte {D:Den} {σ:Sig} {F:Nat} (hF:zy Try.prog D σ) (H:zjl D σ F):(zmq F).Ok Try.prog:=by
 refine yl (f:=70) (show unk 1000000070=70 from rfl) (fun args r h=>?_) ⟨Try.f70,Try.func70,rfl,rfl⟩
 obtain ⟨⟨x0,_⟩,y,rfl,hy,rfl⟩:=zM h
 exact zm hF (by kernel_rfl) Try.func70 rfl c70o (show 1≤Try.f70.ntmps by decide) (zud H x0 _ rfl hy)
def zpN:AC:=(.cond (.t 7) (.seq (.reg [] [jm 8 0,jm 4 8] []) .ret) .skip)
def zro:AC:=(.seq (.reg [] [jm 9 1,jm 4 9] []) .ret)
def zsx:AC:=(.seq (.seq (.reg [] [jm 5 0,jm 6 1,jv 7 (.bin .gtr (.t 5) (.t 6))] []) zpN) zro)
def A39:AC:=(.seq (.reg [] [jv 4 (.mov (jn 0))] []) zsx)
def zuw:List An:=[]
theorem c39:cC Try.prog Try.f39.ntmps zuw (Try.f39.body.getD .skip)=some A39:=by kernel_rfl
structure H39 (D:Den) (σ:Sig) (F:Nat):Prop where
 mk ::
abbrev R39 (r:Int):(Nat→V)→Prop:=RR Try.prog [.tmp 4] 0 false (Enc.enc (r:Int))
section
variable {D:Den} {σ:Sig} {F:Nat} {r:Int}
def Zo (F:Nat) (x_1:Int) (x_2:Int):Option Int:=
 bif decide (x_1 > x_2) then
  some x_1
 else
  some x_2
theorem t39 (H:H39 D σ F) (x_1:Int) (x_2:Int) (s:Nat→V) (hs:zl [(0,ji x_1),(1,ji x_2)] s) (h:Zo F x_1 x_2=some r):Run D σ (R39 r) (.run A39 []) s:=by
 unfold Zo at h
 obtain ⟨h0,h1⟩:=hs
 refine .seq (rg (g0 (ji 0) fun h4=>gq (.nsq (.seq (.seq (rg (gm h0 fun h5=>gm h1 fun h6=>g2 5 6 (jb (decide (x_1 > x_2))) h5 h6 fun h7=>gq (.nsq (zk (t:=decide (x_1 > x_2)) h7 h (fun h=>?_) (fun h=>?_))))))))))
 · refine .seq (rg (gm h0 fun h8=>gm h8 fun h4=>gq (.nsq (.ret ?_))))
   have hr:=Option.some.inj h
   subst hr
   exact rrA (zn h4) rfl
 refine .skip (.nsq (.seq (rg (gm h1 fun h9=>gm h9 fun h4=>gq (.nsq (.ret ?_))))))
 have hr:=Option.some.inj h
 subst hr
 exact rrA (zn h4) rfl
end
def e39 (F:Nat):Ent:=ent 39 (fun (x:(Int×Int×Unit))=>Zo F x.1 x.2.1) (fun (r:Int)=>(Enc.enc (r:Int))) 0 false []
abbrev C39 (D:List V→Option V) (F:Nat):Prop:=∀ (x0:Int) (x1:Int) r,Zo F x0 x1=some r→D [Enc.enc x0,Enc.enc x1]=some (Enc.enc (r:Int))
theorem p39 {F:Nat}:C39 (e39 F).den F:=fun x0 x1 _ h=>zN (x0,x1,()) h
theorem o39 {D:Den} {σ:Sig} {F:Nat} (hF:zy Try.prog D σ) (H:H39 D σ F):(e39 F).Ok Try.prog:=by
 refine yl (f:=39) (show unk 39=39 from rfl) (fun args r h=>?_) ⟨Try.f39,Try.func39,rfl,rfl⟩
 obtain ⟨⟨x0,x1,_⟩,y,rfl,hy,rfl⟩:=zM h
 exact zm hF (by kernel_rfl) Try.func39 rfl c39 (show 2≤Try.f39.ntmps by decide) (t39 H x0 x1 _ ⟨rfl,rfl⟩ hy)
def zq6:AC:=(.cond (.t 13) .skip (.exit 0))
def zlf:AC:=(.cond (.t 42) (.seq (.reg [] [jv 6 (.mov kt)] []) .ret) .skip)
def zoc:AC:=(.seq (.reg [] [jv 21 (.idxA (.t 8) (jn 0) 2 1),jv 22 (.load .s (.t 21)),jm 23 1,jv 24 (.bin .eql (.t 22) (.t 23)),jm 25 24,jg 26 25 true (.idxA (.t 8) (jn 1) 2 1),jg 27 25 true (.load .s (.t 26)),jg 28 25 true (.mov (.t 2)),jg 29 25 true (.bin .eql (.t 27) (.t 28)),jv 30 (.pick (.t 25) (.t 29) kf),jm 31 30,jg 32 31 false (.idxA (.t 8) (jn 0) 2 1),jg 33 31 false (.load .s (.t 32)),jg 34 31 false (.mov (.t 2)),jg 35 31 false (.bin .eql (.t 33) (.t 34)),jg 36 31 false (.mov (.t 35)),jg 37 36 true (.idxA (.t 8) (jn 1) 2 1),jg 38 36 true (.load .s (.t 37)),jg 39 36 true (.mov (.t 1)),jg 40 36 true (.bin .eql (.t 38) (.t 39)),jg 41 31 false (.pick (.t 36) (.t 40) kf),jv 42 (.pick (.t 31) kt (.t 41))] []) zlf)
def zkK:AC:=(.reg [] [jm 14 7,jv 15 (.bin .add (.t 14) (jn 1)),jm 7 15] [])
def zrq:AC:=(.seq (.block 1 (.seq (.reg [.clr [8]] [jv 16 (.fld (.t 3) 1 1),jv 17 (.load .p (.t 16)),jm 18 7,jv 19 (.idx (.t 17) (.t 18) 2),jv 20 (.load (.ag [.s,.s]) (.t 19)),jx 8 (.alloc (.agg [i0,i0])),jz (.store (.ag [.s,.s]) (.t 8) (.t 20))] []) zoc)) zkK)
def Nz:AC:=(.seq (.seq (.reg [] [jm 9 7,jv 10 (.fld (.t 3) 1 1),jv 11 (.load .p (.t 10)),jv 12 (.len (.t 11)),jv 13 (.bin .lss (.t 9) (.t 12))] []) zq6) zrq)
def zeJ:AC:=(.seq (.reg [] [jv 6 (.mov kf)] []) .ret)
def zoS:AC:=(.block 0 (.loop Nz))
def zoz:AC:=(.seq (.seq (.reg [] [jv 7 (.mov (jn 0))] []) zoS) zeJ)
def A57:AC:=(.seq (.reg [.clr [3]] [jx 3 (.box (.t 0)),jv 6 (.mov kf)] []) zoz)
def zuC:List An:=[⟨0,[.clr [3]],[],[],[]⟩,⟨4,[.clr [8]],[],[],[]⟩]
theorem c57:cC Try.prog Try.f57.ntmps zuC (Try.f57.body.getD .skip)=some A57:=by kernel_rfl
structure H57 (D:Den) (σ:Sig) (F:Nat):Prop where
 mk ::
abbrev R57 (r:Bool):(Nat→V)→Prop:=RR Try.prog [.tmp 6] 0 false (Enc.enc (r:Bool))
section
variable {D:Den} {σ:Sig} {F:Nat} {r:Bool}
def ua (F:Nat) (x_2:Int) (x_3:Int) (x_1:GR) (x_6:Int) (c1:Int→Option Bool) (x_10:Bool):Option Bool:=
 bif x_10 then
  some true
 else
  c1 (w64 (x_6 + 1))
theorem Uv (H:H57 D σ F) (x_2:Int) (x_3:Int) (x_1:GR) (x_6:Int) (c1:Int→Option Bool) (Hc1:∀ (x_6:Int) (s:Nat→V),zl [(1,ji x_2),(2,ji x_3),(3,bG 3 x_1),(6,jb false),(7,ji x_6)] s→c1 x_6=some r→Run D σ (R57 r) (.run Nz [.lp Nz,.bk 0,.sq zeJ]) s) (x_10:Bool) (s:Nat→V) (hs:zl [(1,ji x_2),(2,ji x_3),(3,bG 3 x_1),(6,jb false),(7,ji x_6),(42,jb x_10)] s) (h:ua F x_2 x_3 x_1 x_6 c1 x_10=some r):Run D σ (R57 r) (.nrm [.sq zlf,.bk 1,.sq zkK,.lp Nz,.bk 0,.sq zeJ]) s:=by
 unfold ua at h
 obtain ⟨h1,h2,h3,h6,h7,h42⟩:=hs
 refine .nsq (zk (t:=x_10) h42 h (fun h=>?_) (fun h=>?_))
 · refine .seq (rg (g0 (jb true) fun h6=>gq (.nsq (.ret ?_))))
   have hr:=Option.some.inj h
   subst hr
   exact rrA (zn h6) rfl
 refine .skip (.nbk (.nsq (rg (gm h7 fun h14=>g1 14 (ji (w64 (x_6 + 1))) h14 fun h15=>gm h15 fun h7=>gq (.nlp ?_)))))
 exact Hc1 (w64 (x_6 + 1)) _ ⟨h1,h2,h3,h6,h7⟩ h
def xo (F:Nat) (x_2:Int) (x_3:Int) (x_1:GR) :Nat→Int→Option Bool
 | 0,_=>none
 | k + 1,x_6=>
   bif decide (x_6 < (x_1.2.length:Int)) then
    (idx x_1.2 x_6).bind fun e_9=>
    bif (e_9.1 == x_2) then
     bif (e_9.2 == x_3) then
      ua F x_2 x_3 x_1 x_6 (xo F x_2 x_3 x_1 k) true
     else
      bif (e_9.1 == x_3) then
       ua F x_2 x_3 x_1 x_6 (xo F x_2 x_3 x_1 k) (e_9.2 == x_2)
      else
       ua F x_2 x_3 x_1 x_6 (xo F x_2 x_3 x_1 k) false
    else
     bif (e_9.1 == x_3) then
      ua F x_2 x_3 x_1 x_6 (xo F x_2 x_3 x_1 k) (e_9.2 == x_2)
     else
      ua F x_2 x_3 x_1 x_6 (xo F x_2 x_3 x_1 k) false
   else
    some false
theorem zio (H:H57 D σ F) (x_2:Int) (x_3:Int) (x_1:GR) :∀ (k:Nat) (x_6:Int) (s:Nat→V),zl [(1,ji x_2),(2,ji x_3),(3,bG 3 x_1),(6,jb false),(7,ji x_6)] s→xo F x_2 x_3 x_1 k x_6=some r→Run D σ (R57 r) (.run Nz [.lp Nz,.bk 0,.sq zeJ]) s:=by
 intro k
 induction k with
 | zero=>intro x_6 s _ h;exact nm h
 | succ k ih=>
   intro x_6 s hs h
   rw [xo] at h
   obtain ⟨h1,h2,h3,h6,h7⟩:=hs
   refine .seq (.seq (rg (gm h7 fun h9=>g1 3 (.ref (.bx 3) 0 [1] (eP x_1.2)) h3 fun h10=>g1 10 (eP x_1.2) h10 fun h11=>gv (ji (x_1.2.length:Int)) (yu (xs:=x_1.2) h11) fun h12=>g2 9 12 (jb (decide (x_6 < (x_1.2.length:Int)))) h9 h12 fun h13=>gq (.nsq (zk (t:=decide (x_6 < (x_1.2.length:Int))) h13 h (fun h=>?_) (fun h=>?_))))))
   · refine .skip (.nsq (.seq (.block (.seq (zq (zS ?_))))))
     refine ez [(1,_),(2,_),(3,_),(6,_),(7,_),(8,_)] ⟨za h1 rfl mi,za h2 rfl mi,za h3 rfl (zf rfl mIE),za h6 rfl mb,za h7 rfl mi,zc rfl⟩ ?_
     rintro s ⟨h1,h2,h3,h6,h7,h8⟩
     refine g1 3 (.ref (.bx 3) 0 [1] (eP x_1.2)) h3 fun h16=>g1 16 (eP x_1.2) h16 fun h17=>gm h7 fun h18=>?_
     obtain ⟨e_9,E_e_9,h⟩:=bind_some h
     refine gv (.ref .sh 0 [] (.agg [ji e_9.1,ji e_9.2])) (yz (t:=.sh) (lo:=0) (xs:=x_1.2) h17 h18 E_e_9 rfl rfl) fun h19=>g1 19 (.agg [ji e_9.1,ji e_9.2]) h19 fun h20=>xk h8 (yb (.agg [ji e_9.1,ji e_9.2]) (zw rfl rfl) (zw h20 rfl) (wj (by first | rfl | simp [V.toks,V.tokss,Enc.toks_enc,ya])) (gz [(1,ji x_2),(2,ji x_3),(3,bG 3 x_1),(6,jb false),(7,ji x_6),(8,.ref (.bx 8) 0 [] (.agg [ji e_9.1,ji e_9.2]))] ⟨zb h1 rfl,zb h2 rfl,zb h3 (zC rfl rfl uIE),zb h6 rfl,zb h7 rfl,zb rfl rfl⟩ ?_))
     rintro s ⟨h1,h2,h3,h6,h7,h8⟩
     refine .nsq (.seq (rg (g1 8 (.ref (.bx 8) 0 [0] (ji e_9.1)) h8 fun h21=>g1 21 (ji e_9.1) h21 fun h22=>gm h1 fun h23=>g2 22 23 (jb (e_9.1 == x_2)) h22 h23 fun h24=>gm h24 fun h25=>zW (c:=(e_9.1 == x_2)) h (fun hg5 h=>?_) (fun hg5 h=>?_))))
     · refine zg (ct h25 hg5) (g1 8 (.ref (.bx 8) 0 [1] (ji e_9.2)) h8 fun h26=>zg (ct h25 hg5) (g1 26 (ji e_9.2) h26 fun h27=>zg (ct h25 hg5) (gm h2 fun h28=>zg (ct h25 hg5) (g2 27 28 (jb (e_9.2 == x_3)) h27 h28 fun h29=>g2 25 29 (jb (e_9.2 == x_3)) (ct h25 hg5) h29 fun h30=>gm h30 fun h31=>zW (c:=(e_9.2 == x_3)) h (fun hg11 h=>?_) (fun hg11 h=>?_)))))
       · iterate 5 refine z9 (ct h31 hg11) ?_
         iterate 4 refine uw rfl ?_
         refine z9 (ct h31 hg11) (g2 31 41 (jb true) (ct h31 hg11) (rf (.tup [])) fun h42=>gq ?_)
         exact Uv H x_2 x_3 x_1 x_6 (xo F x_2 x_3 x_1 k) ih true _ ⟨h1,h2,h3,h6,h7,h42⟩ h
       refine zg (ct h31 hg11) (g1 8 (.ref (.bx 8) 0 [0] (ji e_9.1)) h8 fun h32=>zg (ct h31 hg11) (g1 32 (ji e_9.1) h32 fun h33=>zg (ct h31 hg11) (gm h2 fun h34=>zg (ct h31 hg11) (g2 33 34 (jb (e_9.1 == x_3)) h33 h34 fun h35=>zg (ct h31 hg11) (gm h35 fun h36=>zW (c:=(e_9.1 == x_3)) h (fun hg16 h=>?_) (fun hg16 h=>?_))))))
       · refine zg (ct h36 hg16) (g1 8 (.ref (.bx 8) 0 [1] (ji e_9.2)) h8 fun h37=>zg (ct h36 hg16) (g1 37 (ji e_9.2) h37 fun h38=>zg (ct h36 hg16) (gm h1 fun h39=>zg (ct h36 hg16) (g2 38 39 (jb (e_9.2 == x_2)) h38 h39 fun h40=>zg (ct h31 hg11) (g2 36 40 (jb (e_9.2 == x_2)) (ct h36 hg16) h40 fun h41=>g2 31 41 (jb (e_9.2 == x_2)) (ct h31 hg11) h41 fun h42=>gq ?_)))))
         exact Uv H x_2 x_3 x_1 x_6 (xo F x_2 x_3 x_1 k) ih (e_9.2 == x_2) _ ⟨h1,h2,h3,h6,h7,h42⟩ h
       iterate 4 refine z9 (ct h36 hg16) ?_
       refine zg (ct h31 hg11) (g2 36 40 (jb false) (ct h36 hg16) (rf (.tup [])) fun h41=>g2 31 41 (jb false) (ct h31 hg11) h41 fun h42=>gq ?_)
       exact Uv H x_2 x_3 x_1 x_6 (xo F x_2 x_3 x_1 k) ih false _ ⟨h1,h2,h3,h6,h7,h42⟩ h
     iterate 4 refine z9 (ct h25 hg5) ?_
     refine g2 25 29 (jb false) (ct h25 hg5) (rf (.tup [])) fun h30=>gm h30 fun h31=>zg h31 (g1 8 (.ref (.bx 8) 0 [0] (ji e_9.1)) h8 fun h32=>zg h31 (g1 32 (ji e_9.1) h32 fun h33=>zg h31 (gm h2 fun h34=>zg h31 (g2 33 34 (jb (e_9.1 == x_3)) h33 h34 fun h35=>zg h31 (gm h35 fun h36=>zW (c:=(e_9.1 == x_3)) h (fun hg16 h=>?_) (fun hg16 h=>?_))))))
     · refine zg (ct h36 hg16) (g1 8 (.ref (.bx 8) 0 [1] (ji e_9.2)) h8 fun h37=>zg (ct h36 hg16) (g1 37 (ji e_9.2) h37 fun h38=>zg (ct h36 hg16) (gm h1 fun h39=>zg (ct h36 hg16) (g2 38 39 (jb (e_9.2 == x_2)) h38 h39 fun h40=>zg h31 (g2 36 40 (jb (e_9.2 == x_2)) (ct h36 hg16) h40 fun h41=>g2 31 41 (jb (e_9.2 == x_2)) h31 h41 fun h42=>gq ?_)))))
       exact Uv H x_2 x_3 x_1 x_6 (xo F x_2 x_3 x_1 k) ih (e_9.2 == x_2) _ ⟨h1,h2,h3,h6,h7,h42⟩ h
     iterate 4 refine z9 (ct h36 hg16) ?_
     refine zg h31 (g2 36 40 (jb false) (ct h36 hg16) (rf (.tup [])) fun h41=>g2 31 41 (jb false) h31 h41 fun h42=>gq ?_)
     exact Uv H x_2 x_3 x_1 x_6 (xo F x_2 x_3 x_1 k) ih false _ ⟨h1,h2,h3,h6,h7,h42⟩ h
   refine .exit (.esq (.elp (.ebk (.nsq (.seq (rg (g0 (jb false) fun h6=>gq (.nsq (.ret ?_)))))))))
   have hr:=Option.some.inj h
   subst hr
   exact rrA (zn h6) rfl
def uo (F:Nat) (x_1:GR) (x_2:Int) (x_3:Int):Option Bool:=
 xo F x_2 x_3 x_1 F 0
theorem t57 (H:H57 D σ F) (x_1:GR) (x_2:Int) (x_3:Int) (s:Nat→V) (hs:zl [(0,gV x_1),(1,ji x_2),(2,ji x_3)] s) (h:uo F x_1 x_2 x_3=some r):Run D σ (R57 r) (.run A57 []) s:=by
 unfold uo at h
 obtain ⟨h0,h1,h2⟩:=hs
 refine .seq (zq (zS ?_))
 refine ez [(0,_),(1,_),(2,_),(3,_)] ⟨za h0 rfl mIE,za h1 rfl mi,za h2 rfl mi,zc rfl⟩ ?_
 rintro s ⟨h0,h1,h2,h3⟩
 refine xz (gV x_1) (zw h0 rfl) h3 rfl (g0 (jb false) fun h6=>gq (.nsq (.seq (.seq (rg (g0 (ji 0) fun h7=>gq (.nsq (.block (.loop ?_)))))))))
 exact zio H x_2 x_3 x_1 F 0 _ ⟨h1,h2,rfl,h6,h7⟩ h
end
def e57 (F:Nat):Ent:=ent 57 (fun (x:(GR×Int×Int×Unit))=>uo F x.1 x.2.1 x.2.2.1) (fun (r:Bool)=>(Enc.enc (r:Bool))) 0 false []
abbrev C57 (D:List V→Option V) (F:Nat):Prop:=∀ (x0:GR) (x1:Int) (x2:Int) r,uo F x0 x1 x2=some r→D [Enc.enc x0,Enc.enc x1,Enc.enc x2]=some (Enc.enc (r:Bool))
theorem p57 {F:Nat}:C57 (e57 F).den F:=fun x0 x1 x2 _ h=>zN (x0,x1,x2,()) h
theorem o57 {D:Den} {σ:Sig} {F:Nat} (hF:zy Try.prog D σ) (H:H57 D σ F):(e57 F).Ok Try.prog:=by
 refine yl (f:=57) (show unk 57=57 from rfl) (fun args r h=>?_) ⟨Try.f57,Try.func57,rfl,rfl⟩
 obtain ⟨⟨x0,x1,x2,_⟩,y,rfl,hy,rfl⟩:=zM h
 exact zm hF (by kernel_rfl) Try.func57 rfl c57 (show 3≤Try.f57.ntmps by decide) (t57 H x0 x1 x2 _ ⟨rfl,rfl,rfl⟩ hy)
def zsY:AC:=(.cond (.t 31) (.reg [.clr [43,44]] [jx 32 (.vN (.fld (.t 3) 1 1) [0]),jx 33 (.vN (.load .p (.t 32)) [0]),jx 34 (.vN (.fld (.t 3) 1 1) [0]),jx 35 (.vN (.load .p (.t 34)) [0]),jm 36 0,jx 37 (.vN (.fld (.t 3) 1 1) [0]),jx 38 (.vN (.load .p (.t 37)) [0]),jx 39 (.vN (.len (.t 38)) [0]),jx 40 (.callT (jf 65) [.t 36,.t 39] [0] []),jv 41 (.idx (.t 35) (.t 40) 2),jv 42 (.load (.ag [.s,.s]) (.t 41)),jx 43 (.lit (.agg [i0,i0]) 1 [(0,0,.t 42)]),jx 44 (.app (.ag [.s,.s]) (.t 33) (.t 43)),jv 45 (.fld (.t 3) 1 1),jz (.store .p (.t 45) (.t 44))] [.drp 2061,.home 44 2061]) .skip)
def zsc:AC:=(.cond (.t 26) (.seq (.reg [] [jv 28 (.fld (.t 3) 1 1),jv 29 (.load .p (.t 28)),jv 30 (.len (.t 29)),jv 31 (.bin .gtr (.t 30) (jn 0))] []) zsY) .skip)
def zoF:AC:=(.cond (.t 13) (.reg [.clr [23,24]] [jx 15 (.vN (.fld (.t 3) 1 1) [0]),jx 16 (.vN (.load .p (.t 15)) [0]),jm 17 0,jx 18 (.callT (jf 65) [.t 17,jn 4] [0] []),jm 19 0,jx 20 (.callT (jf 65) [.t 19,jn 9] [0] []),jv 21 (.bin .sub (.t 20) (jn 1)),jv 22 (.bld (.agg [i0,i0]) [(0,0,.t 18),(1,1,.t 21)]),jx 23 (.lit (.agg [i0,i0]) 1 [(0,0,.t 22)]),jx 24 (.app (.ag [.s,.s]) (.t 16) (.t 23)),jv 25 (.fld (.t 3) 1 1),jz (.store .p (.t 25) (.t 24))] [.drp 2061,.home 24 2061]) (.seq (.reg [] [jv 27 (.bin .eql (.t 6) (jn 2)),jm 26 27] []) zsc))
def zph:AC:=(.cond (.t 7) (.reg [.clr [10]] [jm 9 0,jx 10 (.litS i0 5 [(0,0,jn (-1)),(1,1,jn 8),(2,2,jn 9),(3,3,jn 0),(4,4,jn 4611686018427387904)]),jx 11 (.callT (jf 67) [.t 9,.t 10] [0] []),jv 12 (.fld (.t 3) 0 0),jz (.store .s (.t 12) (.t 11))] []) (.seq (.reg [] [jv 14 (.bin .eql (.t 6) (jn 1)),jm 13 14] []) zoF))
def zpC:AC:=(.block 0 (.seq (.reg [] [jv 8 (.bin .eql (.t 6) (jn 0)),jm 7 8] []) zph))
def zrE:AC:=(.seq (.reg [] [jv 46 (.load (.ag [.s,.p]) (.t 3)),jz (.store (.ag [.s,.p]) (.t 4) (.t 46))] [.frz 46]) .ret)
def zqq:AC:=(.seq (.seq (.reg [] [jm 5 0,jx 6 (.callT (jf 65) [.t 5,jn 50] [0] [])] []) zpC) zrE)
def A72:AC:=(.seq (.reg [.clr [3,4]] [jx 3 (.box (.t 1)),jx 4 (.alloc (.agg [i0,.sl .nl (.ag [.s,.s]) 0 []]))] [.drp 2061,.home uB 2061]) zqq)
def ztQ:List An:=[⟨0,[.clr [3,4]],[],[],[.drp 2061,.home uB 2061]⟩,⟨1,[],[],[2000000],[]⟩,⟨3,[.clr [10]],[],[3000000,6001],[]⟩,⟨5,[.clr [23,24]],[],[4000000,1000000,2000000,6000000],[.drp 2061,.home 24 2061]⟩,⟨8,[.clr [43,44]],[],[9000000,1000000,2000000,3000000,4000000,6000000,7000000,8000000],[.drp 2061,.home 44 2061]⟩,⟨9,[],[],[],[.frz 46]⟩]
theorem c72:cC Try.prog Try.f72.ntmps ztQ (Try.f72.body.getD .skip)=some A72:=by kernel_rfl
structure H72 (D:Den) (σ:Sig) (F:Nat):Prop where
 c65:C65 (D 65) F
 g65:σ 65=some (Zk,false)
 c67:C67 (D 67) F
 g67:σ 67=some (Zk,false)
abbrev R72 (r:(GR×CU)):(Nat→V)→Prop:=RT Try.prog [.cell 4 26] (Enc.enc (r.1:GR)) [cuV zH r.2]
section
variable {D:Den} {σ:Sig} {F:Nat} {r:(GR×CU)}
def vo (F:Nat) (x_1:CC) (x_2:(Oh (Int×Int))):Option (GR×CU):=
 (yA F (Cu.mk x_1.v) 50).bind fun r_3=>
 bif (r_3.1 == 0) then
  (xm F (Cu.mk r_3.2) [(-1),8,9,0,4611686018427387904]).bind fun r_4=>
  some ((r_4.1,x_2.v),r_4.2)
 else
  bif (r_3.1 == 1) then
   (yA F (Cu.mk r_3.2) 4).bind fun r_5=>
   (yA F (Cu.mk r_5.2) 9).bind fun r_6=>
   (wS x_2.v [(r_5.1,w64 (r_6.1 - 1))]).bind fun ap_7=>
   some ((x_2.a,ap_7),r_6.2)
  else
   bif (r_3.1 == 2) then
    bif decide ((x_2.v.length:Int) > 0) then
     (yA F (Cu.mk r_3.2) (x_2.v.length:Int)).bind fun r_8=>
     (idx x_2.v r_8.1).bind fun e_9=>
     (wS x_2.v [e_9]).bind fun ap_10=>
     some ((x_2.a,ap_10),r_8.2)
    else
     some ((x_2.a,x_2.v),r_3.2)
   else
    some ((x_2.a,x_2.v),r_3.2)
theorem t72 (H:H72 D σ F) (x_1:CC) (x_2:(Oh (Int×Int))) (s:Nat→V) (hs:zl [(0,bC x_1.v),(1,.agg [ji x_2.a,zi (.at uB []) (.of (x_2.v:LP))])] s) (h:vo F x_1 x_2=some r):Run D σ (R72 r) (.run A72 []) s:=by
 unfold vo at h
 obtain ⟨h0,h1⟩:=hs
 refine .seq (zq (zS ?_))
 refine ez [(0,_),(1,_),(3,_),(4,_)] ⟨za h0 rfl (zf rfl uH),za h1 rfl (zA (zd mi (zd (zj (r:=uB) (p:=[]) rfl rfl) zh))),zc rfl,zc rfl⟩ ?_
 rintro s ⟨h0,h1,h3,h4⟩
 refine xz (.agg [ji x_2.a,zi (.at uB []) (.of (x_2.v:LP))]) (zw h1 rfl) h3 rfl (xk h4 (yQ (W9 (x:=2061) (fun s_2 hx_2 hd_2=>yC (r:=uB) (x:=2061) (v:=_) (by exact hx_2) rfl (fun s_3 hg_3=>?_)))))
 refine ez [(0,bC x_1.v),(3,.ref (.bx 3) 0 [] (.agg [ji x_2.a,zi (.at 2061 []) (.of (x_2.v:LP))])),(4,bZ 4)] ⟨hg_3 0 _ _ (show s_2 0=(bC x_1.v) from (hd_2 0 (by decide)).trans h0) (zf rfl uH),hg_3 3 _ (.ref (.bx 3) 0 [] (.agg [ji x_2.a,zi (.at 2061 []) (.of (x_2.v:LP))])) (show s_2 3=(.ref (.bx 3) 0 [] (.agg [ji x_2.a,zi (.at uB []) (.of (x_2.v:LP))])) from (hd_2 3 (by decide)).trans rfl) (zf rfl (zA (zd mi (zd (zj (r:=uB) (p:=[]) rfl rfl) zh)))),hg_3 4 _ _ (show s_2 4=(bZ 4) from (hd_2 4 (by decide)).trans rfl) (zf rfl (mIx rfl))⟩ ?_
 rintro s ⟨h0,h3,h4⟩
 refine .nsq (.seq (.seq (rg (gm h0 fun h5=>?_))))
 obtain ⟨r_3,E_r_3,h⟩:=bind_some h
 refine uz (r:=zH) (b:=0) (x:=x_1.v) (x':=r_3.2) (vs:=[Enc.enc (50:Int)]) (res:=Enc.enc (r_3.1:Int)) h0 (by exact (zQ (v:=cuV zH x_1.v) h5 rfl (zQ (v:=Enc.enc (50:Int)) rfl rfl yR))) (yk te yH) fm1 (H.c65 _ _ _ E_r_3) H.g65 te rfl (fun s_4 hb_4 ha_4=>?_)
 refine gz [(0,_),(3,.ref (.bx 3) 0 [] (.agg [ji x_2.a,zi (.at 2061 []) (.of (x_2.v:LP))])),(4,bZ 4),(6,ji r_3.1)] ⟨(show s_4 0=(bC r_3.2) from hb_4 0 h0),(show s_4 3=(.ref (.bx 3) 0 [] (.agg [ji x_2.a,zi (.at 2061 []) (.of (x_2.v:LP))])) from ha_4 3 _ _ h3 rfl (zf rfl (zA (zd mi (zd (zj (r:=2061) (p:=[]) rfl rfl) zh))))),(show s_4 4=(bZ 4) from ha_4 4 _ _ h4 rfl (zf rfl (mIx rfl))),rfl⟩ ?_
 rintro s ⟨h0,h3,h4,h6⟩
 refine .nsq (.block (.seq (rg (g1 6 (jb (r_3.1 == 0)) h6 fun h8=>gm h8 fun h7=>gq (.nsq (zk (t:=(r_3.1 == 0)) h7 h (fun h=>?_) (fun h=>?_)))))))
 · refine zq (zS ?_)
   refine ez [(0,_),(3,_),(4,_),(10,_)] ⟨za h0 rfl (zf rfl uH),za h3 rfl (zf rfl (zA (zd mi (zd (zj (r:=2061) (p:=[]) rfl rfl) zh)))),za h4 rfl (zf rfl (mIx rfl)),zc rfl⟩ ?_
   rintro s ⟨h0,h3,h4,h10⟩
   refine gm h0 fun h9=>zaM [] ([(-1),8,9,0,4611686018427387904]:LI) trivial rfl rfl rfl h10 (fun s_6 hd_6 hl_6=>?_)
   obtain ⟨r_4,E_r_4,h⟩:=bind_some h
   refine uz (r:=zH) (b:=0) (x:=r_3.2) (x':=r_4.2) (vs:=[Enc.enc ([(-1),8,9,0,4611686018427387904]:LI)]) (res:=Enc.enc (r_4.1:Int)) (show s_6 0=(bC r_3.2) from hl_6 0 _ _ (by decide) h0 (ye rfl X8 rfl)) (by exact (zQ (v:=cuV zH r_3.2) (show s_6 9=(bC r_3.2) from hl_6 9 _ _ (by decide) h9 (ye rfl X8 rfl)) rfl (zQ (v:=Enc.enc ([(-1),8,9,0,4611686018427387904]:LI)) (show s_6 10=(eL [(-1),8,9,0,4611686018427387904]) from hd_6) rfl yR))) (yk te yH) fm1 (H.c67 _ _ _ E_r_4) H.g67 te rfl (fun s_7 hb_7 ha_7=>?_)
   refine g1 3 (.ref (.bx 3) 0 [0] (ji x_2.a)) (show s_7 3=(.ref (.bx 3) 0 [] (.agg [ji x_2.a,zi (.at 2061 []) (.of (x_2.v:LP))])) from ha_7 3 (.ref (.bx 3) 0 [] (.agg [ji x_2.a,zi (.at 2061 []) (.of (x_2.v:LP))])) _ (show s_6 3=(.ref (.bx 3) 0 [] (.agg [ji x_2.a,zi (.at 2061 []) (.of (x_2.v:LP))])) from hl_6 3 _ _ (by decide) h3 (ye rfl (uU (yM rfl (yM (WX rfl rfl) rfl))) rfl)) rfl (zf rfl (zA (zd mi (zd (zj (r:=2061) (p:=[]) rfl rfl) zh))))) fun h12=>yb (ji r_4.1) (zw h12 rfl) (zw rfl rfl) (wj (by first | rfl | simp [V.toks,V.tokss,Enc.toks_enc,ya])) ?_
   refine gz [(0,bC r_4.2),(3,.ref (.bx 3) 0 [] (.agg [ji r_4.1,zi (.at 2061 []) (.of (x_2.v:LP))])),(4,bZ 4)] ⟨zb (show s_7 0=(bC r_4.2) from hb_7 0 (show s_6 0=(bC r_3.2) from hl_6 0 _ _ (by decide) h0 (ye rfl X8 rfl))) (zC rfl rfl Uu),zb (show s_7 3=(.ref (.bx 3) 0 [] (.agg [ji x_2.a,zi (.at 2061 []) (.of (x_2.v:LP))])) from ha_7 3 (.ref (.bx 3) 0 [] (.agg [ji x_2.a,zi (.at 2061 []) (.of (x_2.v:LP))])) _ (show s_6 3=(.ref (.bx 3) 0 [] (.agg [ji x_2.a,zi (.at 2061 []) (.of (x_2.v:LP))])) from hl_6 3 _ _ (by decide) h3 (ye rfl (uU (yM rfl (yM (WX rfl rfl) rfl))) rfl)) rfl (zf rfl (zA (zd mi (zd (zj (r:=2061) (p:=[]) rfl rfl) zh))))) rfl,zb (show s_7 4=(bZ 4) from ha_7 4 (bZ 4) _ (show s_6 4=(bZ 4) from hl_6 4 _ _ (by decide) h4 (ye rfl (uU (yM rfl (yM rfl rfl))) rfl)) rfl (zf rfl (mIx rfl))) (zC rfl rfl (yr (zp rfl (zp rfl rfl))))⟩ ?_
   rintro s ⟨h0,h3,h4⟩
   refine .nbk (.nsq (.seq (rg (g1 3 (.agg [ji r_4.1,zi (.at 2061 []) (.of (x_2.v:LP))]) h3 fun h46=>yb (.agg [ji r_4.1,zi (.at 2061 []) (.of (x_2.v:LP))]) (zw h4 rfl) (zw h46 rfl) (wj (by first | rfl | simp [V.toks,V.tokss,Enc.toks_enc,ya])) (yQ (K1 (x:=46) (v:=.agg [ji r_4.1,zi (.at 2061 []) (.of (x_2.v:LP))]) [.at 2061 []] (by exact (zb h46 (yr (zp rfl (zp (uf rfl rfl) rfl))))) (by simp [V.toks,V.tokss,yw,Enc.toks_enc]) (fun s_8 hg_8=>?_)))))))
   refine ez [(0,bC r_4.2),(4,.ref (.bx 4) 0 [] (.agg [ji r_4.1,eP x_2.v]))] ⟨hg_8 0 (bC r_4.2) (bC r_4.2) (zb h0 (zC rfl rfl Uu)) (ye rfl X8 rfl),hg_8 4 (.ref (.bx 4) 0 [] (.agg [ji r_4.1,zi (.at 2061 []) (.of (x_2.v:LP))])) (.ref (.bx 4) 0 [] (.agg [ji r_4.1,eP x_2.v])) (zb h4 rfl) (ye rfl (uU (yM rfl (yM Xb rfl))) rfl)⟩ ?_
   rintro s ⟨h0,h4⟩
   refine .nsq (.ret ?_)
   have hr:=Option.some.inj h
   subst hr
   exact rt1 (t:=0) (wN h4 (by kernel_rfl)) h0
 refine .seq (rg (g1 6 (jb (r_3.1 == 1)) h6 fun h14=>gm h14 fun h13=>gq (.nsq (zk (t:=(r_3.1 == 1)) h13 h (fun h=>?_) (fun h=>?_)))))
 · refine zq (zS ?_)
   refine ez [(0,_),(3,_),(4,_),(23,_),(24,_)] ⟨za h0 rfl (zf rfl uH),za h3 rfl (zf rfl (zA (zd mi (zd (zj (r:=2061) (p:=[]) rfl rfl) zh)))),za h4 rfl (zf rfl (mIx rfl)),zc rfl,zc rfl⟩ ?_
   rintro s ⟨h0,h3,h4,h23,h24⟩
   refine MJ (r:=zH) (b:=0) (x:=r_3.2) (.ref (.bx 3) 0 [1] (zi (.at 2061 []) (.of (x_2.v:LP)))) h0 (YI [(3,.ref (.bx 3) 0 [] (.agg [ji x_2.a,zi (.at 2061 []) (.of (x_2.v:LP))]))] h3 rfl rfl) [(3,.ref (.bx 3) 0 [] (.agg [ji x_2.a,zi (.at 2061 []) (.of (x_2.v:LP))]))] h3 rfl (by simp [V.toks,V.tokss,yw,Enc.toks_enc,zH,uB]) (by simp [V.toks,V.tokss,yw,Enc.toks_enc,zH,uB]) ?_
   refine MJ (r:=zH) (b:=0) (x:=r_3.2) (zi (.at 2061 []) (.of (x_2.v:LP))) h0 (YI [(15,.ref (.bx 3) 0 [1] (zi (.at 2061 []) (.of (x_2.v:LP))))] rfl rfl rfl) [(15,.ref (.bx 3) 0 [1] (zi (.at 2061 []) (.of (x_2.v:LP))))] rfl rfl (by simp [V.toks,V.tokss,yw,Enc.toks_enc,zH,uB]) (by simp [V.toks,V.tokss,yw,Enc.toks_enc,zH,uB]) (gm h0 fun h17=>?_)
   obtain ⟨r_5,E_r_5,h⟩:=bind_some h
   refine uz (r:=zH) (b:=0) (x:=r_3.2) (x':=r_5.2) (vs:=[Enc.enc (4:Int)]) (res:=Enc.enc (r_5.1:Int)) h0 (by exact (zQ (v:=cuV zH r_3.2) h17 rfl (zQ (v:=Enc.enc (4:Int)) rfl rfl yR))) (yk te yH) fm1 (H.c65 _ _ _ E_r_5) H.g65 te rfl (fun s_10 hb_10 ha_10=>gm (show s_10 0=(bC r_5.2) from hb_10 0 h0) fun h19=>?_)
   obtain ⟨r_6,E_r_6,h⟩:=bind_some h
   refine uz (r:=zH) (b:=0) (x:=r_5.2) (x':=r_6.2) (vs:=[Enc.enc (9:Int)]) (res:=Enc.enc (r_6.1:Int)) (show s_10 0=(bC r_5.2) from hb_10 0 h0) (by exact (zQ (v:=cuV zH r_5.2) h19 rfl (zQ (v:=Enc.enc (9:Int)) rfl rfl yR))) (yk te yH) fm1 (H.c65 _ _ _ E_r_6) H.g65 te rfl (fun s_11 hb_11 ha_11=>g1 20 (ji (w64 (r_6.1 - 1))) (rf (ji r_6.1)) fun h21=>g2 18 21 (.agg [ji r_5.1,ji (w64 (r_6.1 - 1))]) (show s_11 18=(ji r_5.1) from ha_11 18 (ji r_5.1) _ rfl rfl mi) h21 fun h22=>?_)
   refine xT [(22,.agg [ji r_5.1,ji (w64 (r_6.1 - 1))])] [Enc.enc ((r_5.1,w64 (r_6.1 - 1)):(Int×Int))] h22 rfl rfl (show s_11 23 = .gone from ha_11 23 .gone _ (show s_10 23 = .gone from ha_10 23 _ _ h23 rfl rfl) rfl rfl) ?_
   obtain ⟨ap_7,E_ap_7,h⟩:=bind_some h
   refine Xz (q:=2061) (p:=[]) (o:=.of (x_2.v:LP)) (ys:=([(r_5.1,w64 (r_6.1 - 1))]:LP)) (t2:=.at 23 []) (lo2:=0) (show s_11 16=(zi (.at 2061 []) (.of (x_2.v:LP))) from ha_11 16 (zi (.at 2061 []) (.of (x_2.v:LP))) _ (show s_10 16=(zi (.at 2061 []) (.of (x_2.v:LP))) from ha_10 16 (zi (.at 2061 []) (.of (x_2.v:LP))) _ rfl rfl (zj (r:=2061) (p:=[]) rfl rfl)) rfl (zj (r:=2061) (p:=[]) rfl rfl)) rfl rfl (show s_11 24 = .gone from ha_11 24 .gone _ (show s_10 24 = .gone from ha_10 24 _ _ h24 rfl rfl) rfl rfl) (ZJ (o:=.of (x_2.v:LP)) E_ap_7 trivial) (fun s_12 ha_12=>?_)
   refine g1 3 (.ref (.bx 3) 0 [1] (kdO ((.of x_2.v):NL (Int×Int)))) (show s_12 3=(.ref (.bx 3) 0 [] (.agg [ji x_2.a,kdO ((.of x_2.v):NL (Int×Int))])) from uu ha_12 (show s_11 3=(.ref (.bx 3) 0 [] (.agg [ji x_2.a,zi (.at 2061 []) (.of (x_2.v:LP))])) from ha_11 3 (.ref (.bx 3) 0 [] (.agg [ji x_2.a,zi (.at 2061 []) (.of (x_2.v:LP))])) _ (show s_10 3=(.ref (.bx 3) 0 [] (.agg [ji x_2.a,zi (.at 2061 []) (.of (x_2.v:LP))])) from ha_10 3 _ _ h3 rfl (zf rfl (zA (zd mi (zd (zj (r:=2061) (p:=[]) rfl rfl) zh))))) rfl (zf rfl (zA (zd mi (zd (zj (r:=2061) (p:=[]) rfl rfl) zh))))) (zf rfl (zA (zd mi (zd YL zh)))) (by intro h;first | (cases h;done) | (subst h;rfl))) fun h25=>?_
   refine yb (zi (.at 24 []) (.of (ap_7:LP))) (zw h25 rfl) (zw rfl rfl) ⟨by decide,by decide,rfl,rfl,JO,YQ rfl rfl⟩ (yQ (W9 (x:=2061) (fun s_13 hx_13 hd_13=>yC (r:=24) (x:=2061) (v:=_) (by exact hx_13) rfl (fun s_14 hg_14=>?_))))
   refine ez [(0,bC r_6.2),(3,.ref (.bx 3) 0 [] (.agg [ji x_2.a,zi (.at 2061 []) (.of (ap_7:LP))])),(4,bZ 4)] ⟨hg_14 0 _ _ (show s_13 0=(bC r_6.2) from (hd_13 0 (by decide)).trans (zb (show s_12 0=(bC r_6.2) from zJ ha_12 (show s_11 0=(bC r_6.2) from hb_11 0 (show s_10 0=(bC r_5.2) from hb_10 0 h0)) (zf rfl uH)) (zC rfl rfl Uu))) (zf rfl uH),hg_14 3 _ (.ref (.bx 3) 0 [] (.agg [ji x_2.a,zi (.at 2061 []) (.of (ap_7:LP))])) (show s_13 3=(.ref (.bx 3) 0 [] (.agg [ji x_2.a,zi (.at 24 []) (.of (ap_7:LP))])) from (hd_13 3 (by decide)).trans (zb (show s_12 3=(.ref (.bx 3) 0 [] (.agg [ji x_2.a,kdO ((.of x_2.v):NL (Int×Int))])) from uu ha_12 (show s_11 3=(.ref (.bx 3) 0 [] (.agg [ji x_2.a,zi (.at 2061 []) (.of (x_2.v:LP))])) from ha_11 3 (.ref (.bx 3) 0 [] (.agg [ji x_2.a,zi (.at 2061 []) (.of (x_2.v:LP))])) _ (show s_10 3=(.ref (.bx 3) 0 [] (.agg [ji x_2.a,zi (.at 2061 []) (.of (x_2.v:LP))])) from ha_10 3 _ _ h3 rfl (zf rfl (zA (zd mi (zd (zj (r:=2061) (p:=[]) rfl rfl) zh))))) rfl (zf rfl (zA (zd mi (zd (zj (r:=2061) (p:=[]) rfl rfl) zh))))) (zf rfl (zA (zd mi (zd YL zh)))) (by intro h;first | (cases h;done) | (subst h;rfl))) (XY (zp rfl (zp J7 rfl))))) (zf rfl (zA (zd mi (zd (zj (r:=24) (p:=[]) rfl rfl) zh)))),hg_14 4 _ _ (show s_13 4=(bZ 4) from (hd_13 4 (by decide)).trans (zb (show s_12 4=(bZ 4) from zJ ha_12 (show s_11 4=(bZ 4) from ha_11 4 (bZ 4) _ (show s_10 4=(bZ 4) from ha_10 4 _ _ h4 rfl (zf rfl (mIx rfl))) rfl (zf rfl (mIx rfl))) (zf rfl (mIx rfl))) (zC rfl rfl (yr (zp rfl (zp rfl rfl)))))) (zf rfl (mIx rfl))⟩ ?_
   rintro s ⟨h0,h3,h4⟩
   refine .nbk (.nsq (.seq (rg (g1 3 (.agg [ji x_2.a,zi (.at 2061 []) (.of (ap_7:LP))]) h3 fun h46=>yb (.agg [ji x_2.a,zi (.at 2061 []) (.of (ap_7:LP))]) (zw h4 rfl) (zw h46 rfl) (wj (by first | rfl | simp [V.toks,V.tokss,Enc.toks_enc,ya])) (yQ (K1 (x:=46) (v:=.agg [ji x_2.a,zi (.at 2061 []) (.of (ap_7:LP))]) [.at 2061 []] (by exact (zb h46 (yr (zp rfl (zp (uf rfl rfl) rfl))))) (by simp [V.toks,V.tokss,yw,Enc.toks_enc]) (fun s_15 hg_15=>?_)))))))
   refine ez [(0,bC r_6.2),(4,.ref (.bx 4) 0 [] (.agg [ji x_2.a,eP ap_7]))] ⟨hg_15 0 (bC r_6.2) (bC r_6.2) (zb h0 (zC rfl rfl Uu)) (ye rfl X8 rfl),hg_15 4 (.ref (.bx 4) 0 [] (.agg [ji x_2.a,zi (.at 2061 []) (.of (ap_7:LP))])) (.ref (.bx 4) 0 [] (.agg [ji x_2.a,eP ap_7])) (zb h4 rfl) (ye rfl (uU (yM rfl (yM Xb rfl))) rfl)⟩ ?_
   rintro s ⟨h0,h4⟩
   refine .nsq (.ret ?_)
   have hr:=Option.some.inj h
   subst hr
   exact rt1 (t:=0) (wN h4 (by kernel_rfl)) h0
 refine .seq (rg (g1 6 (jb (r_3.1 == 2)) h6 fun h27=>gm h27 fun h26=>gq (.nsq (zk (t:=(r_3.1 == 2)) h26 h (fun h=>?_) (fun h=>?_)))))
 · refine .seq (rg (g1 3 (.ref (.bx 3) 0 [1] (zi (.at 2061 []) (.of (x_2.v:LP)))) h3 fun h28=>g1 28 (zi (.at 2061 []) (.of (x_2.v:LP))) h28 fun h29=>gv (ji (x_2.v.length:Int)) (YH (o:=.of x_2.v) h29) fun h30=>g1 30 (jb (decide ((x_2.v.length:Int) > 0))) h30 fun h31=>gq (.nsq (zk (t:=decide ((x_2.v.length:Int) > 0)) h31 h (fun h=>?_) (fun h=>?_)))))
   · refine zq (zS ?_)
     refine ez [(0,_),(3,_),(4,_),(43,_),(44,_)] ⟨za h0 rfl (zf rfl uH),za h3 rfl (zf rfl (zA (zd mi (zd (zj (r:=2061) (p:=[]) rfl rfl) zh)))),za h4 rfl (zf rfl (mIx rfl)),zc rfl,zc rfl⟩ ?_
     rintro s ⟨h0,h3,h4,h43,h44⟩
     refine MJ (r:=zH) (b:=0) (x:=r_3.2) (.ref (.bx 3) 0 [1] (zi (.at 2061 []) (.of (x_2.v:LP)))) h0 (YI [(3,.ref (.bx 3) 0 [] (.agg [ji x_2.a,zi (.at 2061 []) (.of (x_2.v:LP))]))] h3 rfl rfl) [(3,.ref (.bx 3) 0 [] (.agg [ji x_2.a,zi (.at 2061 []) (.of (x_2.v:LP))]))] h3 rfl (by simp [V.toks,V.tokss,yw,Enc.toks_enc,zH,uB]) (by simp [V.toks,V.tokss,yw,Enc.toks_enc,zH,uB]) ?_
     refine MJ (r:=zH) (b:=0) (x:=r_3.2) (zi (.at 2061 []) (.of (x_2.v:LP))) h0 (YI [(32,.ref (.bx 3) 0 [1] (zi (.at 2061 []) (.of (x_2.v:LP))))] rfl rfl rfl) [(32,.ref (.bx 3) 0 [1] (zi (.at 2061 []) (.of (x_2.v:LP))))] rfl rfl (by simp [V.toks,V.tokss,yw,Enc.toks_enc,zH,uB]) (by simp [V.toks,V.tokss,yw,Enc.toks_enc,zH,uB]) ?_
     refine MJ (r:=zH) (b:=0) (x:=r_3.2) (.ref (.bx 3) 0 [1] (zi (.at 2061 []) (.of (x_2.v:LP)))) h0 (YI [(3,.ref (.bx 3) 0 [] (.agg [ji x_2.a,zi (.at 2061 []) (.of (x_2.v:LP))]))] h3 rfl rfl) [(3,.ref (.bx 3) 0 [] (.agg [ji x_2.a,zi (.at 2061 []) (.of (x_2.v:LP))]))] h3 rfl (by simp [V.toks,V.tokss,yw,Enc.toks_enc,zH,uB]) (by simp [V.toks,V.tokss,yw,Enc.toks_enc,zH,uB]) ?_
     refine MJ (r:=zH) (b:=0) (x:=r_3.2) (zi (.at 2061 []) (.of (x_2.v:LP))) h0 (YI [(34,.ref (.bx 3) 0 [1] (zi (.at 2061 []) (.of (x_2.v:LP))))] rfl rfl rfl) [(34,.ref (.bx 3) 0 [1] (zi (.at 2061 []) (.of (x_2.v:LP))))] rfl rfl (by simp [V.toks,V.tokss,yw,Enc.toks_enc,zH,uB]) (by simp [V.toks,V.tokss,yw,Enc.toks_enc,zH,uB]) ?_
     refine gm h0 fun h36=>MJ (r:=zH) (b:=0) (x:=r_3.2) (.ref (.bx 3) 0 [1] (zi (.at 2061 []) (.of (x_2.v:LP)))) h0 (YI [(3,.ref (.bx 3) 0 [] (.agg [ji x_2.a,zi (.at 2061 []) (.of (x_2.v:LP))]))] h3 rfl rfl) [(3,.ref (.bx 3) 0 [] (.agg [ji x_2.a,zi (.at 2061 []) (.of (x_2.v:LP))]))] h3 rfl (by simp [V.toks,V.tokss,yw,Enc.toks_enc,zH,uB]) (by simp [V.toks,V.tokss,yw,Enc.toks_enc,zH,uB]) ?_
     refine MJ (r:=zH) (b:=0) (x:=r_3.2) (zi (.at 2061 []) (.of (x_2.v:LP))) h0 (YI [(37,.ref (.bx 3) 0 [1] (zi (.at 2061 []) (.of (x_2.v:LP))))] rfl rfl rfl) [(37,.ref (.bx 3) 0 [1] (zi (.at 2061 []) (.of (x_2.v:LP))))] rfl rfl (by simp [V.toks,V.tokss,yw,Enc.toks_enc,zH,uB]) (by simp [V.toks,V.tokss,yw,Enc.toks_enc,zH,uB]) (MJ (r:=zH) (b:=0) (x:=r_3.2) (ji (x_2.v.length:Int)) h0 (YH (o:=.of x_2.v) rfl) [(38,zi (.at 2061 []) (.of (x_2.v:LP)))] rfl rfl (by simp [V.toks,V.tokss,yw,Enc.toks_enc,zH,uB]) (by simp [V.toks,V.tokss,yw,Enc.toks_enc,zH,uB]) ?_)
     obtain ⟨r_8,E_r_8,h⟩:=bind_some h
     refine uz (r:=zH) (b:=0) (x:=r_3.2) (x':=r_8.2) (vs:=[Enc.enc ((x_2.v.length:Int):Int)]) (res:=Enc.enc (r_8.1:Int)) h0 (by exact (zQ (v:=cuV zH r_3.2) h36 rfl (zQ (v:=Enc.enc ((x_2.v.length:Int):Int)) rfl rfl yR))) (yk te yH) fm1 (H.c65 _ _ _ E_r_8) H.g65 te rfl (fun s_17 hb_17 ha_17=>?_)
     obtain ⟨e_9,E_e_9,h⟩:=bind_some h
     refine gv (.ref (.at 2061 []) r_8.1.toNat [] (.agg [ji e_9.1,ji e_9.2])) (wE (o:=.of x_2.v) (show s_17 35=(zi (.at 2061 []) (.of (x_2.v:LP))) from ha_17 35 (zi (.at 2061 []) (.of (x_2.v:LP))) _ rfl rfl (zj (r:=2061) (p:=[]) rfl rfl)) rfl E_e_9 rfl) fun h41=>g1 41 (.agg [ji e_9.1,ji e_9.2]) h41 fun h42=>xT [(42,.agg [ji e_9.1,ji e_9.2])] [Enc.enc (e_9:(Int×Int))] h42 rfl rfl (show s_17 43 = .gone from ha_17 43 _ _ h43 rfl rfl) ?_
     obtain ⟨ap_10,E_ap_10,h⟩:=bind_some h
     refine Xz (q:=2061) (p:=[]) (o:=.of (x_2.v:LP)) (ys:=([e_9]:LP)) (t2:=.at 43 []) (lo2:=0) (show s_17 33=(zi (.at 2061 []) (.of (x_2.v:LP))) from ha_17 33 (zi (.at 2061 []) (.of (x_2.v:LP))) _ rfl rfl (zj (r:=2061) (p:=[]) rfl rfl)) rfl rfl (show s_17 44 = .gone from ha_17 44 _ _ h44 rfl rfl) (ZJ (o:=.of (x_2.v:LP)) E_ap_10 trivial) (fun s_18 ha_18=>?_)
     refine g1 3 (.ref (.bx 3) 0 [1] (kdO ((.of x_2.v):NL (Int×Int)))) (show s_18 3=(.ref (.bx 3) 0 [] (.agg [ji x_2.a,kdO ((.of x_2.v):NL (Int×Int))])) from uu ha_18 (show s_17 3=(.ref (.bx 3) 0 [] (.agg [ji x_2.a,zi (.at 2061 []) (.of (x_2.v:LP))])) from ha_17 3 _ _ h3 rfl (zf rfl (zA (zd mi (zd (zj (r:=2061) (p:=[]) rfl rfl) zh))))) (zf rfl (zA (zd mi (zd YL zh)))) (by intro h;first | (cases h;done) | (subst h;rfl))) fun h45=>yb (zi (.at 44 []) (.of (ap_10:LP))) (zw h45 rfl) (zw rfl rfl) ⟨by decide,by decide,rfl,rfl,JO,YQ rfl rfl⟩ (yQ ?_)
     refine W9 (x:=2061) (fun s_19 hx_19 hd_19=>yC (r:=44) (x:=2061) (v:=_) (by exact hx_19) rfl (fun s_20 hg_20=>?_))
     refine ez [(0,bC r_8.2),(3,.ref (.bx 3) 0 [] (.agg [ji x_2.a,zi (.at 2061 []) (.of (ap_10:LP))])),(4,bZ 4)] ⟨hg_20 0 _ _ (show s_19 0=(bC r_8.2) from (hd_19 0 (by decide)).trans (zb (show s_18 0=(bC r_8.2) from zJ ha_18 (show s_17 0=(bC r_8.2) from hb_17 0 h0) (zf rfl uH)) (zC rfl rfl Uu))) (zf rfl uH),hg_20 3 _ (.ref (.bx 3) 0 [] (.agg [ji x_2.a,zi (.at 2061 []) (.of (ap_10:LP))])) (show s_19 3=(.ref (.bx 3) 0 [] (.agg [ji x_2.a,zi (.at 44 []) (.of (ap_10:LP))])) from (hd_19 3 (by decide)).trans (zb (show s_18 3=(.ref (.bx 3) 0 [] (.agg [ji x_2.a,kdO ((.of x_2.v):NL (Int×Int))])) from uu ha_18 (show s_17 3=(.ref (.bx 3) 0 [] (.agg [ji x_2.a,zi (.at 2061 []) (.of (x_2.v:LP))])) from ha_17 3 _ _ h3 rfl (zf rfl (zA (zd mi (zd (zj (r:=2061) (p:=[]) rfl rfl) zh))))) (zf rfl (zA (zd mi (zd YL zh)))) (by intro h;first | (cases h;done) | (subst h;rfl))) (XY (zp rfl (zp J7 rfl))))) (zf rfl (zA (zd mi (zd (zj (r:=44) (p:=[]) rfl rfl) zh)))),hg_20 4 _ _ (show s_19 4=(bZ 4) from (hd_19 4 (by decide)).trans (zb (show s_18 4=(bZ 4) from zJ ha_18 (show s_17 4=(bZ 4) from ha_17 4 _ _ h4 rfl (zf rfl (mIx rfl))) (zf rfl (mIx rfl))) (zC rfl rfl (yr (zp rfl (zp rfl rfl)))))) (zf rfl (mIx rfl))⟩ ?_
     rintro s ⟨h0,h3,h4⟩
     refine .nbk (.nsq (.seq (rg (g1 3 (.agg [ji x_2.a,zi (.at 2061 []) (.of (ap_10:LP))]) h3 fun h46=>yb (.agg [ji x_2.a,zi (.at 2061 []) (.of (ap_10:LP))]) (zw h4 rfl) (zw h46 rfl) (wj (by first | rfl | simp [V.toks,V.tokss,Enc.toks_enc,ya])) (yQ (K1 (x:=46) (v:=.agg [ji x_2.a,zi (.at 2061 []) (.of (ap_10:LP))]) [.at 2061 []] (by exact (zb h46 (yr (zp rfl (zp (uf rfl rfl) rfl))))) (by simp [V.toks,V.tokss,yw,Enc.toks_enc]) (fun s_21 hg_21=>?_)))))))
     refine ez [(0,bC r_8.2),(4,.ref (.bx 4) 0 [] (.agg [ji x_2.a,eP ap_10]))] ⟨hg_21 0 (bC r_8.2) (bC r_8.2) (zb h0 (zC rfl rfl Uu)) (ye rfl X8 rfl),hg_21 4 (.ref (.bx 4) 0 [] (.agg [ji x_2.a,zi (.at 2061 []) (.of (ap_10:LP))])) (.ref (.bx 4) 0 [] (.agg [ji x_2.a,eP ap_10])) (zb h4 rfl) (ye rfl (uU (yM rfl (yM Xb rfl))) rfl)⟩ ?_
     rintro s ⟨h0,h4⟩
     refine .nsq (.ret ?_)
     have hr:=Option.some.inj h
     subst hr
     exact rt1 (t:=0) (wN h4 (by kernel_rfl)) h0
   refine .skip (.nbk (.nsq (.seq (rg (g1 3 (.agg [ji x_2.a,zi (.at 2061 []) (.of (x_2.v:LP))]) h3 fun h46=>yb (.agg [ji x_2.a,zi (.at 2061 []) (.of (x_2.v:LP))]) (zw h4 rfl) (zw h46 rfl) (wj (by first | rfl | simp [V.toks,V.tokss,Enc.toks_enc,ya])) (yQ (K1 (x:=46) (v:=.agg [ji x_2.a,zi (.at 2061 []) (.of (x_2.v:LP))]) [.at 2061 []] (by exact (zb h46 (yr (zp rfl (zp (uf rfl rfl) rfl))))) (by simp [V.toks,V.tokss,yw,Enc.toks_enc]) (fun s_22 hg_22=>?_))))))))
   refine ez [(0,bC r_3.2),(4,.ref (.bx 4) 0 [] (.agg [ji x_2.a,eP x_2.v]))] ⟨hg_22 0 (bC r_3.2) (bC r_3.2) (zb h0 (zC rfl rfl Uu)) (ye rfl X8 rfl),hg_22 4 (.ref (.bx 4) 0 [] (.agg [ji x_2.a,zi (.at 2061 []) (.of (x_2.v:LP))])) (.ref (.bx 4) 0 [] (.agg [ji x_2.a,eP x_2.v])) (zb h4 rfl) (ye rfl (uU (yM rfl (yM Xb rfl))) rfl)⟩ ?_
   rintro s ⟨h0,h4⟩
   refine .nsq (.ret ?_)
   have hr:=Option.some.inj h
   subst hr
   exact rt1 (t:=0) (wN h4 (by kernel_rfl)) h0
 refine .skip (.nbk (.nsq (.seq (rg (g1 3 (.agg [ji x_2.a,zi (.at 2061 []) (.of (x_2.v:LP))]) h3 fun h46=>yb (.agg [ji x_2.a,zi (.at 2061 []) (.of (x_2.v:LP))]) (zw h4 rfl) (zw h46 rfl) (wj (by first | rfl | simp [V.toks,V.tokss,Enc.toks_enc,ya])) (yQ (K1 (x:=46) (v:=.agg [ji x_2.a,zi (.at 2061 []) (.of (x_2.v:LP))]) [.at 2061 []] (by exact (zb h46 (yr (zp rfl (zp (uf rfl rfl) rfl))))) (by simp [V.toks,V.tokss,yw,Enc.toks_enc]) (fun s_23 hg_23=>?_))))))))
 refine ez [(0,bC r_3.2),(4,.ref (.bx 4) 0 [] (.agg [ji x_2.a,eP x_2.v]))] ⟨hg_23 0 (bC r_3.2) (bC r_3.2) (zb h0 (zC rfl rfl Uu)) (ye rfl X8 rfl),hg_23 4 (.ref (.bx 4) 0 [] (.agg [ji x_2.a,zi (.at 2061 []) (.of (x_2.v:LP))])) (.ref (.bx 4) 0 [] (.agg [ji x_2.a,eP x_2.v])) (zb h4 rfl) (ye rfl (uU (yM rfl (yM Xb rfl))) rfl)⟩ ?_
 rintro s ⟨h0,h4⟩
 refine .nsq (.ret ?_)
 have hr:=Option.some.inj h
 subst hr
 exact rt1 (t:=0) (wN h4 (by kernel_rfl)) h0
end
def e72 (F:Nat):Ent:=ent 72 (fun (x:(CC×(Oh (Int×Int))×Unit))=>vo F x.1 x.2.1) (fun (r:(GR×CU))=>(.tup [Enc.enc (r.1:GR),.tup [cuV zH r.2]])) Zk false []
abbrev C72 (D:List V→Option V) (F:Nat):Prop:=∀ (x0:CC) (x1:(Oh (Int×Int))) r,vo F x0 x1=some r→D [Arg.arg x0,Arg.arg x1]=some (.tup [Enc.enc (r.1:GR),.tup [cuV zH r.2]])
theorem p72 {F:Nat}:C72 (e72 F).den F:=fun x0 x1 _ h=>zN (x0,x1,()) h
theorem o72 {D:Den} {σ:Sig} {F:Nat} (hF:zy Try.prog D σ) (H:H72 D σ F):(e72 F).Ok Try.prog:=by
 refine yl (f:=72) (show unk 72=72 from rfl) (fun args r h=>?_) ⟨Try.f72,Try.func72,rfl,rfl⟩
 obtain ⟨⟨x0,x1,_⟩,y,rfl,hy,rfl⟩:=zM h
 exact wV hF (by kernel_rfl) Try.func72 rfl c72 rfl (show 2≤Try.f72.ntmps by decide) (by decide) (t72 H x0 x1 _ ⟨rfl,rfl⟩ hy)
def Uc:AC:=(.seq (.reg [] [jm 98 0,jv 99 (.load (.ag [.s,.p]) (.t 6)),jx 100 (.callT (jf 72) [.t 98,.t 99] [0] [99]),jz (.store (.ag [.s,.p]) (.t 4) (.t 100))] []) .ret)
def zqx:AC:=(.cond (.t 39) .skip (.exit 1))
def zqQ:AC:=(.cond (.t 46) .skip (.exit 3))
def zsN:AC:=(.cond (.t 52) (.reg [.clr [58]] [jv 53 (.fld (.t 6) 1 1),jv 54 (.load .p (.t 53)),jm 55 9,jm 56 10,jv 57 (.bld (.agg [i0,i0]) [(0,0,.t 55),(1,1,.t 56)]),jx 58 (.callO (jf 71) [.t 54,.t 57]),jv 59 (.fld (.t 6) 1 1),jz (.store .p (.t 59) (.t 58))] [.drp 28,.home 58 28]) .skip)
def zgy:AC:=(.reg [] [jm 47 10,jv 48 (.bin .add (.t 47) (jn 1)),jm 10 48] [])
def zrw:AC:=(.seq (.block 4 (.seq (.reg [] [jm 49 0,jm 50 7,jx 51 (.callT (jf 65) [.t 49,.t 50] [0] []),jv 52 (.bin .eql (.t 51) (jn 0))] []) zsN)) zgy)
def Nh:AC:=(.seq (.seq (.reg [] [jm 44 10,jm 45 5,jv 46 (.bin .lss (.t 44) (.t 45))] []) zqQ) zrw)
def znZ:AC:=(.block 3 (.loop Nh))
def zi5:AC:=(.cond (.t 76) (.reg [.clr [82]] [jv 77 (.fld (.t 6) 1 1),jv 78 (.load .p (.t 77)),jm 79 11,jm 80 9,jv 81 (.bld (.agg [i0,i0]) [(0,0,.t 79),(1,1,.t 80)]),jx 82 (.callO (jf 71) [.t 78,.t 81]),jv 83 (.fld (.t 6) 1 1),jz (.store .p (.t 83) (.t 82))] [.drp 28,.home 82 28]) .skip)
def zmM:AC:=(.seq (.reg [] [jm 64 9,jv 65 (.bin .gtr (.t 64) (jn 0)),jm 66 65,jg 67 66 true (.mov (.t 8)),jg 68 66 true (.un .not (.t 67)),jv 69 (.pick (.t 66) (.t 68) kf),jm 70 69,jg 71 70 true (.load (.ag [.s,.p]) (.t 6)),jg 72 70 true (.mov (.t 9)),jg 73 70 true (.mov (.t 11)),.mk (some 74) (some (70,true)) false (.call (jf 57) [.t 71,.t 72,.t 73]),jg 75 70 true (.un .not (.t 74)),jv 76 (.pick (.t 70) (.t 75) kf)] []) zi5)
def zbb:AC:=(.seq (.reg [] [jm 60 0,jm 61 9,jx 62 (.call (jf 39) [.t 61,jn 1]),jx 63 (.callT (jf 65) [.t 60,.t 62] [0] []),jm 11 63] []) zmM)
def KV:AC:=(.reg [] [jm 40 9,jv 41 (.bin .add (.t 40) (jn 1)),jm 9 41] [])
def zpI:AC:=(.seq (.block 2 (.seq (.seq (.reg [] [jm 42 9,jv 43 (.bin .add (.t 42) (jn 1)),jm 10 43] []) znZ) zbb)) KV)
def Y9:AC:=(.seq (.seq (.reg [] [jm 37 9,jm 38 5,jv 39 (.bin .lss (.t 37) (.t 38))] []) zqx) zpI)
def zm0:AC:=(.cond (.t 91) (.reg [.clr [93]] [jm 92 5,jx 93 (.callO (jf 69) [.t 92]),jz (.store (.ag [.s,.p]) (.t 6) (.t 93))] [.drp 28,.ren 28 93 [1]]) .skip)
def zlR:AC:=(.block 1 (.loop Y9))
def zmw:AC:=(.seq (.reg [] [jv 9 (.mov (jn 0))] []) zlR)
def zlu:AC:=(.cond (.t 94) (.reg [.clr [97]] [jm 96 5,jx 97 (.callO (jf 70) [.t 96]),jz (.store (.ag [.s,.p]) (.t 6) (.t 97))] [.drp 28,.ren 28 97 [1]]) (.seq (.reg [.clr [33]] [jm 32 0,jx 33 (.litS i0 3 [(0,0,jn 3),(1,1,jn 4),(2,2,jn 6)]),jx 34 (.callT (jf 67) [.t 32,.t 33] [0] []),jm 35 0,jx 36 (.callT (jf 66) [.t 35,jn 6] [0] []),jm 7 34,jm 8 36] []) zmw))
def zlH:AC:=(.cond (.t 88) (.seq (.reg [] [jm 90 5,jv 91 (.bin .gtr (.t 90) (jn 2))] []) zm0) (.seq (.reg [] [jv 95 (.bin .eql (.t 31) (jn 2)),jm 94 95] []) zlu))
def zm9:AC:=(.cond (.t 84) (.reg [.clr [87]] [jm 86 5,jx 87 (.callO (jf 68) [.t 86]),jz (.store (.ag [.s,.p]) (.t 6) (.t 87))] [.drp 28,.ren 28 87 [1]]) (.seq (.reg [] [jv 89 (.bin .eql (.t 31) (jn 1)),jm 88 89] []) zlH))
def zm2:AC:=(.block 0 (.seq (.reg [] [jv 85 (.bin .eql (.t 31) (jn 0)),jm 84 85] []) zm9))
def zmX:AC:=(.seq (.seq (.reg [] [jm 30 0,jx 31 (.callT (jf 65) [.t 30,jn 8] [0] [])] []) zm2) Uc)
def znP:AC:=(.seq (.reg [.clr [28,6]] [jm 27 5,jx 28 (.lit (.agg [i0,i0]) 0 []),jv 29 (.bld (.agg [i0,.sl .nl (.ag [.s,.s]) 0 []]) [(0,0,.t 27),(1,1,.t 28)]),jx 6 (.alloc (.agg [i0,.sl .nl (.ag [.s,.s]) 0 []])),jz (.store (.ag [.s,.p]) (.t 6) (.t 29))] []) zmX)
def zdx:AC:=(.seq (.reg [] [jm 24 5,jm 25 1,jx 26 (.call (jf 36) [.t 24,.t 25]),jm 5 26] []) znP)
def ziG:AC:=(.cond (.t 20) (.reg [] [jm 21 0,jx 22 (.callT (jf 65) [.t 21,jn 2] [0] []),jv 23 (.bin .add (jn 7) (.t 22)),jm 5 23] []) .skip)
def zmN:AC:=(.seq (.seq (.reg [] [jm 15 1,jv 16 (.bin .gtr (.t 15) (jn 6)),jm 17 16,jg 18 17 true (.mov (.t 0)),.mk (some 19) (some (17,true)) false (.callT (jf 66) [.t 18,jn 4] [0] []),jv 20 (.pick (.t 17) (.t 19) kf)] []) ziG) zdx)
def zmG:AC:=(.seq (.reg [.clr [13]] [jm 12 0,jx 13 (.litS i0 7 [(0,0,jn 4),(1,1,jn 5),(2,2,jn 3),(3,3,jn 6),(4,4,jn 2),(5,5,jn 1),(6,6,jn 0)]),jx 14 (.callT (jf 67) [.t 12,.t 13] [0] []),jm 5 14] []) zmN)
def A44:AC:=(.seq (.reg [.clr [4]] [jx 4 (.alloc (.agg [i0,.sl .nl (.ag [.s,.s]) 0 []]))] []) zmG)
def ztE:List An:=[⟨0,[.clr [4]],[],[],[]⟩,⟨1,[.clr [13]],[],[3000000,6001],[]⟩,⟨2,[],[],[5000000],[]⟩,⟨3,[],[],[2000000],[]⟩,⟨5,[.clr [28,6]],[],[],[]⟩,⟨6,[],[],[2000000],[]⟩,⟨7,[.clr [33]],[],[3000000,6001,5000000],[]⟩,⟨14,[],[],[3000000],[]⟩,⟨15,[.clr [58]],[],[1005],[.drp 28,.home 58 28]⟩,⟨16,[],[],[4000000],[]⟩,⟨18,[.clr [82]],[],[1005],[.drp 28,.home 82 28]⟩,⟨20,[.clr [87]],[],[1001],[.drp 28,.ren 28 87 [1]]⟩,⟨23,[.clr [93]],[],[1001],[.drp 28,.ren 28 93 [1]]⟩,⟨25,[.clr [97]],[],[1001],[.drp 28,.ren 28 97 [1]]⟩,⟨26,[],[],[3000000,3500099],[]⟩]
theorem c44:cC Try.prog Try.f44.ntmps ztE (Try.f44.body.getD .skip)=some A44:=by kernel_rfl
structure H44 (D:Den) (σ:Sig) (F:Nat):Prop where
 c67:C67 (D 67) F
 g67:σ 67=some (Zk,false)
 c66:C66 (D 66) F
 g66:σ 66=some (Zk,false)
 c65:C65 (D 65) F
 g65:σ 65=some (Zk,false)
 c36:C36 (D 36) F
 g36:σ 36=some (0,false)
 c68o:zmh (D 1000000068) F
 g68o:σ 1000000068=some (1,false)
 c69o:zr9 (D 1000000069) F
 g69o:σ 1000000069=some (1,false)
 c70o:zoI (D 1000000070) F
 g70o:σ 1000000070=some (1,false)
 c71o:znn (D 1000000071) F
 g71o:σ 1000000071=some (1,false)
 c39:C39 (D 39) F
 g39:σ 39=some (0,false)
 c57:C57 (D 57) F
 g57:σ 57=some (0,false)
 c72:C72 (D 72) F
 g72:σ 72=some (Zk,false)
abbrev R44 (r:(GR×CU)):(Nat→V)→Prop:=RT Try.prog [.cell 4 26] (Enc.enc (r.1:GR)) [cuV zH r.2]
section
variable {D:Den} {σ:Sig} {F:Nat} {r:(GR×CU)}
def yS (F:Nat)   (x_101:LB) (x_102:Int) (x_103:Int) (x_104:Int) (x_105:(NL (Int×Int))):Option (GR×CU):=
 (zf9 x_105).bind fun li_107=>
 (vo F (cu x_101 x_102 x_103) (Oh.mk x_104 li_107:Oh (Int×Int))).bind fun r_106=>
 some (r_106.1,r_106.2)
theorem UC (H:H44 D σ F)   (x_101:LB) (x_102:Int) (x_103:Int) (x_104:Int) (x_105:(NL (Int×Int))) (s:Nat→V) (hs:zl [(0,.ref (.bx zH) 0 [] (.agg [eB x_101,ji x_102,.int .u64 x_103])),(4,bZ 4),(6,.ref (.bx 6) 0 [] (.agg [ji x_104,zi (.at 28 []) (x_105:NL (Int×Int))]))] s) (h:yS F   x_101 x_102 x_103 x_104 x_105=some r):Run D σ (R44 r) (.nrm [.bk 0,.sq Uc]) s:=by
 unfold yS at h
 obtain ⟨h0,h4,h6⟩:=hs
 refine .nbk (.nsq (.seq (rg (gm h0 fun h98=>gv (.agg [ji x_104,zi (.at 28 []) (x_105:NL (Int×Int))]) (Z7 (c:=.agg [ji x_104,zi (.at 28 []) (x_105:NL (Int×Int))]) h6 (by simp [V.shape,V.shapes,yK,WP,Sh.beq,Sh.beqs])) fun h99=>?_))))
 obtain ⟨li_107,E_li_107,h⟩:=bind_some h
 obtain ⟨r_106,E_r_106,h⟩:=bind_some h
 refine zmP (r:=zH) (b:=0) (e:=99) (q:=28) (ρ:=[]) (x:=((S3.mk x_101 x_102 (Kd.mk x_103:Kd .u64)):CU)) (x':=r_106.2) (n:=x_104) (xs:=(li_107:LP)) (res:=Enc.enc (r_106.1:GR)) h0 (zbQ E_li_107 h99) (by exact (zQ (v:=cuV zH ((S3.mk x_101 x_102 (Kd.mk x_103:Kd .u64)):CU)) h98 rfl (zQ (v:=.agg [ji x_104,zi (.at 28 []) (.of (li_107:LP))]) (zbQ E_li_107 h99) rfl yR))) (H.c72 _ _ _ E_r_106) H.g72 te rfl (fun s_106 hb_106 ha_106=>?_)
 refine yb (gV r_106.1) (zw (show s_106 4=(bZ 4) from ha_106 4 _ _ h4 rfl (zf rfl (mIx rfl))) rfl) (zw rfl rfl) (wj (by first | rfl | simp [V.toks,V.tokss,Enc.toks_enc,ya])) (gz [(0,bC r_106.2),(4,bG 4 r_106.1)] ⟨zb (show s_106 0=(bC r_106.2) from hb_106 0 h0) (zC rfl rfl Uu),zb (show s_106 4=(bZ 4) from ha_106 4 _ _ h4 rfl (zf rfl (mIx rfl))) rfl⟩ ?_)
 rintro s ⟨h0,h4⟩
 refine .nsq (.ret ?_)
 have hr:=Option.some.inj h
 subst hr
 exact rt1 (t:=0) (wN h4 (by kernel_rfl)) h0
def vB (F:Nat) (r_181:(Int×CU)) (r_14:Int) (r_111:(Int×CU)) (r_112:(Bool×CU)) (x_142:Int) (x_176:Int) (c5:LB→Int→Int→(NL (Int×Int))→Int→Option (GR×CU)) (c8:LB→Int→Int→(NL (Int×Int))→Int→Option (GR×CU)) (x_183:(NL (Int×Int))):Option (GR×CU):=
 c8 r_181.2.a r_181.2.b r_181.2.c.v x_183 (w64 (x_176 + 1))
theorem zcg (H:H44 D σ F) (r_181:(Int×CU)) (r_14:Int) (r_111:(Int×CU)) (r_112:(Bool×CU)) (x_142:Int) (x_176:Int) (c5:LB→Int→Int→(NL (Int×Int))→Int→Option (GR×CU)) (Hc5:∀ (x_138:LB) (x_139:Int) (x_140:Int) (x_141:(NL (Int×Int))) (x_142:Int) (s:Nat→V),zl [(0,.ref (.bx zH) 0 [] (.agg [eB x_138,ji x_139,.int .u64 x_140])),(4,bZ 4),(5,ji r_14),(6,.ref (.bx 6) 0 [] (.agg [ji r_14,zi (.at 28 []) (x_141:NL (Int×Int))])),(7,ji r_111.1),(8,jb r_112.1),(9,ji x_142)] s→c5 x_138 x_139 x_140 x_141 x_142=some r→Run D σ (R44 r) (.run Y9 [.lp Y9,.bk 1,.bk 0,.sq Uc]) s) (c8:LB→Int→Int→(NL (Int×Int))→Int→Option (GR×CU)) (Hc8:∀ (x_172:LB) (x_173:Int) (x_174:Int) (x_175:(NL (Int×Int))) (x_176:Int) (s:Nat→V),zl [(0,.ref (.bx zH) 0 [] (.agg [eB x_172,ji x_173,.int .u64 x_174])),(4,bZ 4),(5,ji r_14),(6,.ref (.bx 6) 0 [] (.agg [ji r_14,zi (.at 28 []) (x_175:NL (Int×Int))])),(7,ji r_111.1),(8,jb r_112.1),(9,ji x_142),(10,ji x_176)] s→c8 x_172 x_173 x_174 x_175 x_176=some r→Run D σ (R44 r) (.run Nh [.lp Nh,.bk 3,.sq zbb,.bk 2,.sq KV,.lp Y9,.bk 1,.bk 0,.sq Uc]) s) (x_183:(NL (Int×Int))) (s:Nat→V) (hs:zl [(0,bC r_181.2),(4,bZ 4),(5,ji r_14),(6,.ref (.bx 6) 0 [] (.agg [ji r_14,zi (.at 28 []) (x_183:NL (Int×Int))])),(7,ji r_111.1),(8,jb r_112.1),(9,ji x_142),(10,ji x_176)] s) (h:vB F r_181 r_14 r_111 r_112 x_142 x_176 c5 c8 x_183=some r):Run D σ (R44 r) (.nrm [.bk 4,.sq zgy,.lp Nh,.bk 3,.sq zbb,.bk 2,.sq KV,.lp Y9,.bk 1,.bk 0,.sq Uc]) s:=by
 unfold vB at h
 obtain ⟨h0,h4,h5,h6,h7,h8,h9,h10⟩:=hs
 refine .nbk (.nsq (rg (gm h10 fun h47=>g1 47 (ji (w64 (x_176 + 1))) h47 fun h48=>gm h48 fun h10=>gq (.nlp ?_))))
 exact Hc8 r_181.2.a r_181.2.b r_181.2.c.v x_183 (w64 (x_176 + 1)) _ ⟨h0,h4,h5,h6,h7,h8,h9,h10⟩ h
def vI (F:Nat) (r_186:(Int×CU)) (r_14:Int) (r_111:(Int×CU)) (r_112:(Bool×CU)) (x_142:Int) (c5:LB→Int→Int→(NL (Int×Int))→Int→Option (GR×CU)) (x_190:(NL (Int×Int))):Option (GR×CU):=
 c5 r_186.2.a r_186.2.b r_186.2.c.v x_190 (w64 (x_142 + 1))
theorem zb3 (H:H44 D σ F) (r_186:(Int×CU)) (r_14:Int) (r_111:(Int×CU)) (r_112:(Bool×CU)) (x_142:Int) (c5:LB→Int→Int→(NL (Int×Int))→Int→Option (GR×CU)) (Hc5:∀ (x_138:LB) (x_139:Int) (x_140:Int) (x_141:(NL (Int×Int))) (x_142:Int) (s:Nat→V),zl [(0,.ref (.bx zH) 0 [] (.agg [eB x_138,ji x_139,.int .u64 x_140])),(4,bZ 4),(5,ji r_14),(6,.ref (.bx 6) 0 [] (.agg [ji r_14,zi (.at 28 []) (x_141:NL (Int×Int))])),(7,ji r_111.1),(8,jb r_112.1),(9,ji x_142)] s→c5 x_138 x_139 x_140 x_141 x_142=some r→Run D σ (R44 r) (.run Y9 [.lp Y9,.bk 1,.bk 0,.sq Uc]) s) (x_190:(NL (Int×Int))) (s:Nat→V) (hs:zl [(0,bC r_186.2),(4,bZ 4),(5,ji r_14),(6,.ref (.bx 6) 0 [] (.agg [ji r_14,zi (.at 28 []) (x_190:NL (Int×Int))])),(7,ji r_111.1),(8,jb r_112.1),(9,ji x_142)] s) (h:vI F r_186 r_14 r_111 r_112 x_142 c5 x_190=some r):Run D σ (R44 r) (.nrm [.bk 2,.sq KV,.lp Y9,.bk 1,.bk 0,.sq Uc]) s:=by
 unfold vI at h
 obtain ⟨h0,h4,h5,h6,h7,h8,h9⟩:=hs
 refine .nbk (.nsq (rg (gm h9 fun h40=>g1 40 (ji (w64 (x_142 + 1))) h40 fun h41=>gm h41 fun h9=>gq (.nlp ?_))))
 exact Hc5 r_186.2.a r_186.2.b r_186.2.c.v x_190 (w64 (x_142 + 1)) _ ⟨h0,h4,h5,h6,h7,h8,h9⟩ h
def xc (F:Nat) (r_186:(Int×CU)) (r_14:Int) (x_175:(NL (Int×Int))) (r_111:(Int×CU)) (r_112:(Bool×CU)) (x_142:Int) (c5:LB→Int→Int→(NL (Int×Int))→Int→Option (GR×CU)) (x_188:Bool):Option (GR×CU):=
 bif x_188 then
  (uV F x_175.list (r_186.1,x_142)).bind fun r_191=>
  vI F r_186 r_14 r_111 r_112 x_142 c5 r_191
 else
  vI F r_186 r_14 r_111 r_112 x_142 c5 x_175
theorem Mo (H:H44 D σ F) (r_186:(Int×CU)) (r_14:Int) (x_175:(NL (Int×Int))) (r_111:(Int×CU)) (r_112:(Bool×CU)) (x_142:Int) (c5:LB→Int→Int→(NL (Int×Int))→Int→Option (GR×CU)) (Hc5:∀ (x_138:LB) (x_139:Int) (x_140:Int) (x_141:(NL (Int×Int))) (x_142:Int) (s:Nat→V),zl [(0,.ref (.bx zH) 0 [] (.agg [eB x_138,ji x_139,.int .u64 x_140])),(4,bZ 4),(5,ji r_14),(6,.ref (.bx 6) 0 [] (.agg [ji r_14,zi (.at 28 []) (x_141:NL (Int×Int))])),(7,ji r_111.1),(8,jb r_112.1),(9,ji x_142)] s→c5 x_138 x_139 x_140 x_141 x_142=some r→Run D σ (R44 r) (.run Y9 [.lp Y9,.bk 1,.bk 0,.sq Uc]) s) (x_188:Bool) (s:Nat→V) (hs:zl [(0,bC r_186.2),(4,bZ 4),(5,ji r_14),(6,.ref (.bx 6) 0 [] (.agg [ji r_14,zi (.at 28 []) (x_175:NL (Int×Int))])),(7,ji r_111.1),(8,jb r_112.1),(9,ji x_142),(11,ji r_186.1),(76,jb x_188)] s) (h:xc F r_186 r_14 x_175 r_111 r_112 x_142 c5 x_188=some r):Run D σ (R44 r) (.nrm [.sq zi5,.bk 2,.sq KV,.lp Y9,.bk 1,.bk 0,.sq Uc]) s:=by
 unfold xc at h
 obtain ⟨h0,h4,h5,h6,h7,h8,h9,h11,h76⟩:=hs
 refine .nsq (zk (t:=x_188) h76 h (fun h=>?_) (fun h=>?_))
 · refine zq (zS ?_)
   refine ez [(0,_),(4,_),(5,_),(6,_),(7,_),(8,_),(9,_),(11,_),(82,_)] ⟨za h0 rfl (zf rfl uH),za h4 rfl (zf rfl (mIx rfl)),za h5 rfl mi,za h6 rfl (zf rfl (zA (zd mi (zd (zj (r:=28) (p:=[]) rfl rfl) zh)))),za h7 rfl mi,za h8 rfl mb,za h9 rfl mi,za h11 rfl mi,zc rfl⟩ ?_
   rintro s ⟨h0,h4,h5,h6,h7,h8,h9,h11,h82⟩
   refine g1 6 (.ref (.bx 6) 0 [1] (zi (.at 28 []) (x_175:NL (Int×Int)))) h6 fun h77=>gv (zi (.at 28 []) (x_175:NL (Int×Int))) (Z7 h77 UB) fun h78=>gm h11 fun h79=>gm h9 fun h80=>g2 79 80 (.agg [ji r_186.1,ji x_142]) h79 h80 fun h81=>?_
   obtain ⟨r_191,E_r_191,h⟩:=bind_some h
   refine ZA (m:=1) (al:=false) (r:=zi .sh (r_191:NL (Int×Int))) (v:=zi (.at 82 []) (r_191:NL (Int×Int))) (kk:=1000000071) [eP x_175.list,Enc.enc ((r_186.1,x_142):(Int×Int))] (ze (v:=zi (.at 28 []) (x_175:NL (Int×Int))) h78 vv (vm (o:=x_175)) (ze (v:=.agg [ji r_186.1,ji x_142]) h81 rfl (Enc.erase_enc ((r_186.1,x_142):(Int×Int))) zx)) (H.c71o _ _ _ E_r_191) H.g71o rfl vf vX vv h82 (g1 6 (.ref (.bx 6) 0 [1] (zi (.at 28 []) (x_175:NL (Int×Int)))) h6 fun h83=>?_)
   refine yb (zi (.at 82 []) (r_191:NL (Int×Int))) (zw h83 rfl) (zw rfl vv) ⟨by decide,by decide,J2,Wq,Wq,YQ rfl rfl⟩ (yQ (W9 (x:=28) (fun s_202 hx_202 hd_202=>yC (r:=82) (x:=28) (v:=_) (by exact hx_202) rfl (fun s_203 hg_203=>?_))))
   refine ez [(0,bC r_186.2),(4,bZ 4),(5,ji r_14),(6,.ref (.bx 6) 0 [] (.agg [ji r_14,zi (.at 28 []) (r_191:NL (Int×Int))])),(7,ji r_111.1),(8,jb r_112.1),(9,ji x_142)] ⟨hg_203 0 _ _ (show s_202 0=(bC r_186.2) from (hd_202 0 (by decide)).trans (zb h0 (zC rfl rfl Uu))) (zf rfl uH),hg_203 4 _ _ (show s_202 4=(bZ 4) from (hd_202 4 (by decide)).trans (zb h4 (zC rfl rfl (yr (zp rfl (zp rfl rfl)))))) (zf rfl (mIx rfl)),hg_203 5 _ _ (show s_202 5=(ji r_14) from (hd_202 5 (by decide)).trans (zb h5 rfl)) mi,hg_203 6 _ (.ref (.bx 6) 0 [] (.agg [ji r_14,zi (.at 28 []) (r_191:NL (Int×Int))])) (show s_202 6=(.ref (.bx 6) 0 [] (.agg [ji r_14,zi (.at 82 []) (r_191:NL (Int×Int))])) from (hd_202 6 (by decide)).trans (zb h6 (XY (zp rfl (zp (uf rfl rfl) rfl))))) (zf rfl (zA (zd mi (zd (zj (r:=82) (p:=[]) rfl rfl) zh)))),hg_203 7 _ _ (show s_202 7=(ji r_111.1) from (hd_202 7 (by decide)).trans (zb h7 rfl)) mi,hg_203 8 _ _ (show s_202 8=(jb r_112.1) from (hd_202 8 (by decide)).trans (zb h8 rfl)) mb,hg_203 9 _ _ (show s_202 9=(ji x_142) from (hd_202 9 (by decide)).trans (zb h9 rfl)) mi⟩ ?_
   rintro s ⟨h0,h4,h5,h6,h7,h8,h9⟩
   exact zb3 H r_186 r_14 r_111 r_112 x_142 c5 Hc5 r_191 _ ⟨h0,h4,h5,h6,h7,h8,h9⟩ h
 refine .skip ?_
 exact zb3 H r_186 r_14 r_111 r_112 x_142 c5 Hc5 x_175 _ ⟨h0,h4,h5,h6,h7,h8,h9⟩ h
def yq (F:Nat) (r_14:Int) (r_111:(Int×CU)) (r_112:(Bool×CU)) (x_142:Int) (c5:LB→Int→Int→(NL (Int×Int))→Int→Option (GR×CU)):Nat→LB→Int→Int→(NL (Int×Int))→Int→Option (GR×CU)
 | 0,_,_,_,_,_=>none
 | k + 1,x_172,x_173,x_174,x_175,x_176=>
   bif decide (x_176 < r_14) then
    (yA F (cu x_172 x_173 x_174) r_111.1).bind fun r_181=>
    bif (r_181.1 == 0) then
     (uV F x_175.list (x_142,x_176)).bind fun r_184=>
     vB F r_181 r_14 r_111 r_112 x_142 x_176 c5 (yq F r_14 r_111 r_112 x_142 c5 k) r_184
    else
     vB F r_181 r_14 r_111 r_112 x_142 x_176 c5 (yq F r_14 r_111 r_112 x_142 c5 k) x_175
   else
    (Zo F x_142 1).bind fun r_185=>
    (yA F (cu x_172 x_173 x_174) r_185).bind fun r_186=>
    bif decide (x_142 > 0) then
     bif (!r_112.1) then
      (uo F (r_14,x_175.list) x_142 r_186.1).bind fun r_192=>
      xc F r_186 r_14 x_175 r_111 r_112 x_142 c5 (!r_192)
     else
      xc F r_186 r_14 x_175 r_111 r_112 x_142 c5 false
    else
     xc F r_186 r_14 x_175 r_111 r_112 x_142 c5 false
theorem zhK (H:H44 D σ F) (r_14:Int) (r_111:(Int×CU)) (r_112:(Bool×CU)) (x_142:Int) (c5:LB→Int→Int→(NL (Int×Int))→Int→Option (GR×CU)) (Hc5:∀ (x_138:LB) (x_139:Int) (x_140:Int) (x_141:(NL (Int×Int))) (x_142:Int) (s:Nat→V),zl [(0,.ref (.bx zH) 0 [] (.agg [eB x_138,ji x_139,.int .u64 x_140])),(4,bZ 4),(5,ji r_14),(6,.ref (.bx 6) 0 [] (.agg [ji r_14,zi (.at 28 []) (x_141:NL (Int×Int))])),(7,ji r_111.1),(8,jb r_112.1),(9,ji x_142)] s→c5 x_138 x_139 x_140 x_141 x_142=some r→Run D σ (R44 r) (.run Y9 [.lp Y9,.bk 1,.bk 0,.sq Uc]) s):∀ (k:Nat) (x_172:LB) (x_173:Int) (x_174:Int) (x_175:(NL (Int×Int))) (x_176:Int) (s:Nat→V),zl [(0,.ref (.bx zH) 0 [] (.agg [eB x_172,ji x_173,.int .u64 x_174])),(4,bZ 4),(5,ji r_14),(6,.ref (.bx 6) 0 [] (.agg [ji r_14,zi (.at 28 []) (x_175:NL (Int×Int))])),(7,ji r_111.1),(8,jb r_112.1),(9,ji x_142),(10,ji x_176)] s→yq F r_14 r_111 r_112 x_142 c5 k x_172 x_173 x_174 x_175 x_176=some r→Run D σ (R44 r) (.run Nh [.lp Nh,.bk 3,.sq zbb,.bk 2,.sq KV,.lp Y9,.bk 1,.bk 0,.sq Uc]) s:=by
 intro k
 induction k with
 | zero=>intro x_172 x_173 x_174 x_175 x_176 s _ h;exact nm h
 | succ k ih=>
   intro x_172 x_173 x_174 x_175 x_176 s hs h
   rw [yq] at h
   obtain ⟨h0,h4,h5,h6,h7,h8,h9,h10⟩:=hs
   refine .seq (.seq (rg (gm h10 fun h44=>gm h5 fun h45=>g2 44 45 (jb (decide (x_176 < r_14))) h44 h45 fun h46=>gq (.nsq (zk (t:=decide (x_176 < r_14)) h46 h (fun h=>?_) (fun h=>?_))))))
   · refine .skip (.nsq (.seq (.block (.seq (rg (gm h0 fun h49=>gm h7 fun h50=>?_))))))
     obtain ⟨r_181,E_r_181,h⟩:=bind_some h
     refine uz (r:=zH) (b:=0) (x:=((S3.mk x_172 x_173 (Kd.mk x_174:Kd .u64)):CU)) (x':=r_181.2) (vs:=[Enc.enc (r_111.1:Int)]) (res:=Enc.enc (r_181.1:Int)) h0 (by exact (zQ (v:=cuV zH ((S3.mk x_172 x_173 (Kd.mk x_174:Kd .u64)):CU)) h49 rfl (zQ (v:=Enc.enc (r_111.1:Int)) h50 rfl yR))) (yk te yH) fm1 (H.c65 _ _ _ E_r_181) H.g65 te rfl (fun s_190 hb_190 ha_190=>g1 51 (jb (r_181.1 == 0)) (rf (ji r_181.1)) fun h52=>?_)
     refine gz [(0,_),(4,bZ 4),(5,ji r_14),(6,.ref (.bx 6) 0 [] (.agg [ji r_14,zi (.at 28 []) (x_175:NL (Int×Int))])),(7,ji r_111.1),(8,jb r_112.1),(9,ji x_142),(10,ji x_176),(52,_)] ⟨(show s_190 0=(bC r_181.2) from hb_190 0 h0),(show s_190 4=(bZ 4) from ha_190 4 _ _ h4 rfl (zf rfl (mIx rfl))),(show s_190 5=(ji r_14) from ha_190 5 _ _ h5 rfl mi),(show s_190 6=(.ref (.bx 6) 0 [] (.agg [ji r_14,zi (.at 28 []) (x_175:NL (Int×Int))])) from ha_190 6 _ _ h6 rfl (zf rfl (zA (zd mi (zd (zj (r:=28) (p:=[]) rfl rfl) zh))))),(show s_190 7=(ji r_111.1) from ha_190 7 _ _ h7 rfl mi),(show s_190 8=(jb r_112.1) from ha_190 8 _ _ h8 rfl mb),(show s_190 9=(ji x_142) from ha_190 9 _ _ h9 rfl mi),(show s_190 10=(ji x_176) from ha_190 10 _ _ h10 rfl mi),h52⟩ ?_
     rintro s ⟨h0,h4,h5,h6,h7,h8,h9,h10,h52⟩
     refine .nsq (zk (t:=(r_181.1 == 0)) h52 h (fun h=>?_) (fun h=>?_))
     · refine zq (zS ?_)
       refine ez [(0,_),(4,_),(5,_),(6,_),(7,_),(8,_),(9,_),(10,_),(58,_)] ⟨za h0 rfl (zf rfl uH),za h4 rfl (zf rfl (mIx rfl)),za h5 rfl mi,za h6 rfl (zf rfl (zA (zd mi (zd (zj (r:=28) (p:=[]) rfl rfl) zh)))),za h7 rfl mi,za h8 rfl mb,za h9 rfl mi,za h10 rfl mi,zc rfl⟩ ?_
       rintro s ⟨h0,h4,h5,h6,h7,h8,h9,h10,h58⟩
       refine g1 6 (.ref (.bx 6) 0 [1] (zi (.at 28 []) (x_175:NL (Int×Int)))) h6 fun h53=>gv (zi (.at 28 []) (x_175:NL (Int×Int))) (Z7 h53 UB) fun h54=>gm h9 fun h55=>gm h10 fun h56=>g2 55 56 (.agg [ji x_142,ji x_176]) h55 h56 fun h57=>?_
       obtain ⟨r_184,E_r_184,h⟩:=bind_some h
       refine ZA (m:=1) (al:=false) (r:=zi .sh (r_184:NL (Int×Int))) (v:=zi (.at 58 []) (r_184:NL (Int×Int))) (kk:=1000000071) [eP x_175.list,Enc.enc ((x_142,x_176):(Int×Int))] (ze (v:=zi (.at 28 []) (x_175:NL (Int×Int))) h54 vv (vm (o:=x_175)) (ze (v:=.agg [ji x_142,ji x_176]) h57 rfl (Enc.erase_enc ((x_142,x_176):(Int×Int))) zx)) (H.c71o _ _ _ E_r_184) H.g71o rfl vf vX vv h58 (g1 6 (.ref (.bx 6) 0 [1] (zi (.at 28 []) (x_175:NL (Int×Int)))) h6 fun h59=>?_)
       refine yb (zi (.at 58 []) (r_184:NL (Int×Int))) (zw h59 rfl) (zw rfl vv) ⟨by decide,by decide,J2,Wq,Wq,YQ rfl rfl⟩ (yQ (W9 (x:=28) (fun s_195 hx_195 hd_195=>yC (r:=58) (x:=28) (v:=_) (by exact hx_195) rfl (fun s_196 hg_196=>?_))))
       refine ez [(0,bC r_181.2),(4,bZ 4),(5,ji r_14),(6,.ref (.bx 6) 0 [] (.agg [ji r_14,zi (.at 28 []) (r_184:NL (Int×Int))])),(7,ji r_111.1),(8,jb r_112.1),(9,ji x_142),(10,ji x_176)] ⟨hg_196 0 _ _ (show s_195 0=(bC r_181.2) from (hd_195 0 (by decide)).trans (zb h0 (zC rfl rfl Uu))) (zf rfl uH),hg_196 4 _ _ (show s_195 4=(bZ 4) from (hd_195 4 (by decide)).trans (zb h4 (zC rfl rfl (yr (zp rfl (zp rfl rfl)))))) (zf rfl (mIx rfl)),hg_196 5 _ _ (show s_195 5=(ji r_14) from (hd_195 5 (by decide)).trans (zb h5 rfl)) mi,hg_196 6 _ (.ref (.bx 6) 0 [] (.agg [ji r_14,zi (.at 28 []) (r_184:NL (Int×Int))])) (show s_195 6=(.ref (.bx 6) 0 [] (.agg [ji r_14,zi (.at 58 []) (r_184:NL (Int×Int))])) from (hd_195 6 (by decide)).trans (zb h6 (XY (zp rfl (zp (uf rfl rfl) rfl))))) (zf rfl (zA (zd mi (zd (zj (r:=58) (p:=[]) rfl rfl) zh)))),hg_196 7 _ _ (show s_195 7=(ji r_111.1) from (hd_195 7 (by decide)).trans (zb h7 rfl)) mi,hg_196 8 _ _ (show s_195 8=(jb r_112.1) from (hd_195 8 (by decide)).trans (zb h8 rfl)) mb,hg_196 9 _ _ (show s_195 9=(ji x_142) from (hd_195 9 (by decide)).trans (zb h9 rfl)) mi,hg_196 10 _ _ (show s_195 10=(ji x_176) from (hd_195 10 (by decide)).trans (zb h10 rfl)) mi⟩ ?_
       rintro s ⟨h0,h4,h5,h6,h7,h8,h9,h10⟩
       exact zcg H r_181 r_14 r_111 r_112 x_142 x_176 c5 Hc5 (yq F r_14 r_111 r_112 x_142 c5 k) ih r_184 _ ⟨h0,h4,h5,h6,h7,h8,h9,h10⟩ h
     refine .skip ?_
     exact zcg H r_181 r_14 r_111 r_112 x_142 x_176 c5 Hc5 (yq F r_14 r_111 r_112 x_142 c5 k) ih x_175 _ ⟨h0,h4,h5,h6,h7,h8,h9,h10⟩ h
   refine .exit (.esq (.elp (.ebk (.nsq (.seq (rg (gm h0 fun h60=>gm h9 fun h61=>?_)))))))
   obtain ⟨r_185,E_r_185,h⟩:=bind_some h
   refine zF (m:=0) (al:=false) (r:=Enc.enc (r_185:Int)) [Enc.enc (x_142:Int),Enc.enc (1:Int)] (ze (v:=ji x_142) h61 rfl rfl (ze (v:=ji 1) rfl rfl rfl zx)) (H.c39 _ _ _ E_r_185) H.g39 rfl rfl rfl rfl ?_
   obtain ⟨r_186,E_r_186,h⟩:=bind_some h
   refine uz (r:=zH) (b:=0) (x:=((S3.mk x_172 x_173 (Kd.mk x_174:Kd .u64)):CU)) (x':=r_186.2) (vs:=[Enc.enc (r_185:Int)]) (res:=Enc.enc (r_186.1:Int)) h0 (by exact (zQ (v:=cuV zH ((S3.mk x_172 x_173 (Kd.mk x_174:Kd .u64)):CU)) h60 rfl (zQ (v:=Enc.enc (r_185:Int)) rfl rfl yR))) (yk te yH) fm1 (H.c65 _ _ _ E_r_186) H.g65 te rfl (fun s_197 hb_197 ha_197=>gm (rf (ji r_186.1)) fun h11=>?_)
   refine gz [(0,_),(4,bZ 4),(5,ji r_14),(6,.ref (.bx 6) 0 [] (.agg [ji r_14,zi (.at 28 []) (x_175:NL (Int×Int))])),(7,ji r_111.1),(8,jb r_112.1),(9,ji x_142),(11,_)] ⟨(show s_197 0=(bC r_186.2) from hb_197 0 h0),(show s_197 4=(bZ 4) from ha_197 4 _ _ h4 rfl (zf rfl (mIx rfl))),(show s_197 5=(ji r_14) from ha_197 5 _ _ h5 rfl mi),(show s_197 6=(.ref (.bx 6) 0 [] (.agg [ji r_14,zi (.at 28 []) (x_175:NL (Int×Int))])) from ha_197 6 _ _ h6 rfl (zf rfl (zA (zd mi (zd (zj (r:=28) (p:=[]) rfl rfl) zh))))),(show s_197 7=(ji r_111.1) from ha_197 7 _ _ h7 rfl mi),(show s_197 8=(jb r_112.1) from ha_197 8 _ _ h8 rfl mb),(show s_197 9=(ji x_142) from ha_197 9 _ _ h9 rfl mi),h11⟩ ?_
   rintro s ⟨h0,h4,h5,h6,h7,h8,h9,h11⟩
   refine .nsq (.seq (rg (gm h9 fun h64=>g1 64 (jb (decide (x_142 > 0))) h64 fun h65=>gm h65 fun h66=>zW (c:=decide (x_142 > 0)) h (fun hg3 h=>?_) (fun hg3 h=>?_))))
   · refine zg (ct h66 hg3) (gm h8 fun h67=>zg (ct h66 hg3) (g1 67 (jb (!r_112.1)) h67 fun h68=>g2 66 68 (jb (!r_112.1)) (ct h66 hg3) h68 fun h69=>gm h69 fun h70=>zW (c:=(!r_112.1)) h (fun hg7 h=>?_) (fun hg7 h=>?_)))
     · refine zg (ct h70 hg7) (gv (.agg [ji r_14,zi (.at 28 []) (x_175:NL (Int×Int))]) (Z7 (c:=.agg [ji r_14,zi (.at 28 []) (x_175:NL (Int×Int))]) h6 (by simp [V.shape,V.shapes,yK,WP,Sh.beq,Sh.beqs])) fun h71=>zg (ct h70 hg7) (gm h9 fun h72=>zg (ct h70 hg7) (gm h11 fun h73=>?_)))
       obtain ⟨r_192,E_r_192,h⟩:=bind_some h
       refine zg (ct h70 hg7) (zF (m:=0) (al:=false) (r:=Enc.enc (r_192:Bool)) [Enc.enc ((r_14,x_175.list):GR),Enc.enc (x_142:Int),Enc.enc (r_186.1:Int)] (ze (v:=.agg [ji r_14,zi (.at 28 []) (x_175:NL (Int×Int))]) h71 rfl (zfT (xN rfl (xN (vm (o:=x_175)) xf))) (ze (v:=ji x_142) h72 rfl rfl (ze (v:=ji r_186.1) h73 rfl rfl zx))) (H.c57 _ _ _ _ E_r_192) H.g57 rfl rfl rfl rfl (zg (ct h70 hg7) (g1 74 (jb (!r_192)) (rf (jb r_192)) fun h75=>g2 70 75 (jb (!r_192)) (ct h70 hg7) h75 fun h76=>gq ?_)))
       exact Mo H r_186 r_14 x_175 r_111 r_112 x_142 c5 Hc5 (!r_192) _ ⟨h0,h4,h5,h6,h7,h8,h9,h11,h76⟩ h
     iterate 5 refine z9 (ct h70 hg7) ?_
     refine g2 70 75 (jb false) (ct h70 hg7) (rf (.tup [])) fun h76=>gq ?_
     exact Mo H r_186 r_14 x_175 r_111 r_112 x_142 c5 Hc5 false _ ⟨h0,h4,h5,h6,h7,h8,h9,h11,h76⟩ h
   iterate 2 refine z9 (ct h66 hg3) ?_
   refine g2 66 68 (jb false) (ct h66 hg3) (rf (.tup [])) fun h69=>gm h69 fun h70=>z9 h70 ?_
   iterate 4 refine z9 h70 ?_
   refine g2 70 75 (jb false) h70 (rf (.tup [])) fun h76=>gq ?_
   exact Mo H r_186 r_14 x_175 r_111 r_112 x_142 c5 Hc5 false _ ⟨h0,h4,h5,h6,h7,h8,h9,h11,h76⟩ h
def xb (F:Nat) (r_14:Int) (r_111:(Int×CU)) (r_112:(Bool×CU)) :Nat→LB→Int→Int→(NL (Int×Int))→Int→Option (GR×CU)
 | 0,_,_,_,_,_=>none
 | k + 1,x_138,x_139,x_140,x_141,x_142=>
   bif decide (x_142 < r_14) then
    yq F r_14 r_111 r_112 x_142 (xb F r_14 r_111 r_112 k) F x_138 x_139 x_140 x_141 (w64 (x_142 + 1))
   else
    yS F x_138 x_139 x_140 r_14 x_141
theorem zhJ (H:H44 D σ F) (r_14:Int) (r_111:(Int×CU)) (r_112:(Bool×CU)) :∀ (k:Nat) (x_138:LB) (x_139:Int) (x_140:Int) (x_141:(NL (Int×Int))) (x_142:Int) (s:Nat→V),zl [(0,.ref (.bx zH) 0 [] (.agg [eB x_138,ji x_139,.int .u64 x_140])),(4,bZ 4),(5,ji r_14),(6,.ref (.bx 6) 0 [] (.agg [ji r_14,zi (.at 28 []) (x_141:NL (Int×Int))])),(7,ji r_111.1),(8,jb r_112.1),(9,ji x_142)] s→xb F r_14 r_111 r_112 k x_138 x_139 x_140 x_141 x_142=some r→Run D σ (R44 r) (.run Y9 [.lp Y9,.bk 1,.bk 0,.sq Uc]) s:=by
 intro k
 induction k with
 | zero=>intro x_138 x_139 x_140 x_141 x_142 s _ h;exact nm h
 | succ k ih=>
   intro x_138 x_139 x_140 x_141 x_142 s hs h
   rw [xb] at h
   obtain ⟨h0,h4,h5,h6,h7,h8,h9⟩:=hs
   refine .seq (.seq (rg (gm h9 fun h37=>gm h5 fun h38=>g2 37 38 (jb (decide (x_142 < r_14))) h37 h38 fun h39=>gq (.nsq (zk (t:=decide (x_142 < r_14)) h39 h (fun h=>?_) (fun h=>?_))))))
   · refine .skip (.nsq (.seq (.block (.seq (.seq (rg (gm h9 fun h42=>g1 42 (ji (w64 (x_142 + 1))) h42 fun h43=>gm h43 fun h10=>gq (.nsq (.block (.loop ?_))))))))))
     exact zhK H r_14 r_111 r_112 x_142 (xb F r_14 r_111 r_112 k) ih F x_138 x_139 x_140 x_141 (w64 (x_142 + 1)) _ ⟨h0,h4,h5,h6,h7,h8,h9,h10⟩ h
   refine .exit (.esq (.elp (.ebk ?_)))
   exact UC H x_138 x_139 x_140 r_14 x_141 _ ⟨h0,h4,h6⟩ h
def wb (F:Nat) (x_2:Int)  (x_10:LB) (x_11:Int) (x_12:Int) (x_13:Int):Option (GR×CU):=
 (uT F x_13 x_2).bind fun r_14=>
 (yA F (cu x_10 x_11 x_12) 8).bind fun r_15=>
 bif (r_15.1 == 0) then
  (ZN F r_14).bind fun r_108=>
  yS F r_15.2.a r_15.2.b r_15.2.c.v r_108.1 r_108.2
 else
  bif (r_15.1 == 1) then
   bif decide (r_14 > 2) then
    (uR F r_14).bind fun r_109=>
    yS F r_15.2.a r_15.2.b r_15.2.c.v r_109.1 r_109.2
   else
    yS F r_15.2.a r_15.2.b r_15.2.c.v r_14 (.of [])
  else
   bif (r_15.1 == 2) then
    (vZ F r_14).bind fun r_110=>
    yS F r_15.2.a r_15.2.b r_15.2.c.v r_110.1 r_110.2
   else
    (xm F (Cu.mk r_15.2) [3,4,6]).bind fun r_111=>
    (wJ F (Cu.mk r_111.2) 6).bind fun r_112=>
    xb F r_14 r_111 r_112 F r_112.2.a r_112.2.b r_112.2.c.v (.of []) 0
theorem zbN (H:H44 D σ F) (x_2:Int)  (x_10:LB) (x_11:Int) (x_12:Int) (x_13:Int) (s:Nat→V) (hs:zl [(0,.ref (.bx zH) 0 [] (.agg [eB x_10,ji x_11,.int .u64 x_12])),(1,ji x_2),(4,bZ 4),(5,ji x_13)] s) (h:wb F x_2  x_10 x_11 x_12 x_13=some r):Run D σ (R44 r) (.nrm [.sq zdx]) s:=by
 unfold wb at h
 obtain ⟨h0,h1,h4,h5⟩:=hs
 refine .nsq (.seq (rg (gm h5 fun h24=>gm h1 fun h25=>?_)))
 obtain ⟨r_14,E_r_14,h⟩:=bind_some h
 refine zF (m:=0) (al:=false) (r:=Enc.enc (r_14:Int)) [Enc.enc (x_13:Int),Enc.enc (x_2:Int)] (ze (v:=ji x_13) h24 rfl rfl (ze (v:=ji x_2) h25 rfl rfl zx)) (H.c36 _ _ _ E_r_14) H.g36 rfl rfl rfl rfl (gm (rf (ji r_14)) fun h5=>gq (.nsq (.seq (zq (zS ?_)))))
 refine ez [(0,_),(4,_),(5,_),(6,_),(28,_)] ⟨za h0 rfl (zf rfl uH),za h4 rfl (zf rfl (mIx rfl)),za h5 rfl mi,zc rfl,zc rfl⟩ ?_
 rintro s ⟨h0,h4,h5,h6,h28⟩
 refine gm h5 fun h27=>xT [] [] trivial rfl rfl h28 (g2 27 28 (.agg [ji r_14,zi (.at 28 []) (.of ([]:LP))]) h27 (rf (zi (.at 28 []) (.of ([]:LP)))) fun h29=>xk h6 (yb (.agg [ji r_14,zi (.at 28 []) (.of ([]:LP))]) (zw rfl rfl) (zw h29 rfl) (wj (by first | rfl | simp [V.toks,V.tokss,Enc.toks_enc,ya])) (gz [(0,.ref (.bx zH) 0 [] (.agg [eB x_10,ji x_11,.int .u64 x_12])),(4,bZ 4),(5,ji r_14),(6,.ref (.bx 6) 0 [] (.agg [ji r_14,zi (.at 28 []) (.of ([]:LP))]))] ⟨zb h0 (zC rfl rfl Uu),zb h4 (zC rfl rfl (yr (zp rfl (zp rfl rfl)))),zb h5 rfl,zb rfl rfl⟩ ?_)))
 rintro s ⟨h0,h4,h5,h6⟩
 refine .nsq (.seq (.seq (rg (gm h0 fun h30=>?_))))
 obtain ⟨r_15,E_r_15,h⟩:=bind_some h
 refine uz (r:=zH) (b:=0) (x:=((S3.mk x_10 x_11 (Kd.mk x_12:Kd .u64)):CU)) (x':=r_15.2) (vs:=[Enc.enc (8:Int)]) (res:=Enc.enc (r_15.1:Int)) h0 (by exact (zQ (v:=cuV zH ((S3.mk x_10 x_11 (Kd.mk x_12:Kd .u64)):CU)) h30 rfl (zQ (v:=Enc.enc (8:Int)) rfl rfl yR))) (yk te yH) fm1 (H.c65 _ _ _ E_r_15) H.g65 te rfl (fun s_8 hb_8 ha_8=>?_)
 refine gz [(0,_),(4,bZ 4),(5,ji r_14),(6,.ref (.bx 6) 0 [] (.agg [ji r_14,zi (.at 28 []) (.of ([]:LP))])),(31,ji r_15.1)] ⟨(show s_8 0=(bC r_15.2) from hb_8 0 h0),(show s_8 4=(bZ 4) from ha_8 4 _ _ h4 rfl (zf rfl (mIx rfl))),(show s_8 5=(ji r_14) from ha_8 5 _ _ h5 rfl mi),(show s_8 6=(.ref (.bx 6) 0 [] (.agg [ji r_14,zi (.at 28 []) (.of ([]:LP))])) from ha_8 6 _ _ h6 rfl (zf rfl (zA (zd mi (zd (zj (r:=28) (p:=[]) rfl rfl) zh))))),rfl⟩ ?_
 rintro s ⟨h0,h4,h5,h6,h31⟩
 refine .nsq (.block (.seq (rg (g1 31 (jb (r_15.1 == 0)) h31 fun h85=>gm h85 fun h84=>gq (.nsq (zk (t:=(r_15.1 == 0)) h84 h (fun h=>?_) (fun h=>?_)))))))
 · refine zq (zS ?_)
   refine ez [(0,_),(4,_),(5,_),(6,_),(87,_)] ⟨za h0 rfl (zf rfl uH),za h4 rfl (zf rfl (mIx rfl)),za h5 rfl mi,za h6 rfl (zf rfl (zA (zd mi (zd (zj (r:=28) (p:=[]) rfl rfl) zh)))),zc rfl⟩ ?_
   rintro s ⟨h0,h4,h5,h6,h87⟩
   refine gm h5 fun h86=>?_
   obtain ⟨r_108,E_r_108,h⟩:=bind_some h
   refine ZA (m:=1) (al:=false) (r:=.agg [Enc.enc (r_108.1:Int),zi .sh (r_108.2:NL (Int×Int))]) (v:=.agg [ji r_108.1,zi (.at 87 [1]) (r_108.2:NL (Int×Int))]) (kk:=1000000068) [Enc.enc (r_14:Int)] (ze (v:=ji r_14) h86 rfl rfl zx) (H.c68o _ _ E_r_108) H.g68o rfl (UH (yk rfl (yk vf yH))) (J9 (Ze rfl (Ze vX Ul))) rfl h87 ?_
   refine yb (.agg [ji r_108.1,zi (.at 87 [1]) (r_108.2:NL (Int×Int))]) (zw h6 rfl) (zw rfl rfl) ⟨by decide,by decide,rfl,(by simp [V.shape,V.shapes,yK,Sh.beq,Sh.beqs]),(by simp [V.shape,V.shapes,yK,Sh.beq,Sh.beqs]),(by simp [V.toks,V.tokss,ya])⟩ (yQ (W9 (x:=28) (fun s_108 hx_108 hd_108=>ziR (x:=28) (q:=87) (p:=[1]) (v:=.dead) (by exact hx_108) rfl (fun s_109 hg_109=>?_))))
   refine ez [(0,bC r_15.2),(4,bZ 4),(6,.ref (.bx 6) 0 [] (.agg [ji r_108.1,zi (.at 28 []) (r_108.2:NL (Int×Int))]))] ⟨hg_109 0 _ (bC r_15.2) (show s_108 0=(bC r_15.2) from (hd_108 0 (by decide)).trans (zb h0 (zC rfl rfl Uu))) (zf rfl uH),hg_109 4 _ (bZ 4) (show s_108 4=(bZ 4) from (hd_108 4 (by decide)).trans (zb h4 (zC rfl rfl (yr (zp rfl (zp rfl rfl)))))) (zf rfl (mIx rfl)),hg_109 6 _ (.ref (.bx 6) 0 [] (.agg [ji r_108.1,zi (.at 28 []) (r_108.2:NL (Int×Int))])) (show s_108 6=(.ref (.bx 6) 0 [] (.agg [ji r_108.1,zi (.at 87 [1]) (r_108.2:NL (Int×Int))])) from (hd_108 6 (by decide)).trans (zb h6 rfl)) (zf rfl (zA (zd mi (zd (zj (r:=87) (p:=[1]) rfl rfl) zh))))⟩ ?_
   rintro s ⟨h0,h4,h6⟩
   exact UC H r_15.2.a r_15.2.b r_15.2.c.v r_108.1 r_108.2 _ ⟨h0,h4,h6⟩ h
 refine .seq (rg (g1 31 (jb (r_15.1 == 1)) h31 fun h89=>gm h89 fun h88=>gq (.nsq (zk (t:=(r_15.1 == 1)) h88 h (fun h=>?_) (fun h=>?_)))))
 · refine .seq (rg (gm h5 fun h90=>g1 90 (jb (decide (r_14 > 2))) h90 fun h91=>gq (.nsq (zk (t:=decide (r_14 > 2)) h91 h (fun h=>?_) (fun h=>?_)))))
   · refine zq (zS ?_)
     refine ez [(0,_),(4,_),(5,_),(6,_),(93,_)] ⟨za h0 rfl (zf rfl uH),za h4 rfl (zf rfl (mIx rfl)),za h5 rfl mi,za h6 rfl (zf rfl (zA (zd mi (zd (zj (r:=28) (p:=[]) rfl rfl) zh)))),zc rfl⟩ ?_
     rintro s ⟨h0,h4,h5,h6,h93⟩
     refine gm h5 fun h92=>?_
     obtain ⟨r_109,E_r_109,h⟩:=bind_some h
     refine ZA (m:=1) (al:=false) (r:=.agg [Enc.enc (r_109.1:Int),zi .sh (r_109.2:NL (Int×Int))]) (v:=.agg [ji r_109.1,zi (.at 93 [1]) (r_109.2:NL (Int×Int))]) (kk:=1000000069) [Enc.enc (r_14:Int)] (ze (v:=ji r_14) h92 rfl rfl zx) (H.c69o _ _ E_r_109) H.g69o rfl (UH (yk rfl (yk vf yH))) (J9 (Ze rfl (Ze vX Ul))) rfl h93 ?_
     refine yb (.agg [ji r_109.1,zi (.at 93 [1]) (r_109.2:NL (Int×Int))]) (zw h6 rfl) (zw rfl rfl) ⟨by decide,by decide,rfl,(by simp [V.shape,V.shapes,yK,Sh.beq,Sh.beqs]),(by simp [V.shape,V.shapes,yK,Sh.beq,Sh.beqs]),(by simp [V.toks,V.tokss,ya])⟩ (yQ (W9 (x:=28) (fun s_111 hx_111 hd_111=>ziR (x:=28) (q:=93) (p:=[1]) (v:=.dead) (by exact hx_111) rfl (fun s_112 hg_112=>?_))))
     refine ez [(0,bC r_15.2),(4,bZ 4),(6,.ref (.bx 6) 0 [] (.agg [ji r_109.1,zi (.at 28 []) (r_109.2:NL (Int×Int))]))] ⟨hg_112 0 _ (bC r_15.2) (show s_111 0=(bC r_15.2) from (hd_111 0 (by decide)).trans (zb h0 (zC rfl rfl Uu))) (zf rfl uH),hg_112 4 _ (bZ 4) (show s_111 4=(bZ 4) from (hd_111 4 (by decide)).trans (zb h4 (zC rfl rfl (yr (zp rfl (zp rfl rfl)))))) (zf rfl (mIx rfl)),hg_112 6 _ (.ref (.bx 6) 0 [] (.agg [ji r_109.1,zi (.at 28 []) (r_109.2:NL (Int×Int))])) (show s_111 6=(.ref (.bx 6) 0 [] (.agg [ji r_109.1,zi (.at 93 [1]) (r_109.2:NL (Int×Int))])) from (hd_111 6 (by decide)).trans (zb h6 rfl)) (zf rfl (zA (zd mi (zd (zj (r:=93) (p:=[1]) rfl rfl) zh))))⟩ ?_
     rintro s ⟨h0,h4,h6⟩
     exact UC H r_15.2.a r_15.2.b r_15.2.c.v r_109.1 r_109.2 _ ⟨h0,h4,h6⟩ h
   refine .skip ?_
   exact UC H r_15.2.a r_15.2.b r_15.2.c.v r_14 (.of []) _ ⟨h0,h4,h6⟩ h
 refine .seq (rg (g1 31 (jb (r_15.1 == 2)) h31 fun h95=>gm h95 fun h94=>gq (.nsq (zk (t:=(r_15.1 == 2)) h94 h (fun h=>?_) (fun h=>?_)))))
 · refine zq (zS ?_)
   refine ez [(0,_),(4,_),(5,_),(6,_),(97,_)] ⟨za h0 rfl (zf rfl uH),za h4 rfl (zf rfl (mIx rfl)),za h5 rfl mi,za h6 rfl (zf rfl (zA (zd mi (zd (zj (r:=28) (p:=[]) rfl rfl) zh)))),zc rfl⟩ ?_
   rintro s ⟨h0,h4,h5,h6,h97⟩
   refine gm h5 fun h96=>?_
   obtain ⟨r_110,E_r_110,h⟩:=bind_some h
   refine ZA (m:=1) (al:=false) (r:=.agg [Enc.enc (r_110.1:Int),zi .sh (r_110.2:NL (Int×Int))]) (v:=.agg [ji r_110.1,zi (.at 97 [1]) (r_110.2:NL (Int×Int))]) (kk:=1000000070) [Enc.enc (r_14:Int)] (ze (v:=ji r_14) h96 rfl rfl zx) (H.c70o _ _ E_r_110) H.g70o rfl (UH (yk rfl (yk vf yH))) (J9 (Ze rfl (Ze vX Ul))) rfl h97 ?_
   refine yb (.agg [ji r_110.1,zi (.at 97 [1]) (r_110.2:NL (Int×Int))]) (zw h6 rfl) (zw rfl rfl) ⟨by decide,by decide,rfl,(by simp [V.shape,V.shapes,yK,Sh.beq,Sh.beqs]),(by simp [V.shape,V.shapes,yK,Sh.beq,Sh.beqs]),(by simp [V.toks,V.tokss,ya])⟩ (yQ (W9 (x:=28) (fun s_114 hx_114 hd_114=>ziR (x:=28) (q:=97) (p:=[1]) (v:=.dead) (by exact hx_114) rfl (fun s_115 hg_115=>?_))))
   refine ez [(0,bC r_15.2),(4,bZ 4),(6,.ref (.bx 6) 0 [] (.agg [ji r_110.1,zi (.at 28 []) (r_110.2:NL (Int×Int))]))] ⟨hg_115 0 _ (bC r_15.2) (show s_114 0=(bC r_15.2) from (hd_114 0 (by decide)).trans (zb h0 (zC rfl rfl Uu))) (zf rfl uH),hg_115 4 _ (bZ 4) (show s_114 4=(bZ 4) from (hd_114 4 (by decide)).trans (zb h4 (zC rfl rfl (yr (zp rfl (zp rfl rfl)))))) (zf rfl (mIx rfl)),hg_115 6 _ (.ref (.bx 6) 0 [] (.agg [ji r_110.1,zi (.at 28 []) (r_110.2:NL (Int×Int))])) (show s_114 6=(.ref (.bx 6) 0 [] (.agg [ji r_110.1,zi (.at 97 [1]) (r_110.2:NL (Int×Int))])) from (hd_114 6 (by decide)).trans (zb h6 rfl)) (zf rfl (zA (zd mi (zd (zj (r:=97) (p:=[1]) rfl rfl) zh))))⟩ ?_
   rintro s ⟨h0,h4,h6⟩
   exact UC H r_15.2.a r_15.2.b r_15.2.c.v r_110.1 r_110.2 _ ⟨h0,h4,h6⟩ h
 refine .seq (zq (zS ?_))
 refine ez [(0,_),(4,_),(5,_),(6,_),(33,_)] ⟨za h0 rfl (zf rfl uH),za h4 rfl (zf rfl (mIx rfl)),za h5 rfl mi,za h6 rfl (zf rfl (zA (zd mi (zd (zj (r:=28) (p:=[]) rfl rfl) zh)))),zc rfl⟩ ?_
 rintro s ⟨h0,h4,h5,h6,h33⟩
 refine gm h0 fun h32=>zaM [] ([3,4,6]:LI) trivial rfl rfl rfl h33 (fun s_117 hd_117 hl_117=>?_)
 obtain ⟨r_111,E_r_111,h⟩:=bind_some h
 refine uz (r:=zH) (b:=0) (x:=r_15.2) (x':=r_111.2) (vs:=[Enc.enc ([3,4,6]:LI)]) (res:=Enc.enc (r_111.1:Int)) (show s_117 0=(bC r_15.2) from hl_117 0 _ _ (by decide) h0 (ye rfl X8 rfl)) (by exact (zQ (v:=cuV zH r_15.2) (show s_117 32=(bC r_15.2) from hl_117 32 _ _ (by decide) h32 (ye rfl X8 rfl)) rfl (zQ (v:=Enc.enc ([3,4,6]:LI)) (show s_117 33=(eL [3,4,6]) from hd_117) rfl yR))) (yk te yH) fm1 (H.c67 _ _ _ E_r_111) H.g67 te rfl (fun s_118 hb_118 ha_118=>?_)
 refine gm (show s_118 0=(bC r_111.2) from hb_118 0 (show s_117 0=(bC r_15.2) from hl_117 0 _ _ (by decide) h0 (ye rfl X8 rfl))) fun h35=>?_
 obtain ⟨r_112,E_r_112,h⟩:=bind_some h
 refine uz (r:=zH) (b:=0) (x:=r_111.2) (x':=r_112.2) (vs:=[Enc.enc (6:Int)]) (res:=Enc.enc (r_112.1:Bool)) (show s_118 0=(bC r_111.2) from hb_118 0 (show s_117 0=(bC r_15.2) from hl_117 0 _ _ (by decide) h0 (ye rfl X8 rfl))) (by exact (zQ (v:=cuV zH r_111.2) h35 rfl (zQ (v:=Enc.enc (6:Int)) rfl rfl yR))) (yk te yH) fm1 (H.c66 _ _ _ E_r_112) H.g66 te rfl (fun s_119 hb_119 ha_119=>gm (show s_119 34=(ji r_111.1) from ha_119 34 (ji r_111.1) _ rfl rfl mi) fun h7=>gm (rf (jb r_112.1)) fun h8=>?_)
 refine gz [(0,bC r_112.2),(4,bZ 4),(5,ji r_14),(6,.ref (.bx 6) 0 [] (.agg [ji r_14,zi (.at 28 []) (.of ([]:LP))])),(7,_),(8,_)] ⟨(show s_119 0=(bC r_112.2) from hb_119 0 (show s_118 0=(bC r_111.2) from hb_118 0 (show s_117 0=(bC r_15.2) from hl_117 0 _ _ (by decide) h0 (ye rfl X8 rfl)))),(show s_119 4=(bZ 4) from ha_119 4 (bZ 4) _ (show s_118 4=(bZ 4) from ha_118 4 (bZ 4) _ (show s_117 4=(bZ 4) from hl_117 4 _ _ (by decide) h4 (ye rfl (uU (yM rfl (yM rfl rfl))) rfl)) rfl (zf rfl (mIx rfl))) rfl (zf rfl (mIx rfl))),(show s_119 5=(ji r_14) from ha_119 5 (ji r_14) _ (show s_118 5=(ji r_14) from ha_118 5 (ji r_14) _ (show s_117 5=(ji r_14) from hl_117 5 _ _ (by decide) h5 rfl) rfl mi) rfl mi),(show s_119 6=(.ref (.bx 6) 0 [] (.agg [ji r_14,zi (.at 28 []) (.of ([]:LP))])) from ha_119 6 (.ref (.bx 6) 0 [] (.agg [ji r_14,zi (.at 28 []) (.of ([]:LP))])) _ (show s_118 6=(.ref (.bx 6) 0 [] (.agg [ji r_14,zi (.at 28 []) (.of ([]:LP))])) from ha_118 6 (.ref (.bx 6) 0 [] (.agg [ji r_14,zi (.at 28 []) (.of ([]:LP))])) _ (show s_117 6=(.ref (.bx 6) 0 [] (.agg [ji r_14,zi (.at 28 []) (.of ([]:LP))])) from hl_117 6 _ _ (by decide) h6 (ye rfl (uU (yM rfl (yM (WX rfl rfl) rfl))) rfl)) rfl (zf rfl (zA (zd mi (zd (zj (r:=28) (p:=[]) rfl rfl) zh))))) rfl (zf rfl (zA (zd mi (zd (zj (r:=28) (p:=[]) rfl rfl) zh))))),h7,h8⟩ ?_
 rintro s ⟨h0,h4,h5,h6,h7,h8⟩
 refine .nsq (.seq (rg (g0 (ji 0) fun h9=>gq (.nsq (.block (.loop ?_))))))
 exact zhJ H r_14 r_111 r_112 F r_112.2.a r_112.2.b r_112.2.c.v (.of []) 0 _ ⟨h0,h4,h5,h6,h7,h8,h9⟩ h
def wI (F:Nat) (x_2:Int) (r_3:(Int×CU))  (x_5:LB) (x_6:Int) (x_7:Int) (x_8:Bool):Option (GR×CU):=
 bif x_8 then
  (yA F (cu x_5 x_6 x_7) 2).bind fun r_193=>
  wb F x_2 r_193.2.a r_193.2.b r_193.2.c.v (w64 (7 + r_193.1))
 else
  wb F x_2 x_5 x_6 x_7 r_3.1
theorem zbX (H:H44 D σ F) (x_2:Int) (r_3:(Int×CU))  (x_5:LB) (x_6:Int) (x_7:Int) (x_8:Bool) (s:Nat→V) (hs:zl [(0,.ref (.bx zH) 0 [] (.agg [eB x_5,ji x_6,.int .u64 x_7])),(1,ji x_2),(4,bZ 4),(5,ji r_3.1),(20,jb x_8)] s) (h:wI F x_2 r_3  x_5 x_6 x_7 x_8=some r):Run D σ (R44 r) (.nrm [.sq ziG,.sq zdx]) s:=by
 unfold wI at h
 obtain ⟨h0,h1,h4,h5,h20⟩:=hs
 refine .nsq (zk (t:=x_8) h20 h (fun h=>?_) (fun h=>?_))
 · refine rg (gm h0 fun h21=>?_)
   obtain ⟨r_193,E_r_193,h⟩:=bind_some h
   refine uz (r:=zH) (b:=0) (x:=((S3.mk x_5 x_6 (Kd.mk x_7:Kd .u64)):CU)) (x':=r_193.2) (vs:=[Enc.enc (2:Int)]) (res:=Enc.enc (r_193.1:Int)) h0 (by exact (zQ (v:=cuV zH ((S3.mk x_5 x_6 (Kd.mk x_7:Kd .u64)):CU)) h21 rfl (zQ (v:=Enc.enc (2:Int)) rfl rfl yR))) (yk te yH) fm1 (H.c65 _ _ _ E_r_193) H.g65 te rfl (fun s_204 hb_204 ha_204=>g1 22 (ji (w64 (7 + r_193.1))) (rf (ji r_193.1)) fun h23=>?_)
   refine gm h23 fun h5=>gz [(0,_),(1,ji x_2),(4,bZ 4),(5,_)] ⟨(show s_204 0=(bC r_193.2) from hb_204 0 h0),(show s_204 1=(ji x_2) from ha_204 1 _ _ h1 rfl mi),(show s_204 4=(bZ 4) from ha_204 4 _ _ h4 rfl (zf rfl (mIx rfl))),h5⟩ ?_
   rintro s ⟨h0,h1,h4,h5⟩
   exact zbN H x_2 r_193.2.a r_193.2.b r_193.2.c.v (w64 (7 + r_193.1)) _ ⟨h0,h1,h4,h5⟩ h
 refine .skip ?_
 exact zbN H x_2 x_5 x_6 x_7 r_3.1 _ ⟨h0,h1,h4,h5⟩ h
def wl (F:Nat) (x_1:CC) (x_2:Int):Option (GR×CU):=
 (xm F (Cu.mk x_1.v) [4,5,3,6,2,1,0]).bind fun r_3=>
 bif decide (x_2 > 6) then
  (wJ F (Cu.mk r_3.2) 4).bind fun r_194=>
  wI F x_2 r_3 r_194.2.a r_194.2.b r_194.2.c.v r_194.1
 else
  wI F x_2 r_3 r_3.2.a r_3.2.b r_3.2.c.v false
theorem t44 (H:H44 D σ F) (x_1:CC) (x_2:Int) (s:Nat→V) (hs:zl [(0,bC x_1.v),(1,ji x_2)] s) (h:wl F x_1 x_2=some r):Run D σ (R44 r) (.run A44 []) s:=by
 unfold wl at h
 obtain ⟨h0,h1⟩:=hs
 refine .seq (zq (zS ?_))
 refine ez [(0,_),(1,_),(4,_)] ⟨za h0 rfl (zf rfl uH),za h1 rfl mi,zc rfl⟩ ?_
 rintro s ⟨h0,h1,h4⟩
 refine xk h4 (gq (.nsq (.seq (zq (zS ?_)))))
 refine ez [(0,_),(1,_),(4,_),(13,_)] ⟨za h0 rfl (zf rfl uH),za h1 rfl mi,za rfl rfl (zf rfl (mIx rfl)),zc rfl⟩ ?_
 rintro s ⟨h0,h1,h4,h13⟩
 refine gm h0 fun h12=>zaM [] ([4,5,3,6,2,1,0]:LI) trivial rfl rfl rfl h13 (fun s_3 hd_3 hl_3=>?_)
 obtain ⟨r_3,E_r_3,h⟩:=bind_some h
 refine uz (r:=zH) (b:=0) (x:=x_1.v) (x':=r_3.2) (vs:=[Enc.enc ([4,5,3,6,2,1,0]:LI)]) (res:=Enc.enc (r_3.1:Int)) (show s_3 0=(bC x_1.v) from hl_3 0 _ _ (by decide) h0 (ye rfl X8 rfl)) (by exact (zQ (v:=cuV zH x_1.v) (show s_3 12=(bC x_1.v) from hl_3 12 _ _ (by decide) h12 (ye rfl X8 rfl)) rfl (zQ (v:=Enc.enc ([4,5,3,6,2,1,0]:LI)) (show s_3 13=(eL [4,5,3,6,2,1,0]) from hd_3) rfl yR))) (yk te yH) fm1 (H.c67 _ _ _ E_r_3) H.g67 te rfl (fun s_4 hb_4 ha_4=>gm (rf (ji r_3.1)) fun h5=>?_)
 refine gz [(0,bC r_3.2),(1,ji x_2),(4,bZ 4),(5,_)] ⟨(show s_4 0=(bC r_3.2) from hb_4 0 (show s_3 0=(bC x_1.v) from hl_3 0 _ _ (by decide) h0 (ye rfl X8 rfl))),(show s_4 1=(ji x_2) from ha_4 1 (ji x_2) _ (show s_3 1=(ji x_2) from hl_3 1 _ _ (by decide) h1 rfl) rfl mi),(show s_4 4=(bZ 4) from ha_4 4 (bZ 4) _ (show s_3 4=(bZ 4) from hl_3 4 _ _ (by decide) h4 (ye rfl (uU (yM rfl (yM rfl rfl))) rfl)) rfl (zf rfl (mIx rfl))),h5⟩ ?_
 rintro s ⟨h0,h1,h4,h5⟩
 refine .nsq (.seq (.seq (rg (gm h1 fun h15=>g1 15 (jb (decide (x_2 > 6))) h15 fun h16=>gm h16 fun h17=>zW (c:=decide (x_2 > 6)) h (fun hg3 h=>?_) (fun hg3 h=>?_)))))
 · refine zg (ct h17 hg3) (gm h0 fun h18=>?_)
   obtain ⟨r_194,E_r_194,h⟩:=bind_some h
   refine zg (ct h17 hg3) (uz (r:=zH) (b:=0) (x:=r_3.2) (x':=r_194.2) (vs:=[Enc.enc (4:Int)]) (res:=Enc.enc (r_194.1:Bool)) h0 (by exact (zQ (v:=cuV zH r_3.2) h18 rfl (zQ (v:=Enc.enc (4:Int)) rfl rfl yR))) (yk te yH) fm1 (H.c66 _ _ _ E_r_194) H.g66 te rfl (fun s_205 hb_205 ha_205=>g2 17 19 (jb r_194.1) (show s_205 17=(jb true) from ha_205 17 _ _ (ct h17 hg3) rfl mb) (rf (jb r_194.1)) fun h20=>?_))
   refine gz [(0,_),(1,ji x_2),(4,bZ 4),(5,ji r_3.1),(20,_)] ⟨(show s_205 0=(bC r_194.2) from hb_205 0 h0),(show s_205 1=(ji x_2) from ha_205 1 _ _ h1 rfl mi),(show s_205 4=(bZ 4) from ha_205 4 _ _ h4 rfl (zf rfl (mIx rfl))),(show s_205 5=(ji r_3.1) from ha_205 5 _ _ h5 rfl mi),h20⟩ ?_
   rintro s ⟨h0,h1,h4,h5,h20⟩
   exact zbX H x_2 r_3 r_194.2.a r_194.2.b r_194.2.c.v r_194.1 _ ⟨h0,h1,h4,h5,h20⟩ h
 iterate 2 refine z9 (ct h17 hg3) ?_
 refine g2 17 19 (jb false) (ct h17 hg3) (rf (.tup [])) fun h20=>gq ?_
 exact zbX H x_2 r_3 r_3.2.a r_3.2.b r_3.2.c.v false _ ⟨h0,h1,h4,h5,h20⟩ h
end
def e44 (F:Nat):Ent:=ent 44 (fun (x:(CC×Int×Unit))=>wl F x.1 x.2.1) (fun (r:(GR×CU))=>(.tup [Enc.enc (r.1:GR),.tup [cuV zH r.2]])) Zk false []
abbrev C44 (D:List V→Option V) (F:Nat):Prop:=∀ (x0:CC) (x1:Int) r,wl F x0 x1=some r→D [Arg.arg x0,Enc.enc x1]=some (.tup [Enc.enc (r.1:GR),.tup [cuV zH r.2]])
theorem p44 {F:Nat}:C44 (e44 F).den F:=fun x0 x1 _ h=>zN (x0,x1,()) h
theorem o44 {D:Den} {σ:Sig} {F:Nat} (hF:zy Try.prog D σ) (H:H44 D σ F):(e44 F).Ok Try.prog:=by
 refine yl (f:=44) (show unk 44=44 from rfl) (fun args r h=>?_) ⟨Try.f44,Try.func44,rfl,rfl⟩
 obtain ⟨⟨x0,x1,_⟩,y,rfl,hy,rfl⟩:=zM h
 exact wV hF (by kernel_rfl) Try.func44 rfl c44 rfl (show 2≤Try.f44.ntmps by decide) (by decide) (t44 H x0 x1 _ ⟨rfl,rfl⟩ hy)
end Go.Zq
