/- Functions of the program as typed functions, and that the machine runs as they say (part 4). No further condition. -/
import Derived.Test.YtelahampjnaimaaK4
import Derived.Test.YtelahampjnaimaaProg
import Derived.Test.YtelahampjnaimaaChecked
import Derived.KernelRfl
import Derived.Test.YtelahampjnaimaaG3
set_option linter.unusedVariables false
set_option linter.unusedSimpArgs false
namespace Go.Zq
open Go.Proofs
variable {D:Den} {σ:Sig} {F:Nat}
def zuP:AC:=(.seq (rr [jv 3 (.fld (.t 1) 0 0),jv 4 (.load .p (.t 3)),jk 5 4,jv 6 (.bin .shl (jn 1) (.t 5)),jv 7 (.bin .sub (.t 6) (jn 1)),jm 2 7]) .ret)
def A35:AC:=(.seq (.reg [.clr [1]] [jx 1 (.box (.t 0)),jv 2 (.mov (jn 0))] []) zuP)
def zwe:List An:=[⟨0,[.clr [1]],[],[],[]⟩]
theorem c35:cq Try.prog Try.f35 zwe=some A35:=by kernel_rfl
structure H35 (D:Den) (σ:Sig) (F:Nat):Prop where
 mk ::
abbrev R35 (r:Int):(Nat→V)→Prop:=RR Try.prog [.tmp 2] 0 false (Enc.enc (r:Int))
section
variable {r:Int}
def xa (F:Nat) (x1:(S1 LI)):Option Int:=
 (Xr .i64 1 (x1.a.length:Int)).bind fun q2=>
 some (w64 (q2 - 1))
theorem t35 (H:H35 D σ F) (x1:(S1 LI)) (s:Nat→V) (hs:zr [(0,.agg [eL x1.a])] s) (h:xa F x1=some r):Run D σ (R35 r) (.run A35 []) s:=by
 unfold xa at h
 have h0:=hs
 refine .seq (zw (z3 ?_))
 refine ez [(0,_),(1,_)] ⟨za h0 rfl (zW (zh me zB)),ze rfl⟩ ?_
 rintro s ⟨h0,h1⟩
 refine xo (.agg [eL x1.a]) (zF h0 rfl) h1 rfl (g0 (ji 0) fun h2=>gq (.nsq (.seq (rg (g1 1 (.ref (.bx 1) 0 [0] (eL x1.a)) (rf (.ref (.bx 1) 0 [] (.agg [eL x1.a]))) fun h3=>g1 3 (eL x1.a) h3 fun h4=>gl x1.a h4 fun h5=>?_)))))
 obtain ⟨q2,Eq2,h⟩:=zb h
 refine gv (ji q2) (uo rfl h5 Eq2) fun h6=>g1 6 (ji (w64 (q2 - 1))) h6 fun h7=>gm h7 fun h2=>gq (.nsq (.ret ?_))
 obtain rfl:=oi h
 exact rrA (zo h2) rfl
end
def e35 (F:Nat):Ent:=ent 35 (fun (x:((S1 LI)×Unit))=>xa F x.1) (fun (r:Int)=>(Enc.enc (r:Int))) 0 false []
abbrev C35 (D:List V→Option V) (F:Nat):Prop:=∀ (x0:(S1 LI)) r,xa F x0=some r→D [Enc.enc x0]=some (Enc.enc (r:Int))
theorem p35 {F:Nat}:C35 (e35 F).den F:=fun x0 _ h=>zU (x0,()) h
theorem o35 (hF:zG Try.prog D σ) (H:H35 D σ F):(e35 F).Ok Try.prog:=okZ (f:=35) Try.func35 fun ⟨x0,_⟩ y hy=>cR hF Try.func35 c35 (t35 H x0 _ rfl hy)
def zq7:AC:=(.cond (.t 21) (rr [jm 22 5,jm 23 7,jv 24 (.bin .or (.t 22) (.t 23)),jm 5 24]) .skip)
def zvj:AC:=(.seq (rr [jm 17 1,jm 18 6,jv 19 (.bin .shr (.t 17) (.t 18)),jv 20 (.bin .and (.t 19) (jn 1)),jv 21 (.bin .eql (.t 20) (jn 1))]) zq7)
def zmJ:AC:=(rr [jv 25 (.bin .add (.t 12) (jn 1)),jm 12 25])
def zsE:AC:=(.seq (.block 1 (.seq (rr [jm 14 12,jv 15 (.idx (.t 10) (.t 12) 1),jl 16 15,jm 6 14,jm 7 16]) zvj)) zmJ)
def zt3:AC:=(.seq (.cond (.t 13) .skip (.exit 0)) zsE)
def zap:AC:=(.seq (rr [jv 13 (.bin .lss (.t 12) (.t 11))]) zt3)
def zfu:AC:=(.seq (rr [jm 26 5,jm 4 26]) .ret)
def znR:AC:=(.block 0 (.loop zap))
def zvC:AC:=(.seq (.seq (rr [jv 9 (.fld (.t 2) 0 0),jv 10 (.load .p (.t 9)),jk 11 10,jv 12 (.mov (jn 0))]) znR) zfu)
def zse:AC:=(.seq (rr [jm 8 1,jm 5 8]) zvC)
def A76:AC:=(.seq (.reg [.clr [2]] [jx 2 (.box (.t 0)),jv 4 (.mov (jn 0))] []) zse)
def zwF:List An:=[⟨0,[.clr [2]],[],[],[]⟩]
theorem c76:cq Try.prog Try.f76 zwF=some A76:=by kernel_rfl
structure H76 (D:Den) (σ:Sig) (F:Nat):Prop where
 mk ::
abbrev R76 (r:Int):(Nat→V)→Prop:=RR Try.prog [.tmp 4] 0 false (Enc.enc (r:Int))
section
variable {r:Int}
def Zw (F:Nat) (x2:Int) (x1:(S1 LI)) (x7:Int) (c1:Int→Int→Option Int) (x13:Int):Option Int:=
 c1 x13 (w64 (x7 + 1))
theorem zeb (H:H76 D σ F) (x2:Int) (x1:(S1 LI)) (x7:Int) (c1:Int→Int→Option Int) (Hc1:∀ (x6:Int) (x7:Int) (s:Nat→V),zr [(1,ji x2),(4,ji 0),(5,ji x6),(10,eL x1.a),(11,ji (x1.a.length:Int)),(12,ji x7)] s→c1 x6 x7=some r→Run D σ (R76 r) (.run zap [.lp zap,.bk 0,.sq zfu]) s) (x13:Int) (s:Nat→V) (hs:zr [(1,ji x2),(4,ji 0),(5,ji x13),(10,eL x1.a),(11,ji (x1.a.length:Int)),(12,ji x7)] s) (h:Zw F x2 x1 x7 c1 x13=some r):Run D σ (R76 r) (.nrm [.bk 1,.sq zmJ,.lp zap,.bk 0,.sq zfu]) s:=by
 unfold Zw at h
 obtain ⟨h1,h4,h5,h10,h11,h12⟩:=hs
 refine .nbk (.nsq (rg (g1 12 (ji (w64 (x7 + 1))) h12 fun h25=>gm h25 fun h12=>gq (.nlp ?_))))
 exact Hc1 x13 (w64 (x7 + 1)) _ ⟨h1,h4,h5,h10,h11,h12⟩ h
def xG (F:Nat) (x2:Int) (x1:(S1 LI)) :Nat→Int→Int→Option Int
 | 0,_,_=>none
 | k + 1,x6,x7=>
   bif decide (x7 < (x1.a.length:Int)) then
    (idx x1.a x7).bind fun v11=>
    (UD .i64 x2 x7).bind fun q12=>
    bif ((yx .i64 q12 1) == 1) then
     Zw F x2 x1 x7 (xG F x2 x1 k) (ior .i64 x6 v11)
    else
     Zw F x2 x1 x7 (xG F x2 x1 k) x6
   else
    some x6
theorem zip (H:H76 D σ F) (x2:Int) (x1:(S1 LI)) :∀ (k:Nat) (x6:Int) (x7:Int) (s:Nat→V),zr [(1,ji x2),(4,ji 0),(5,ji x6),(10,eL x1.a),(11,ji (x1.a.length:Int)),(12,ji x7)] s→xG F x2 x1 k x6 x7=some r→Run D σ (R76 r) (.run zap [.lp zap,.bk 0,.sq zfu]) s:=by
 intro k
 induction k with
 | zero=>intro x6 x7 s _ h;exact nm h
 | succ k ih=>
   intro x6 x7 s hs h
   rw [xG] at h
   obtain ⟨h1,h4,h5,h10,h11,h12⟩:=hs
   refine .seq (rg (g2 12 11 (jb (decide (x7 < (x1.a.length:Int)))) h12 h11 fun h13=>gq (.nsq (.seq (zn h13 h (fun h=>?_) (fun h=>?_))))))
   · refine .skip (.nsq (.seq (.block (.seq (rg (gm h12 fun h14=>?_))))))
     obtain ⟨v11,Ev11,h⟩:=zb h
     refine gv (.ref .sh 0 [] (ji v11)) (yn (t:=.sh) (lo:=0) (xs:=x1.a) h10 h12 Ev11 rfl rfl) fun h15=>g1 15 (ji v11) h15 fun h16=>gm h14 fun h6=>gm h16 fun h7=>gq (.nsq (.seq (rg (gm h1 fun h17=>gm h6 fun h18=>?_))))
     obtain ⟨q12,Eq12,h⟩:=zb h
     refine gv (ji q12) (Xh h17 h18 Eq12) fun h19=>g1 19 (ji (yx .i64 q12 1)) h19 fun h20=>g1 20 (jb ((yx .i64 q12 1) == 1)) h20 fun h21=>gq (.nsq (zn h21 h (fun h=>?_) (fun h=>?_)))
     · refine rg (gm h5 fun h22=>gm h7 fun h23=>g2 22 23 (ji (ior .i64 x6 v11)) h22 h23 fun h24=>gm h24 fun h5=>gq ?_)
       exact zeb H x2 x1 x7 (xG F x2 x1 k) ih (ior .i64 x6 v11) _ ⟨h1,h4,h5,h10,h11,h12⟩ h
     refine .skip ?_
     exact zeb H x2 x1 x7 (xG F x2 x1 k) ih x6 _ ⟨h1,h4,h5,h10,h11,h12⟩ h
   refine .exit (.esq (.elp (.ebk (.nsq (.seq (rg (gm h5 fun h26=>gm h26 fun h4=>gq (.nsq (.ret ?_)))))))))
   obtain rfl:=oi h
   exact rrA (zo h4) rfl
def vZ (F:Nat) (x1:(S1 LI)) (x2:Int):Option Int:=
 xG F x2 x1 F x2 0
theorem t76 (H:H76 D σ F) (x1:(S1 LI)) (x2:Int) (s:Nat→V) (hs:zr [(0,.agg [eL x1.a]),(1,ji x2)] s) (h:vZ F x1 x2=some r):Run D σ (R76 r) (.run A76 []) s:=by
 unfold vZ at h
 obtain ⟨h0,h1⟩:=hs
 refine .seq (zw (z3 ?_))
 refine ez [(0,_),(1,_),(2,_)] ⟨za h0 rfl (zW (zh me zB)),za h1 rfl mi,ze rfl⟩ ?_
 rintro s ⟨h0,h1,h2⟩
 refine xo (.agg [eL x1.a]) (zF h0 rfl) h2 rfl (g0 (ji 0) fun h4=>gq (.nsq (.seq (rg (gm h1 fun h8=>gm h8 fun h5=>gq (.nsq (.seq (.seq (rg (g1 2 (.ref (.bx 2) 0 [0] (eL x1.a)) (rf (.ref (.bx 2) 0 [] (.agg [eL x1.a]))) fun h9=>g1 9 (eL x1.a) h9 fun h10=>gl x1.a h10 fun h11=>g0 (ji 0) fun h12=>gq (.nsq (.block (.loop ?_)))))))))))))
 exact zip H x2 x1 F x2 0 _ ⟨h1,h4,h5,h10,h11,h12⟩ h
end
def e76 (F:Nat):Ent:=ent 76 (fun (x:((S1 LI)×Int×Unit))=>vZ F x.1 x.2.1) (fun (r:Int)=>(Enc.enc (r:Int))) 0 false []
abbrev C76 (D:List V→Option V) (F:Nat):Prop:=∀ (x0:(S1 LI)) (x1:Int) r,vZ F x0 x1=some r→D [Enc.enc x0,Enc.enc x1]=some (Enc.enc (r:Int))
theorem p76 {F:Nat}:C76 (e76 F).den F:=fun x0 x1 _ h=>zU (x0,x1,()) h
theorem o76 (hF:zG Try.prog D σ) (H:H76 D σ F):(e76 F).Ok Try.prog:=okZ (f:=76) Try.func76 fun ⟨x0,x1,_⟩ y hy=>cR hF Try.func76 c76 (t76 H x0 x1 _ ⟨rfl,rfl⟩ hy)
def zqu:AC:=(.cond (.t 9) .skip (.exit 0))
def zr1:AC:=(.cond (.t 21) (.exit 2) .skip)
def zs4:AC:=(rr [jm 22 7,jm 6 22])
def ztW:AC:=(.seq (.seq (rr [jm 19 7,jm 20 6,jv 21 (.bin .eql (.t 19) (.t 20))]) zr1) zs4)
def zjV:AC:=(.block 3 (.seq (rr [jv 14 (.load (.ag [.p]) (.t 2)),jm 15 6,jx 16 (.call (jf 76) [.t 14,.t 15]),jm 17 1,jv 18 (.bin .and (.t 16) (.t 17)),jm 7 18]) ztW))
def znx:AC:=(rr [jm 27 1,jm 28 6,jv 29 (.bin .andNot (.t 27) (.t 28)),jm 1 29])
def zmO:AC:=(.seq (.reg [.clr [25,26]] [jm 23 5,jm 24 6,jx 25 (.lit i0 1 [(0,0,.t 24)]),jx 26 (.app .s (.t 23) (.t 25)),jm 5 26] [.home 26 5]) znx)
def zro:AC:=(.seq (.block 2 (.loop zjV)) zmO)
def zu6:AC:=(.block 1 (.seq (rr [jm 10 1,jm 11 1,jv 12 (.un .neg (.t 11)),jv 13 (.bin .and (.t 10) (.t 12)),jm 6 13]) zro))
def QZ:AC:=(.seq (.seq (rr [jm 8 1,jv 9 (.bin .neq (.t 8) (jn 0))]) zqu) zu6)
def zaT:AC:=(.seq (.reg [] [jm 30 5,jm 4 30] [.home 5 4]) .ret)
def zoe:AC:=(.seq (.block 0 (.loop QZ)) zaT)
def zpq:AC:=(.seq (rr [jv 5 (.mov (.k (.sl .nl .s 0 [])))]) zoe)
def A56:AC:=(.seq (.reg [.clr [2]] [jx 2 (.box (.t 0)),jv 4 (.mov (.k (.sl .nl .s 0 [])))] []) zpq)
def zxn:List An:=[⟨0,[.clr [2]],[],[],[]⟩,⟨7,[.clr [25,26]],[],[],[.home 26 5]⟩,⟨9,[],[],[],[.home 5 4]⟩]
theorem c56:cq Try.prog Try.f56 zxn=some A56:=by kernel_rfl
structure H56 (D:Den) (σ:Sig) (F:Nat):Prop where
 c76:C76 (D 76) F
 g76:σ 76=some (0,false)
abbrev R56 (r:LI):(Nat→V)→Prop:=RR Try.prog [.tmp 4] 0 false (eL r)
section
variable {r:LI}
def vD (F:Nat) (x8:Int) (x1:(S1 LI)) (x9:(NL Int)) (c1:Int→(NL Int)→Option LI):Nat→Int→Option LI
 | 0,_=>none
 | k + 1,x16=>
   (vZ F x1 x16).bind fun r18=>
   bif ((yx .i64 r18 x8) == x16) then
    (uQ x9.list [x16]).bind fun ap19=>
    c1 (yW .i64 x8 x16) (.of ap19)
   else
    (vD F x8 x1 x9 c1 k) (yx .i64 r18 x8)
theorem zjc (H:H56 D σ F) (x8:Int) (x1:(S1 LI)) (x9:(NL Int)) (c1:Int→(NL Int)→Option LI) (Hc1:∀ (x8:Int) (x9:(NL Int)) (s:Nat→V),zr [(1,ji x8),(2,.ref (.bx 2) 0 [] (.agg [eL x1.a])),(4,nI),(5,oI 5 [] x9)] s→c1 x8 x9=some r→Run D σ (R56 r) (.run QZ [.lp QZ,.bk 0,.sq zaT]) s):∀ (k:Nat) (x16:Int) (s:Nat→V),zr [(1,ji x8),(2,.ref (.bx 2) 0 [] (.agg [eL x1.a])),(4,nI),(5,oI 5 [] x9),(6,ji x16)] s→vD F x8 x1 x9 c1 k x16=some r→Run D σ (R56 r) (.run zjV [.lp zjV,.bk 2,.sq zmO,.bk 1,.lp QZ,.bk 0,.sq zaT]) s:=by
 intro k
 induction k with
 | zero=>intro x16 s _ h;exact nm h
 | succ k ih=>
   intro x16 s hs h
   rw [vD] at h
   obtain ⟨h1,h2,h4,h5,h6⟩:=hs
   refine .block (.seq (rg (g1 2 (.agg [eL x1.a]) h2 fun h14=>gm h6 fun h15=>?_)))
   obtain ⟨r18,Er18,h⟩:=zb h
   refine gcF [Enc.enc (x1:(S1 LI)),Enc.enc (x16:Int)] (zf h14 rfl (Enc.erase_enc (x1:(S1 LI))) (zf h15 rfl rfl zA)) (H.c76 _ _ _ Er18) H.g76 (gm h1 fun h17=>g2 16 17 (ji (yx .i64 r18 x8)) (rf (ji r18)) h17 fun h18=>gm h18 fun h7=>gq (.nsq (.seq (.seq (rg (gm h7 fun h19=>gm h6 fun h20=>g2 19 20 (jb ((yx .i64 r18 x8) == x16)) h19 h20 fun h21=>gq (.nsq (zn h21 h (fun h=>?_) (fun h=>?_)))))))))
   · refine .exit (.esq (.ebn (by decide) (.elp (.ebk (.nsq (.seq (zw (z3 ?_))))))))
     refine ez [(1,_),(2,_),(4,_),(5,_),(6,_),(25,_),(26,_)] ⟨za h1 rfl mi,za h2 rfl (zj rfl (zW (zh me zB))),za h4 rfl rfl,za h5 rfl (zq (r:=5) (p:=[]) rfl rfl),za h6 rfl mi,ze rfl,ze rfl⟩ ?_
     rintro s ⟨h1,h2,h4,h5,h6,h25,h26⟩
     refine gv (oI 5 [] x9) (wn h5 yU) fun h23=>gm h6 fun h24=>xI [(24,ji x16)] [Enc.enc (x16:Int)] h24 rfl rfl h25 ?_
     obtain ⟨ap19,Eap19,h⟩:=zb h
     refine XR (q:=5) (p:=[]) (o:=(x9:NL Int)) (ys:=([x16]:LI)) (t2:=.at 25 []) (lo2:=0) h23 rfl rfl h26 (Z4 (o:=(x9:NL Int)) Eap19 (by split <;> simp)) (fun s9 ha9=>gm (rf (oI 26 [] (.of ap19))) fun h5=>yS (yu (r:=26) (x:=5) (v:=_) h5 rfl (fun s10 hz10=>?_)))
     refine ez [(1,ji x8),(2,.ref (.bx 2) 0 [] (.agg [eL x1.a])),(4,nI),(5,oI 5 [] (.of ap19)),(6,ji x16)] ⟨hz10 1 _ _ (show s9 1=(ji x8) from yh ha9 h1 mi) mi,hz10 2 _ _ (show s9 2=(.ref (.bx 2) 0 [] (.agg [eL x1.a])) from yh ha9 h2 (zj rfl (zW (zh me zB)))) (zj rfl (zW (zh me zB))),hz10 4 _ nI (show s9 4=nI from yh ha9 h4 rfl) rfl,hz10 5 _ _ h5 (zq (r:=26) (p:=[]) rfl rfl),hz10 6 _ _ (show s9 6=(ji x16) from yh ha9 h6 mi) mi⟩ ?_
     rintro s ⟨h1,h2,h4,h5,h6⟩
     refine .nsq (rg (gm h1 fun h27=>gm h6 fun h28=>g2 27 28 (ji (yW .i64 x8 x16)) h27 h28 fun h29=>gm h29 fun h1=>gq (.nbk (.nlp ?_))))
     exact Hc1 (yW .i64 x8 x16) (.of ap19) _ ⟨h1,h2,h4,h5⟩ h
   refine .skip (.nsq (rg (gm h7 fun h22=>gm h22 fun h6=>gq (.nbk (.nlp ?_)))))
   exact ih (yx .i64 r18 x8) _ ⟨h1,h2,h4,h5,h6⟩ h
def xW (F:Nat) (x1:(S1 LI)) :Nat→Int→(NL Int)→Option LI
 | 0,_,_=>none
 | k + 1,x8,x9=>
   bif (x8 != 0) then
    vD F x8 x1 x9 (xW F x1 k) F (yx .i64 x8 (w64 (0 - x8)))
   else
    some x9.list
theorem zjI (H:H56 D σ F) (x1:(S1 LI)) :∀ (k:Nat) (x8:Int) (x9:(NL Int)) (s:Nat→V),zr [(1,ji x8),(2,.ref (.bx 2) 0 [] (.agg [eL x1.a])),(4,nI),(5,oI 5 [] x9)] s→xW F x1 k x8 x9=some r→Run D σ (R56 r) (.run QZ [.lp QZ,.bk 0,.sq zaT]) s:=by
 intro k
 induction k with
 | zero=>intro x8 x9 s _ h;exact nm h
 | succ k ih=>
   intro x8 x9 s hs h
   rw [xW] at h
   obtain ⟨h1,h2,h4,h5⟩:=hs
   refine .seq (.seq (rg (gm h1 fun h8=>g1 8 (jb (x8 != 0)) h8 fun h9=>gq (.nsq (zn h9 h (fun h=>?_) (fun h=>?_))))))
   · refine .skip (.nsq (.block (.seq (rg (gm h1 fun h10=>gm h1 fun h11=>g1 11 (ji (w64 (0 - x8))) h11 fun h12=>g2 10 12 (ji (yx .i64 x8 (w64 (0 - x8)))) h10 h12 fun h13=>gm h13 fun h6=>gq (.nsq (.seq (.block (.loop ?_)))))))))
     exact zjc H x8 x1 x9 (xW F x1 k) ih F (yx .i64 x8 (w64 (0 - x8))) _ ⟨h1,h2,h4,h5,h6⟩ h
   refine .exit (.esq (.elp (.ebk (.nsq (.seq (rg (gv (oI 5 [] x9) (wn h5 yU) fun h30=>gv (oI 5 [] x9) (wn h30 yU) fun h4=>yS (yu (r:=5) (x:=4) (v:=_) h4 yU (fun s11 hz11=>?_)))))))))
   refine ez [(4,oI 4 [] x9)] (hz11 4 _ _ h4 (zq (r:=5) (p:=[]) rfl rfl)) ?_
   rintro s h4
   refine .nsq (.ret ?_)
   obtain rfl:=oi h
   exact rrA (zo h4) (wY (wy (o:=x9)) (xD rfl))
def Zb (F:Nat) (x1:(S1 LI)) (x2:Int):Option LI:=
 xW F x1 F x2 .nil
theorem t56 (H:H56 D σ F) (x1:(S1 LI)) (x2:Int) (s:Nat→V) (hs:zr [(0,.agg [eL x1.a]),(1,ji x2)] s) (h:Zb F x1 x2=some r):Run D σ (R56 r) (.run A56 []) s:=by
 unfold Zb at h
 obtain ⟨h0,h1⟩:=hs
 refine .seq (zw (z3 ?_))
 refine ez [(0,_),(1,_),(2,_)] ⟨za h0 rfl (zW (zh me zB)),za h1 rfl mi,ze rfl⟩ ?_
 rintro s ⟨h0,h1,h2⟩
 refine xo (.agg [eL x1.a]) (zF h0 rfl) h2 rfl (g0 nI fun h4=>gq (.nsq (.seq (rg (g0 nI fun h5=>gq (.nsq (.seq (.block (.loop ?_)))))))))
 exact zjI H x1 F x2 .nil _ ⟨h1,rfl,h4,h5⟩ h
end
def e56 (F:Nat):Ent:=ent 56 (fun (x:((S1 LI)×Int×Unit))=>Zb F x.1 x.2.1) (fun (r:LI)=>(eL r)) 0 false []
abbrev C56 (D:List V→Option V) (F:Nat):Prop:=∀ (x0:(S1 LI)) (x1:Int) r,Zb F x0 x1=some r→D [Enc.enc x0,Enc.enc x1]=some (eL r)
theorem p56 {F:Nat}:C56 (e56 F).den F:=fun x0 x1 _ h=>zU (x0,x1,()) h
theorem o56 (hF:zG Try.prog D σ) (H:H56 D σ F):(e56 F).Ok Try.prog:=okZ (f:=56) Try.func56 fun ⟨x0,x1,_⟩ y hy=>cR hF Try.func56 c56 (t56 H x0 x1 _ ⟨rfl,rfl⟩ hy)
def zq3:AC:=(.cond (.t 8) .skip (.exit 0))
def ztB:AC:=(.cond (.t 15) (.reg [.clr [18,19]] [jm 16 3,jm 17 4,jx 18 (.lit i0 1 [(0,0,.t 17)]),jx 19 (.app .s (.t 16) (.t 18)),jm 3 19] [.home 19 3]) .skip)
def zmP:AC:=(rr [jm 9 4,jv 10 (.bin .add (.t 9) (jn 1)),jm 4 10])
def zuT:AC:=(.seq (.block 1 (.seq (rr [jm 11 0,jm 12 4,jv 13 (.bin .shr (.t 11) (.t 12)),jv 14 (.bin .and (.t 13) (jn 1)),jv 15 (.bin .eql (.t 14) (jn 1))]) ztB)) zmP)
def zac:AC:=(.seq (.seq (rr [jm 5 0,jm 6 4,jv 7 (.bin .shr (.t 5) (.t 6)),jv 8 (.bin .neq (.t 7) (jn 0))]) zq3) zuT)
def zhk:AC:=(.seq (.reg [] [jm 20 3,jm 2 20] [.home 3 2]) .ret)
def zq9:AC:=(.block 0 (.loop zac))
def zts:AC:=(.seq (.seq (rr [jv 4 (.mov (jn 0))]) zq9) zhk)
def zsO:AC:=(.seq (rr [jv 3 (.mov (.k (.sl .nl .s 0 [])))]) zts)
def A77:AC:=(.seq (rr [jv 2 (.mov (.k (.sl .nl .s 0 [])))]) zsO)
def zv6:List An:=[⟨6,[.clr [18,19]],[],[],[.home 19 3]⟩,⟨7,[],[],[],[.home 3 2]⟩]
theorem c77:cq Try.prog Try.f77 zv6=some A77:=by kernel_rfl
structure H77 (D:Den) (σ:Sig) (F:Nat):Prop where
 mk ::
abbrev R77 (r:LI):(Nat→V)→Prop:=RR Try.prog [.tmp 2] 0 false (eL r)
section
variable {r:LI}
def W7 (F:Nat) (x1:Int) (x8:Int) (c1:(NL Int)→Int→Option LI) (x17:(NL Int)):Option LI:=
 c1 x17 (w64 (x8 + 1))
theorem zdk (H:H77 D σ F) (x1:Int) (x8:Int) (c1:(NL Int)→Int→Option LI) (Hc1:∀ (x7:(NL Int)) (x8:Int) (s:Nat→V),zr [(0,ji x1),(2,nI),(3,oI 3 [] x7),(4,ji x8)] s→c1 x7 x8=some r→Run D σ (R77 r) (.run zac [.lp zac,.bk 0,.sq zhk]) s) (x17:(NL Int)) (s:Nat→V) (hs:zr [(0,ji x1),(2,nI),(3,oI 3 [] x17),(4,ji x8)] s) (h:W7 F x1 x8 c1 x17=some r):Run D σ (R77 r) (.nrm [.bk 1,.sq zmP,.lp zac,.bk 0,.sq zhk]) s:=by
 unfold W7 at h
 obtain ⟨h0,h2,h3,h4⟩:=hs
 refine .nbk (.nsq (rg (gm h4 fun h9=>g1 9 (ji (w64 (x8 + 1))) h9 fun h10=>gm h10 fun h4=>gq (.nlp ?_))))
 exact Hc1 x17 (w64 (x8 + 1)) _ ⟨h0,h2,h3,h4⟩ h
def uu (F:Nat) (x1:Int) :Nat→(NL Int)→Int→Option LI
 | 0,_,_=>none
 | k + 1,x7,x8=>
   (UD .i64 x1 x8).bind fun q14=>
   bif (q14 != 0) then
    (UD .i64 x1 x8).bind fun q15=>
    bif ((yx .i64 q15 1) == 1) then
     (uQ x7.list [x8]).bind fun ap18=>
     W7 F x1 x8 (uu F x1 k) (.of ap18)
    else
     W7 F x1 x8 (uu F x1 k) x7
   else
    some x7.list
theorem zj2 (H:H77 D σ F) (x1:Int) :∀ (k:Nat) (x7:(NL Int)) (x8:Int) (s:Nat→V),zr [(0,ji x1),(2,nI),(3,oI 3 [] x7),(4,ji x8)] s→uu F x1 k x7 x8=some r→Run D σ (R77 r) (.run zac [.lp zac,.bk 0,.sq zhk]) s:=by
 intro k
 induction k with
 | zero=>intro x7 x8 s _ h;exact nm h
 | succ k ih=>
   intro x7 x8 s hs h
   rw [uu] at h
   obtain ⟨h0,h2,h3,h4⟩:=hs
   refine .seq (.seq (rg (gm h0 fun h5=>gm h4 fun h6=>?_)))
   obtain ⟨q14,Eq14,h⟩:=zb h
   refine gv (ji q14) (Xh h5 h6 Eq14) fun h7=>g1 7 (jb (q14 != 0)) h7 fun h8=>gq (.nsq (zn h8 h (fun h=>?_) (fun h=>?_)))
   · refine .skip (.nsq (.seq (.block (.seq (rg (gm h0 fun h11=>gm h4 fun h12=>?_))))))
     obtain ⟨q15,Eq15,h⟩:=zb h
     refine gv (ji q15) (Xh h11 h12 Eq15) fun h13=>g1 13 (ji (yx .i64 q15 1)) h13 fun h14=>g1 14 (jb ((yx .i64 q15 1) == 1)) h14 fun h15=>gq (.nsq (zn h15 h (fun h=>?_) (fun h=>?_)))
     · refine zw (z3 ?_)
       refine ez [(0,_),(2,_),(3,_),(4,_),(18,_),(19,_)] ⟨za h0 rfl mi,za h2 rfl rfl,za h3 rfl (zq (r:=3) (p:=[]) rfl rfl),za h4 rfl mi,ze rfl,ze rfl⟩ ?_
       rintro s ⟨h0,h2,h3,h4,h18,h19⟩
       refine gv (oI 3 [] x7) (wn h3 yU) fun h16=>gm h4 fun h17=>xI [(17,ji x8)] [Enc.enc (x8:Int)] h17 rfl rfl h18 ?_
       obtain ⟨ap18,Eap18,h⟩:=zb h
       refine XR (q:=3) (p:=[]) (o:=(x7:NL Int)) (ys:=([x8]:LI)) (t2:=.at 18 []) (lo2:=0) h16 rfl rfl h19 (Z4 (o:=(x7:NL Int)) Eap18 (by split <;> simp)) (fun s17 ha17=>gm (rf (oI 19 [] (.of ap18))) fun h3=>yS (yu (r:=19) (x:=3) (v:=_) h3 rfl (fun s18 hz18=>?_)))
       refine ez [(0,ji x1),(2,nI),(3,oI 3 [] (.of ap18)),(4,ji x8)] ⟨hz18 0 _ _ (show s17 0=(ji x1) from yh ha17 h0 mi) mi,hz18 2 _ nI (show s17 2=nI from yh ha17 h2 rfl) rfl,hz18 3 _ _ h3 (zq (r:=19) (p:=[]) rfl rfl),hz18 4 _ _ (show s17 4=(ji x8) from yh ha17 h4 mi) mi⟩ ?_
       rintro s ⟨h0,h2,h3,h4⟩
       exact zdk H x1 x8 (uu F x1 k) ih (.of ap18) _ ⟨h0,h2,h3,h4⟩ h
     refine .skip ?_
     exact zdk H x1 x8 (uu F x1 k) ih x7 _ ⟨h0,h2,h3,h4⟩ h
   refine .exit (.esq (.elp (.ebk (.nsq (.seq (rg (gv (oI 3 [] x7) (wn h3 yU) fun h20=>gv (oI 3 [] x7) (wn h20 yU) fun h2=>yS (yu (r:=3) (x:=2) (v:=_) h2 yU (fun s19 hz19=>?_)))))))))
   refine ez [(2,oI 2 [] x7)] (hz19 2 _ _ h2 (zq (r:=3) (p:=[]) rfl rfl)) ?_
   rintro s h2
   refine .nsq (.ret ?_)
   obtain rfl:=oi h
   exact rrA (zo h2) (wY (wy (o:=x7)) (xD rfl))
def XN (F:Nat) (x1:Int):Option LI:=
 uu F x1 F .nil 0
theorem t77 (H:H77 D σ F) (x1:Int) (s:Nat→V) (hs:zr [(0,ji x1)] s) (h:XN F x1=some r):Run D σ (R77 r) (.run A77 []) s:=by
 unfold XN at h
 have h0:=hs
 refine .seq (rg (g0 nI fun h2=>gq (.nsq (.seq (rg (g0 nI fun h3=>gq (.nsq (.seq (.seq (rg (g0 (ji 0) fun h4=>gq (.nsq (.block (.loop ?_))))))))))))))
 exact zj2 H x1 F .nil 0 _ ⟨h0,h2,h3,h4⟩ h
end
def e77 (F:Nat):Ent:=ent 77 (fun (x:(Int×Unit))=>XN F x.1) (fun (r:LI)=>(eL r)) 0 false []
abbrev C77 (D:List V→Option V) (F:Nat):Prop:=∀ (x0:Int) r,XN F x0=some r→D [Enc.enc x0]=some (eL r)
theorem p77 {F:Nat}:C77 (e77 F).den F:=fun x0 _ h=>zU (x0,()) h
theorem o77 (hF:zG Try.prog D σ) (H:H77 D σ F):(e77 F).Ok Try.prog:=okZ (f:=77) Try.func77 fun ⟨x0,_⟩ y hy=>cR hF Try.func77 c77 (t77 H x0 _ rfl hy)
def zmC:AC:=(.cond (.t 35) (rr [jm 36 9,jm 7 36]) .skip)
def zvR:AC:=(.seq (rr [jm 17 7,jv 18 (.bin .lss (.t 17) (jn 0)),jm 19 18,jg 20 19 false (.mov (.t 1)),jg 21 19 false (.mov (.t 2)),jg 22 19 false (.mov (.t 9)),jg 23 19 false (.bin .shl (jn 1) (.t 22)),jg 24 19 false (.bin .andNot (.t 21) (.t 23)),jg 25 19 false (.idx (.t 20) (.t 24) 1),jg 26 19 false (.load .s (.t 25)),jg 27 19 false (.mov (.t 1)),jg 28 19 false (.mov (.t 2)),jg 29 19 false (.mov (.t 7)),jg 30 19 false (.bin .shl (jn 1) (.t 29)),jg 31 19 false (.bin .andNot (.t 28) (.t 30)),jg 32 19 false (.idx (.t 27) (.t 31) 1),jg 33 19 false (.load .s (.t 32)),jg 34 19 false (.bin .lss (.t 26) (.t 33)),jv 35 (.pick (.t 19) kt (.t 34))]) zmC)
def zkY:AC:=(rr [jv 37 (.bin .add (.t 13) (jn 1)),jm 13 37])
def zre:AC:=(.seq (.block 1 (.seq (rr [jv 15 (.idx (.t 11) (.t 13) 1),jl 16 15,jm 9 16]) zvR)) zkY)
def zp5:AC:=(.seq (.cond (.t 14) .skip (.exit 0)) zre)
def KZ:AC:=(.seq (rr [jv 14 (.bin .lss (.t 13) (.t 12))]) zp5)
def Q9:AC:=(.seq (rr [jm 38 7,jm 6 38]) .ret)
def zop:AC:=(.block 0 (.loop KZ))
def zuL:AC:=(.seq (.seq (rr [jm 10 2,jx 11 (.call (jf 77) [.t 10]),jk 12 11,jv 13 (.mov (jn 0))]) zop) Q9)
def zp6:AC:=(.seq (rr [jv 7 (.mov (jn (-1)))]) zuL)
def A57:AC:=(.seq (.reg [.clr [3]] [jx 3 (.box (.t 0)),jv 6 (.mov (jn 0))] []) zp6)
def zwD:List An:=[⟨0,[.clr [3]],[],[],[]⟩]
theorem c57:cq Try.prog Try.f57 zwD=some A57:=by kernel_rfl
structure H57 (D:Den) (σ:Sig) (F:Nat):Prop where
 c77:C77 (D 77) F
 g77:σ 77=some (0,false)
abbrev R57 (r:Int):(Nat→V)→Prop:=RR Try.prog [.tmp 6] 0 false (Enc.enc (r:Int))
section
variable {r:Int}
def w8 (F:Nat) (x2:LI) (x3:Int) (r4:LI) (x17:Int) (c1:Int→Int→Option Int) (x35:Int):Option Int:=
 c1 x35 (w64 (x17 + 1))
theorem zdG (H:H57 D σ F) (x2:LI) (x3:Int) (r4:LI) (x17:Int) (c1:Int→Int→Option Int) (Hc1:∀ (x16:Int) (x17:Int) (s:Nat→V),zr [(1,eL x2),(2,ji x3),(6,ji 0),(7,ji x16),(11,eL r4),(12,ji (r4.length:Int)),(13,ji x17)] s→c1 x16 x17=some r→Run D σ (R57 r) (.run KZ [.lp KZ,.bk 0,.sq Q9]) s) (x35:Int) (s:Nat→V) (hs:zr [(1,eL x2),(2,ji x3),(6,ji 0),(7,ji x35),(11,eL r4),(12,ji (r4.length:Int)),(13,ji x17)] s) (h:w8 F x2 x3 r4 x17 c1 x35=some r):Run D σ (R57 r) (.nrm [.bk 1,.sq zkY,.lp KZ,.bk 0,.sq Q9]) s:=by
 unfold w8 at h
 obtain ⟨h1,h2,h6,h7,h11,h12,h13⟩:=hs
 refine .nbk (.nsq (rg (g1 13 (ji (w64 (x17 + 1))) h13 fun h37=>gm h37 fun h13=>gq (.nlp ?_))))
 exact Hc1 x35 (w64 (x17 + 1)) _ ⟨h1,h2,h6,h7,h11,h12,h13⟩ h
def vg (F:Nat) (x2:LI) (x3:Int) (x16:Int) (v29:Int) (r4:LI) (x17:Int) (c1:Int→Int→Option Int) (x34:Bool):Option Int:=
 bif x34 then
  w8 F x2 x3 r4 x17 c1 v29
 else
  w8 F x2 x3 r4 x17 c1 x16
theorem zc5 (H:H57 D σ F) (x2:LI) (x3:Int) (x16:Int) (v29:Int) (r4:LI) (x17:Int) (c1:Int→Int→Option Int) (Hc1:∀ (x16:Int) (x17:Int) (s:Nat→V),zr [(1,eL x2),(2,ji x3),(6,ji 0),(7,ji x16),(11,eL r4),(12,ji (r4.length:Int)),(13,ji x17)] s→c1 x16 x17=some r→Run D σ (R57 r) (.run KZ [.lp KZ,.bk 0,.sq Q9]) s) (x34:Bool) (s:Nat→V) (hs:zr [(1,eL x2),(2,ji x3),(6,ji 0),(7,ji x16),(9,ji v29),(11,eL r4),(12,ji (r4.length:Int)),(13,ji x17),(35,jb x34)] s) (h:vg F x2 x3 x16 v29 r4 x17 c1 x34=some r):Run D σ (R57 r) (.nrm [.sq zmC,.bk 1,.sq zkY,.lp KZ,.bk 0,.sq Q9]) s:=by
 unfold vg at h
 obtain ⟨h1,h2,h6,h7,h9,h11,h12,h13,h35⟩:=hs
 refine .nsq (zn h35 h (fun h=>?_) (fun h=>?_))
 · refine rg (gm h9 fun h36=>gm h36 fun h7=>gq ?_)
   exact zdG H x2 x3 r4 x17 c1 Hc1 v29 _ ⟨h1,h2,h6,h7,h11,h12,h13⟩ h
 refine .skip ?_
 exact zdG H x2 x3 r4 x17 c1 Hc1 x16 _ ⟨h1,h2,h6,h7,h11,h12,h13⟩ h
def yT (F:Nat) (x2:LI) (x3:Int) (r4:LI) :Nat→Int→Int→Option Int
 | 0,_,_=>none
 | k + 1,x16,x17=>
   bif decide (x17 < (r4.length:Int)) then
    (idx r4 x17).bind fun v29=>
    bif decide (x16 < 0) then
     vg F x2 x3 x16 v29 r4 x17 (yT F x2 x3 r4 k) true
    else
     (Xr .i64 1 v29).bind fun q36=>
     (idx x2 (yW .i64 x3 q36)).bind fun v37=>
     (Xr .i64 1 x16).bind fun q38=>
     (idx x2 (yW .i64 x3 q38)).bind fun v39=>
     vg F x2 x3 x16 v29 r4 x17 (yT F x2 x3 r4 k) (decide (v37 < v39))
   else
    some x16
theorem zkg (H:H57 D σ F) (x2:LI) (x3:Int) (r4:LI) :∀ (k:Nat) (x16:Int) (x17:Int) (s:Nat→V),zr [(1,eL x2),(2,ji x3),(6,ji 0),(7,ji x16),(11,eL r4),(12,ji (r4.length:Int)),(13,ji x17)] s→yT F x2 x3 r4 k x16 x17=some r→Run D σ (R57 r) (.run KZ [.lp KZ,.bk 0,.sq Q9]) s:=by
 intro k
 induction k with
 | zero=>intro x16 x17 s _ h;exact nm h
 | succ k ih=>
   intro x16 x17 s hs h
   rw [yT] at h
   obtain ⟨h1,h2,h6,h7,h11,h12,h13⟩:=hs
   refine .seq (rg (g2 13 12 (jb (decide (x17 < (r4.length:Int)))) h13 h12 fun h14=>gq (.nsq (.seq (zn h14 h (fun h=>?_) (fun h=>?_))))))
   · refine .skip (.nsq (.seq (.block (.seq (rg ?_)))))
     obtain ⟨v29,Ev29,h⟩:=zb h
     refine gv (.ref .sh 0 [] (ji v29)) (yn (t:=.sh) (lo:=0) (xs:=r4) h11 h13 Ev29 rfl rfl) fun h15=>g1 15 (ji v29) h15 fun h16=>gm h16 fun h9=>gq (.nsq (.seq (rg (gm h7 fun h17=>g1 17 (jb (decide (x16 < 0))) h17 fun h18=>gm h18 fun h19=>z4 h (fun hg3 h=>?_) (fun hg3 h=>?_)))))
     · iterate 15 refine zR (ct h19 hg3) ?_
       refine g2 19 34 (jb true) (ct h19 hg3) (rf (.tup [])) fun h35=>gq ?_
       exact zc5 H x2 x3 x16 v29 r4 x17 (yT F x2 x3 r4 k) ih true _ ⟨h1,h2,h6,h7,h9,h11,h12,h13,h35⟩ h
     refine zm (ct h19 hg3) (gm h1 fun h20=>zm (ct h19 hg3) (gm h2 fun h21=>zm (ct h19 hg3) (gm h9 fun h22=>?_)))
     obtain ⟨q36,Eq36,h⟩:=zb h
     refine zm (ct h19 hg3) (gv (ji q36) (uo rfl h22 Eq36) fun h23=>zm (ct h19 hg3) (g2 21 23 (ji (yW .i64 x3 q36)) h21 h23 fun h24=>?_))
     obtain ⟨v37,Ev37,h⟩:=zb h
     refine zm (ct h19 hg3) (gv (.ref .sh 0 [] (ji v37)) (yn (t:=.sh) (lo:=0) (xs:=x2) h20 h24 Ev37 rfl rfl) fun h25=>zm (ct h19 hg3) (g1 25 (ji v37) h25 fun h26=>zm (ct h19 hg3) (gm h1 fun h27=>zm (ct h19 hg3) (gm h2 fun h28=>zm (ct h19 hg3) (gm h7 fun h29=>?_)))))
     obtain ⟨q38,Eq38,h⟩:=zb h
     refine zm (ct h19 hg3) (gv (ji q38) (uo rfl h29 Eq38) fun h30=>zm (ct h19 hg3) (g2 28 30 (ji (yW .i64 x3 q38)) h28 h30 fun h31=>?_))
     obtain ⟨v39,Ev39,h⟩:=zb h
     refine zm (ct h19 hg3) (gv (.ref .sh 0 [] (ji v39)) (yn (t:=.sh) (lo:=0) (xs:=x2) h27 h31 Ev39 rfl rfl) fun h32=>zm (ct h19 hg3) (g1 32 (ji v39) h32 fun h33=>zm (ct h19 hg3) (g2 26 33 (jb (decide (v37 < v39))) h26 h33 fun h34=>g2 19 34 (jb (decide (v37 < v39))) (ct h19 hg3) h34 fun h35=>gq ?_)))
     exact zc5 H x2 x3 x16 v29 r4 x17 (yT F x2 x3 r4 k) ih (decide (v37 < v39)) _ ⟨h1,h2,h6,h7,h9,h11,h12,h13,h35⟩ h
   refine .exit (.esq (.elp (.ebk (.nsq (.seq (rg (gm h7 fun h38=>gm h38 fun h6=>gq (.nsq (.ret ?_)))))))))
   obtain rfl:=oi h
   exact rrA (zo h6) rfl
def xV (F:Nat) (x1:(S1 LI)) (x2:LI) (x3:Int):Option Int:=
 (XN F x3).bind fun r4=>
 yT F x2 x3 r4 F (-1) 0
theorem t57 (H:H57 D σ F) (x1:(S1 LI)) (x2:LI) (x3:Int) (s:Nat→V) (hs:zr [(0,.agg [eL x1.a]),(1,eL x2),(2,ji x3)] s) (h:xV F x1 x2 x3=some r):Run D σ (R57 r) (.run A57 []) s:=by
 unfold xV at h
 obtain ⟨h0,h1,h2⟩:=hs
 refine .seq (zw (z3 ?_))
 refine ez [(0,_),(1,_),(2,_),(3,_)] ⟨za h0 rfl (zW (zh me zB)),za h1 rfl me,za h2 rfl mi,ze rfl⟩ ?_
 rintro s ⟨h0,h1,h2,h3⟩
 refine xo (.agg [eL x1.a]) (zF h0 rfl) h3 rfl (g0 (ji 0) fun h6=>gq (.nsq (.seq (rg (g0 (ji (-1)) fun h7=>gq (.nsq (.seq (.seq (rg (gm h2 fun h10=>?_))))))))))
 obtain ⟨r4,Er4,h⟩:=zb h
 refine gcF [Enc.enc (x3:Int)] (zf h10 rfl rfl zA) (H.c77 _ _ Er4) H.g77 (gl r4 rfl fun h12=>g0 (ji 0) fun h13=>gq (.nsq (.block (.loop ?_))))
 exact zkg H x2 x3 r4 F (-1) 0 _ ⟨h1,h2,h6,h7,rfl,h12,h13⟩ h
end
def e57 (F:Nat):Ent:=ent 57 (fun (x:((S1 LI)×LI×Int×Unit))=>xV F x.1 x.2.1 x.2.2.1) (fun (r:Int)=>(Enc.enc (r:Int))) 0 false []
abbrev C57 (D:List V→Option V) (F:Nat):Prop:=∀ (x0:(S1 LI)) (x1:LI) (x2:Int) r,xV F x0 x1 x2=some r→D [Enc.enc x0,Enc.enc x1,Enc.enc x2]=some (Enc.enc (r:Int))
theorem p57 {F:Nat}:C57 (e57 F).den F:=fun x0 x1 x2 _ h=>zU (x0,x1,x2,()) h
theorem o57 (hF:zG Try.prog D σ) (H:H57 D σ F):(e57 F).Ok Try.prog:=okZ (f:=57) Try.func57 fun ⟨x0,x1,x2,_⟩ y hy=>cR hF Try.func57 c57 (t57 H x0 x1 x2 _ ⟨rfl,rfl,rfl⟩ hy)
def zvl:AC:=(.cond (.t 15) .skip (.exit 0))
def zpP:AC:=(rr [jm 30 3,jm 31 4,jm 32 3,jm 33 4,jv 34 (.idx (.t 32) (.t 33) 1),jl 35 34,jm 36 3,jm 37 7,jv 38 (.idx (.t 36) (.t 37) 1),jl 39 38,jv 40 (.mx [.t 35,.t 39]),jv 41 (.idx (.t 30) (.t 31) 1),jz (.store .s (.t 41) (.t 40))])
def zpI:AC:=(rr [jv 42 (.bin .add (.t 26) (jn 1)),jm 26 42])
def zsH:AC:=(.seq (.block 3 (.seq (rr [jv 28 (.idx (.t 24) (.t 26) 1),jl 29 28,jm 7 29]) zpP)) zpI)
def zue:AC:=(.seq (.cond (.t 27) .skip (.exit 2)) zsH)
def ziA:AC:=(.seq (rr [jv 27 (.bin .lss (.t 26) (.t 25))]) zue)
def zto:AC:=(.block 2 (.loop ziA))
def ztb:AC:=(.cond (.t 23) (.seq (.seq (rr [jm 24 5,jk 25 24,jv 26 (.mov (jn 0))]) zto) (.exit 1)) .skip)
def zkN:AC:=(rr [jm 43 3,jm 44 4,jm 45 3,jm 46 4,jv 47 (.load (.ag [.p]) (.t 1)),jm 48 3,jm 49 4,jx 50 (.call (jf 57) [.t 47,.t 48,.t 49]),jv 51 (.bin .shl (jn 1) (.t 50)),jv 52 (.bin .andNot (.t 46) (.t 51)),jv 53 (.idx (.t 45) (.t 52) 1),jl 54 53,jv 55 (.bin .add (.t 54) (jn 1)),jv 56 (.idx (.t 43) (.t 44) 1),jz (.store .s (.t 56) (.t 55))])
def zqw:AC:=(.seq (.seq (rr [jm 21 5,jk 22 21,jv 23 (.bin .gtr (.t 22) (jn 1))]) ztb) zkN)
def ziB:AC:=(rr [jm 16 4,jv 17 (.bin .add (.t 16) (jn 1)),jm 4 17])
def zuB:AC:=(.seq (.block 1 (.seq (rr [jv 18 (.load (.ag [.p]) (.t 1)),jm 19 4,jx 20 (.call (jf 56) [.t 18,.t 19]),jm 5 20]) zqw)) ziB)
def zay:AC:=(.seq (.seq (rr [jm 12 4,jm 13 3,jk 14 13,jv 15 (.bin .lss (.t 12) (.t 14))]) zvl) zuB)
def zbW:AC:=(.seq (.reg [] [jm 57 3,jm 2 57] [.home 3 2]) .ret)
def zoY:AC:=(.block 0 (.loop zay))
def zo0:AC:=(.seq (.seq (rr [jv 4 (.mov (jn 1))]) zoY) zbW)
def znw:AC:=(.seq (.reg [.clr [11]] [jv 8 (.load (.ag [.p]) (.t 1)),jx 9 (.call (jf 35) [.t 8]),jv 10 (.bin .add (.t 9) (jn 1)),jx 11 (.mk (.t 10) i0 i0),jm 3 11] [.home 11 3]) zo0)
def A34:AC:=(.seq (.reg [.clr [1]] [jx 1 (.box (.t 0)),jv 2 (.mov (.k (.sl .nl .s 0 [])))] []) znw)
def zxJ:List An:=[⟨0,[.clr [1]],[],[],[]⟩,⟨1,[.clr [11]],[],[],[.home 11 3]⟩,⟨13,[],[],[],[.home 3 2]⟩]
theorem c34:cq Try.prog Try.f34 zxJ=some A34:=by kernel_rfl
structure H34 (D:Den) (σ:Sig) (F:Nat):Prop where
 c35:C35 (D 35) F
 g35:σ 35=some (0,false)
 c56:C56 (D 56) F
 g56:σ 56=some (0,false)
 c57:C57 (D 57) F
 g57:σ 57=some (0,false)
abbrev R34 (r:LI):(Nat→V)→Prop:=RR Try.prog [.tmp 2] 0 false (eL r)
section
variable {r:LI}
def xM (F:Nat) (x1:(S1 LI)) (x38:Int) (r72:LI) (c1:LI→Int→Option LI):Nat→LI→Int→Option LI
 | 0,_,_=>none
 | k + 1,x91,x92=>
   bif decide (x92 < (r72.length:Int)) then
    (idx r72 x92).bind fun v97=>
    (idx x91 x38).bind fun v98=>
    (idx x91 v97).bind fun v99=>
    (idx x91 x38).bind fun v100=>
    (xM F x1 x38 r72 c1 k) (x91.set x38.toNat (if v99 > v98 then v99 else v98)) (w64 (x92 + 1))
   else
    c1 x91 (w64 (x38 + 1))
theorem zkO (H:H34 D σ F) (x1:(S1 LI)) (x38:Int) (r72:LI) (c1:LI→Int→Option LI) (Hc1:∀ (x37:LI) (x38:Int) (s:Nat→V),zr [(1,.ref (.bx 1) 0 [] (.agg [eL x1.a])),(2,nI),(3,oI 3 [] (.of x37)),(4,ji x38)] s→c1 x37 x38=some r→Run D σ (R34 r) (.run zay [.lp zay,.bk 0,.sq zbW]) s):∀ (k:Nat) (x91:LI) (x92:Int) (s:Nat→V),zr [(1,.ref (.bx 1) 0 [] (.agg [eL x1.a])),(2,nI),(3,oI 3 [] (.of x91)),(4,ji x38),(24,eL r72),(25,ji (r72.length:Int)),(26,ji x92)] s→xM F x1 x38 r72 c1 k x91 x92=some r→Run D σ (R34 r) (.run ziA [.lp ziA,.bk 2,.sq (AC.exit 1),.sq zkN,.bk 1,.sq ziB,.lp zay,.bk 0,.sq zbW]) s:=by
 intro k
 induction k with
 | zero=>intro x91 x92 s _ h;exact nm h
 | succ k ih=>
   intro x91 x92 s hs h
   rw [xM] at h
   obtain ⟨h1,h2,h3,h4,h24,h25,h26⟩:=hs
   refine .seq (rg (g2 26 25 (jb (decide (x92 < (r72.length:Int)))) h26 h25 fun h27=>gq (.nsq (.seq (zn h27 h (fun h=>?_) (fun h=>?_))))))
   · refine .skip (.nsq (.seq (.block (.seq (rg ?_)))))
     obtain ⟨v97,Ev97,h⟩:=zb h
     refine gv (.ref .sh 0 [] (ji v97)) (yn (t:=.sh) (lo:=0) (xs:=r72) h24 h26 Ev97 rfl rfl) fun h28=>g1 28 (ji v97) h28 fun h29=>gm h29 fun h7=>gq (.nsq (rg (gm h3 fun h30=>gm h4 fun h31=>gm h3 fun h32=>gm h4 fun h33=>?_)))
     obtain ⟨v98,Ev98,h⟩:=zb h
     refine gv (.ref (.at 3 []) x38.toNat [] (ji v98)) (xq (o:=.of x91) h32 h33 Ev98 rfl) fun h34=>g1 34 (ji v98) h34 fun h35=>gm h3 fun h36=>gm h7 fun h37=>?_
     obtain ⟨v99,Ev99,h⟩:=zb h
     refine gv (.ref (.at 3 []) v97.toNat [] (ji v99)) (xq (o:=.of x91) h36 h37 Ev99 rfl) fun h38=>g1 38 (ji v99) h38 fun h39=>g2 35 39 (ji (if v99 > v98 then v99 else v98)) h35 h39 fun h40=>?_
     obtain ⟨v100,Ev100,h⟩:=zb h
     refine gv (.ref (.at 3 []) x38.toNat [] (ji v100)) (xq (o:=.of x91) h30 h31 Ev100 rfl) fun h41=>ye (ji (if v99 > v98 then v99 else v98)) (zF h41 rfl) (zF h40 rfl) (xN (by first | rfl | simp [V.toks,V.tokss,Enc.toks_enc,yd])) (gz [(1,.ref (.bx 1) 0 [] (.agg [eL x1.a])),(2,nI),(3,_),(4,ji x38),(24,eL r72),(25,ji (r72.length:Int)),(26,ji x92)] ⟨zd h1 (zH rfl rfl (yL (zy uE rfl))),zd h2 rfl,zd h3 Xu,zd h4 rfl,zd h24 uE,zd h25 rfl,zd h26 rfl⟩ ?_)
     rintro s ⟨h1,h2,h3,h4,h24,h25,h26⟩
     refine .nbk (.nsq (rg (g1 26 (ji (w64 (x92 + 1))) h26 fun h42=>gm h42 fun h26=>gq (.nlp ?_))))
     exact ih (x91.set x38.toNat (if v99 > v98 then v99 else v98)) (w64 (x92 + 1)) _ ⟨h1,h2,h3,h4,h24,h25,h26⟩ h
   refine .exit (.esq (.elp (.ebk (.nsq (.exit (.esq (.ebk (.nsq (rg (gm h4 fun h16=>g1 16 (ji (w64 (x38 + 1))) h16 fun h17=>gm h17 fun h4=>gq (.nlp ?_)))))))))))
   exact Hc1 x91 (w64 (x38 + 1)) _ ⟨h1,h2,h3,h4⟩ h
def yq (F:Nat) (x1:(S1 LI)) :Nat→LI→Int→Option LI
 | 0,_,_=>none
 | k + 1,x37,x38=>
   bif decide (x38 < (x37.length:Int)) then
    (Zb F x1 x38).bind fun r72=>
    bif decide ((r72.length:Int) > 1) then
     xM F x1 x38 r72 (yq F x1 k) F x37 0
    else
     (xV F x1 x37 x38).bind fun r101=>
     (Xr .i64 1 r101).bind fun q102=>
     (idx x37 (yW .i64 x38 q102)).bind fun v103=>
     (idx x37 x38).bind fun v104=>
     (yq F x1 k) (x37.set x38.toNat (w64 (v103 + 1))) (w64 (x38 + 1))
   else
    some x37
theorem zlb (H:H34 D σ F) (x1:(S1 LI)) :∀ (k:Nat) (x37:LI) (x38:Int) (s:Nat→V),zr [(1,.ref (.bx 1) 0 [] (.agg [eL x1.a])),(2,nI),(3,oI 3 [] (.of x37)),(4,ji x38)] s→yq F x1 k x37 x38=some r→Run D σ (R34 r) (.run zay [.lp zay,.bk 0,.sq zbW]) s:=by
 intro k
 induction k with
 | zero=>intro x37 x38 s _ h;exact nm h
 | succ k ih=>
   intro x37 x38 s hs h
   rw [yq] at h
   obtain ⟨h1,h2,h3,h4⟩:=hs
   refine .seq (.seq (rg (gm h4 fun h12=>gm h3 fun h13=>gv (ji (x37.length:Int)) (Uk (o:=.of x37) h13) fun h14=>g2 12 14 (jb (decide (x38 < (x37.length:Int)))) h12 h14 fun h15=>gq (.nsq (zn h15 h (fun h=>?_) (fun h=>?_))))))
   · refine .skip (.nsq (.seq (.block (.seq (rg (g1 1 (.agg [eL x1.a]) h1 fun h18=>gm h4 fun h19=>?_))))))
     obtain ⟨r72,Er72,h⟩:=zb h
     refine gcF [Enc.enc (x1:(S1 LI)),Enc.enc (x38:Int)] (zf h18 rfl (Enc.erase_enc (x1:(S1 LI))) (zf h19 rfl rfl zA)) (H.c56 _ _ _ Er72) H.g56 (gm (rf (eL r72)) fun h5=>gq (.nsq (.seq (.seq (rg (gm h5 fun h21=>gl r72 h21 fun h22=>g1 22 (jb (decide ((r72.length:Int) > 1))) h22 fun h23=>gq (.nsq (zn h23 h (fun h=>?_) (fun h=>?_)))))))))
     · refine .seq (.seq (rg (gm h5 fun h24=>gl r72 h24 fun h25=>g0 (ji 0) fun h26=>gq (.nsq (.block (.loop ?_))))))
       exact zkO H x1 x38 r72 (yq F x1 k) ih F x37 0 _ ⟨h1,h2,h3,h4,h24,h25,h26⟩ h
     refine .skip (.nsq (rg (gm h3 fun h43=>gm h4 fun h44=>gm h3 fun h45=>gm h4 fun h46=>g1 1 (.agg [eL x1.a]) h1 fun h47=>gm h3 fun h48=>gm h4 fun h49=>?_)))
     obtain ⟨r101,Er101,h⟩:=zb h
     refine gcF [Enc.enc (x1:(S1 LI)),eL x37,Enc.enc (x38:Int)] (zf h47 rfl (Enc.erase_enc (x1:(S1 LI))) (zf h48 rfl (uw (o:=.of x37)) (zf h49 rfl rfl zA))) (H.c57 _ _ _ _ Er101) H.g57 ?_
     obtain ⟨q102,Eq102,h⟩:=zb h
     refine gv (ji q102) (uo rfl rfl Eq102) fun h51=>g2 46 51 (ji (yW .i64 x38 q102)) h46 h51 fun h52=>?_
     obtain ⟨v103,Ev103,h⟩:=zb h
     refine gv (.ref (.at 3 []) ((yW .i64 x38 q102).toNat) [] (ji v103)) (xq (o:=.of x37) h45 h52 Ev103 rfl) fun h53=>g1 53 (ji v103) h53 fun h54=>g1 54 (ji (w64 (v103 + 1))) h54 fun h55=>?_
     obtain ⟨v104,Ev104,h⟩:=zb h
     refine gv (.ref (.at 3 []) x38.toNat [] (ji v104)) (xq (o:=.of x37) h43 h44 Ev104 rfl) fun h56=>ye (ji (w64 (v103 + 1))) (zF h56 rfl) (zF h55 rfl) (xN (by first | rfl | simp [V.toks,V.tokss,Enc.toks_enc,yd])) (gz [(1,.ref (.bx 1) 0 [] (.agg [eL x1.a])),(2,nI),(3,_),(4,ji x38)] ⟨zd h1 (zH rfl rfl (yL (zy uE rfl))),zd h2 rfl,zd h3 Xu,zd h4 rfl⟩ ?_)
     rintro s ⟨h1,h2,h3,h4⟩
     refine .nbk (.nsq (rg (gm h4 fun h16=>g1 16 (ji (w64 (x38 + 1))) h16 fun h17=>gm h17 fun h4=>gq (.nlp ?_))))
     exact ih (x37.set x38.toNat (w64 (v103 + 1))) (w64 (x38 + 1)) _ ⟨h1,h2,h3,h4⟩ h
   refine .exit (.esq (.elp (.ebk (.nsq (.seq (rg (gm h3 fun h57=>gm h57 fun h2=>yS (yu (r:=3) (x:=2) (v:=_) h2 rfl (fun s4 hz4=>?_)))))))))
   refine ez [(2,oI 2 [] (.of x37))] (hz4 2 _ _ h2 (zq (r:=3) (p:=[]) rfl rfl)) ?_
   rintro s h2
   refine .nsq (.ret ?_)
   obtain rfl:=oi h
   exact rrA (zo h2) (wY (wy (o:=.of x37)) (xD rfl))
def xt (F:Nat) (x1:(S1 LI)):Option LI:=
 (xa F x1).bind fun r2=>
 (mkN (w64 (r2 + 1)) (0:Int)).bind fun mk3=>
 yq F x1 F mk3 1
theorem t34 (H:H34 D σ F) (x1:(S1 LI)) (s:Nat→V) (hs:zr [(0,.agg [eL x1.a])] s) (h:xt F x1=some r):Run D σ (R34 r) (.run A34 []) s:=by
 unfold xt at h
 have h0:=hs
 refine .seq (zw (z3 ?_))
 refine ez [(0,_),(1,_)] ⟨za h0 rfl (zW (zh me zB)),ze rfl⟩ ?_
 rintro s ⟨h0,h1⟩
 refine xo (.agg [eL x1.a]) (zF h0 rfl) h1 rfl (g0 nI fun h2=>gq (.nsq (.seq (zw (z3 ?_)))))
 refine ez [(1,_),(2,_),(11,_)] ⟨za rfl rfl (zj rfl (zW (zh me zB))),za h2 rfl rfl,ze rfl⟩ ?_
 rintro s ⟨h1,h2,h11⟩
 refine g1 1 (.agg [eL x1.a]) h1 fun h8=>?_
 obtain ⟨r2,Er2,h⟩:=zb h
 refine gcF [Enc.enc (x1:(S1 LI))] (zf h8 rfl (Enc.erase_enc (x1:(S1 LI))) zA) (H.c35 _ _ Er2) H.g35 (g1 9 (ji (w64 (r2 + 1))) (rf (ji r2)) fun h10=>?_)
 obtain ⟨mk3,Emk3,h⟩:=zb h
 refine zdz (0:Int) h10 rfl h11 Emk3 (gm (rf (oI 11 [] (.of mk3))) fun h3=>yS (yu (r:=11) (x:=3) (v:=_) h3 rfl (fun s3 hz3=>?_)))
 refine ez [(1,.ref (.bx 1) 0 [] (.agg [eL x1.a])),(2,nI),(3,oI 3 [] (.of mk3))] ⟨hz3 1 _ _ h1 (zj rfl (zW (zh me zB))),hz3 2 _ _ h2 rfl,hz3 3 _ _ h3 (zq (r:=11) (p:=[]) rfl rfl)⟩ ?_
 rintro s ⟨h1,h2,h3⟩
 refine .nsq (.seq (.seq (rg (g0 (ji 1) fun h4=>gq (.nsq (.block (.loop ?_)))))))
 exact zlb H x1 F mk3 1 _ ⟨h1,h2,h3,h4⟩ h
end
def e34 (F:Nat):Ent:=ent 34 (fun (x:((S1 LI)×Unit))=>xt F x.1) (fun (r:LI)=>(eL r)) 0 false []
abbrev C34 (D:List V→Option V) (F:Nat):Prop:=∀ (x0:(S1 LI)) r,xt F x0=some r→D [Enc.enc x0]=some (eL r)
theorem p34 {F:Nat}:C34 (e34 F).den F:=fun x0 _ h=>zU (x0,()) h
theorem o34 (hF:zG Try.prog D σ) (H:H34 D σ F):(e34 F).Ok Try.prog:=okZ (f:=34) Try.func34 fun ⟨x0,_⟩ y hy=>cR hF Try.func34 c34 (t34 H x0 _ rfl hy)
def zsR:AC:=(.cond (.t 7) (.seq (rr [jv 2 (.mov (jn 0)),jv 3 (.mov kf)]) .ret) .skip)
def zt9:AC:=(.seq (rr [jv 10 (.load (.ag [.p]) (.t 4)),jx 11 (.call (jf 34) [.t 10]),jv 12 (.load (.ag [.p]) (.t 4)),jx 13 (.call (jf 35) [.t 12]),jv 14 (.idx (.t 11) (.t 13) 1),jl 15 14,jm 2 15,jv 3 (.mov kt)]) .ret)
def zvN:AC:=(.seq (.reg [.clr [4]] [jv 8 (.load (.ag [.s,.p]) (.t 1)),jx 9 (.call (jf 33) [.t 8]),jx 4 (.alloc (.agg [.sl .nl .s 0 []])),jz (.store (.ag [.p]) (.t 4) (.t 9))] []) zt9)
def zuH:AC:=(.seq (.seq (rr [jv 5 (.load (.ag [.s,.p]) (.t 1)),jx 6 (.call (jf 26) [.t 5]),jv 7 (.un .not (.t 6))]) zsR) zvN)
def A10:AC:=(.seq (.reg [.clr [1]] [jx 1 (.box (.t 0)),jv 2 (.mov (jn 0)),jv 3 (.mov kf)] []) zuH)
def zxf:List An:=[⟨0,[.clr [1]],[],[],[]⟩,⟨3,[.clr [4]],[],[],[]⟩]
theorem c10:cq Try.prog Try.f10 zxf=some A10:=by kernel_rfl
structure H10 (D:Den) (σ:Sig) (F:Nat):Prop where
 c26:C26 (D 26) F
 g26:σ 26=some (0,false)
 c33:C33 (D 33) F
 g33:σ 33=some (0,false)
 c34:C34 (D 34) F
 g34:σ 34=some (0,false)
 c35:C35 (D 35) F
 g35:σ 35=some (0,false)
abbrev R10 (r:(Int×Bool)):(Nat→V)→Prop:=RR Try.prog [.tmp 2,.tmp 3] 0 false (.tup [Enc.enc (r.1:Int),Enc.enc (r.2:Bool)])
section
variable {r:(Int×Bool)}
def wQ (F:Nat) (x1:GR):Option (Int×Bool):=
 (vh F x1).bind fun r2=>
 bif (!r2) then
  some (0,false)
 else
  (YA F x1).bind fun r3=>
  (xt F r3).bind fun r4=>
  (xa F r3).bind fun r5=>
  (idx r4 r5).bind fun v6=>
  some (v6,true)
theorem t10 (H:H10 D σ F) (x1:GR) (s:Nat→V) (hs:zr [(0,gV x1)] s) (h:wQ F x1=some r):Run D σ (R10 r) (.run A10 []) s:=by
 unfold wQ at h
 have h0:=hs
 refine .seq (zw (z3 ?_))
 refine ez [(0,_),(1,_)] ⟨za h0 rfl mIE,ze rfl⟩ ?_
 rintro s ⟨h0,h1⟩
 refine xo (gV x1) (zF h0 rfl) h1 rfl (g0 (ji 0) fun h2=>g0 (jb false) fun h3=>gq (.nsq (.seq (.seq (rg (g1 1 (gV x1) (rf (bG 1 x1)) fun h5=>?_))))))
 obtain ⟨r2,Er2,h⟩:=zb h
 refine gcF [Enc.enc (x1:GR)] (zf h5 rfl (Enc.erase_enc (x1:GR)) zA) (H.c26 _ _ Er2) H.g26 (g1 6 (jb (!r2)) (rf (jb r2)) fun h7=>gq (.nsq (zn h7 h (fun h=>?_) (fun h=>?_))))
 · refine .seq (rg (g0 (ji 0) fun h2=>g0 (jb false) fun h3=>gq (.nsq (.ret ?_))))
   obtain rfl:=oi h
   exact rrB (zo h2) (zo h3) rfl
 refine .skip (.nsq (.seq (zw (z3 ?_))))
 refine ez [(1,_),(2,_),(3,_),(4,_)] ⟨za rfl rfl (zj rfl mIE),za h2 rfl mi,za h3 rfl mb,ze rfl⟩ ?_
 rintro s ⟨h1,h2,h3,h4⟩
 refine g1 1 (gV x1) h1 fun h8=>?_
 obtain ⟨r3,Er3,h⟩:=zb h
 refine gcF [Enc.enc (x1:GR)] (zf h8 rfl (Enc.erase_enc (x1:GR)) zA) (H.c33 _ _ Er3) H.g33 (xA h4 (ye (.agg [eL r3.a]) (zF rfl rfl) (zF rfl rfl) (xN (by first | rfl | simp [V.toks,V.tokss,Enc.toks_enc,yd])) (gz [(2,ji 0),(3,jb false),(4,.ref (.bx 4) 0 [] (.agg [eL r3.a]))] ⟨zd h2 rfl,zd h3 rfl,zd rfl rfl⟩ ?_)))
 rintro s ⟨h2,h3,h4⟩
 refine .nsq (.seq (rg (g1 4 (.agg [eL r3.a]) h4 fun h10=>?_)))
 obtain ⟨r4,Er4,h⟩:=zb h
 refine gcF [Enc.enc (r3:(S1 LI))] (zf h10 rfl (Enc.erase_enc (r3:(S1 LI))) zA) (H.c34 _ _ Er4) H.g34 (g1 4 (.agg [eL r3.a]) h4 fun h12=>?_)
 obtain ⟨r5,Er5,h⟩:=zb h
 refine gcF [Enc.enc (r3:(S1 LI))] (zf h12 rfl (Enc.erase_enc (r3:(S1 LI))) zA) (H.c35 _ _ Er5) H.g35 ?_
 obtain ⟨v6,Ev6,h⟩:=zb h
 refine gv (.ref .sh 0 [] (ji v6)) (yn (t:=.sh) (lo:=0) (xs:=r4) rfl rfl Ev6 rfl rfl) fun h14=>g1 14 (ji v6) h14 fun h15=>gm h15 fun h2=>g0 (jb true) fun h3=>gq (.nsq (.ret ?_))
 obtain rfl:=oi h
 exact rrB (zo h2) (zo h3) rfl
end
def e10 (F:Nat):Ent:=ent 10 (fun (x:(GR×Unit))=>wQ F x.1) (fun (r:(Int×Bool))=>(.tup [Enc.enc (r.1:Int),Enc.enc (r.2:Bool)])) 0 false []
abbrev C10 (D:List V→Option V) (F:Nat):Prop:=∀ (x0:GR) r,wQ F x0=some r→D [Enc.enc x0]=some (.tup [Enc.enc (r.1:Int),Enc.enc (r.2:Bool)])
theorem p10 {F:Nat}:C10 (e10 F).den F:=fun x0 _ h=>zU (x0,()) h
theorem o10 (hF:zG Try.prog D σ) (H:H10 D σ F):(e10 F).Ok Try.prog:=okZ (f:=10) Try.func10 fun ⟨x0,_⟩ y hy=>cR hF Try.func10 c10 (t10 H x0 _ rfl hy)
def zsV:AC:=(.seq (rr [jm 6 3,jm 7 3,jk 8 7,jv 9 (.bin .sub (.t 8) (jn 1)),jv 10 (.idx (.t 6) (.t 9) 1),jl 11 10,jm 2 11]) .ret)
def zsd:AC:=(.seq (rr [jv 4 (.load (.ag [.s,.p]) (.t 1)),jx 5 (.call (jf 58) [.t 4]),jm 3 5]) zsV)
def A36:AC:=(.seq (.reg [.clr [1]] [jx 1 (.box (.t 0)),jv 2 (.mov (jn 0))] []) zsd)
def zxl:List An:=[⟨0,[.clr [1]],[],[],[]⟩]
theorem c36:cq Try.prog Try.f36 zxl=some A36:=by kernel_rfl
structure H36 (D:Den) (σ:Sig) (F:Nat):Prop where
 c58:C58 (D 58) F
 g58:σ 58=some (0,false)
abbrev R36 (r:Int):(Nat→V)→Prop:=RR Try.prog [.tmp 2] 0 false (Enc.enc (r:Int))
section
variable {r:Int}
def WL (F:Nat) (x1:GR):Option Int:=
 (Zo F x1).bind fun r2=>
 (idx r2 (w64 ((r2.length:Int) - 1))).bind fun v3=>
 some v3
theorem t36 (H:H36 D σ F) (x1:GR) (s:Nat→V) (hs:zr [(0,gV x1)] s) (h:WL F x1=some r):Run D σ (R36 r) (.run A36 []) s:=by
 unfold WL at h
 have h0:=hs
 refine .seq (zw (z3 ?_))
 refine ez [(0,_),(1,_)] ⟨za h0 rfl mIE,ze rfl⟩ ?_
 rintro s ⟨h0,h1⟩
 refine xo (gV x1) (zF h0 rfl) h1 rfl (g0 (ji 0) fun h2=>gq (.nsq (.seq (rg (g1 1 (gV x1) (rf (bG 1 x1)) fun h4=>?_)))))
 obtain ⟨r2,Er2,h⟩:=zb h
 refine gcF [Enc.enc (x1:GR)] (zf h4 rfl (Enc.erase_enc (x1:GR)) zA) (H.c58 _ _ Er2) H.g58 (gm (rf (eL r2)) fun h3=>gq (.nsq (.seq (rg (gm h3 fun h6=>gm h3 fun h7=>gl r2 h7 fun h8=>g1 8 (ji (w64 ((r2.length:Int) - 1))) h8 fun h9=>?_)))))
 obtain ⟨v3,Ev3,h⟩:=zb h
 refine gv (.ref .sh 0 [] (ji v3)) (yn (t:=.sh) (lo:=0) (xs:=r2) h6 h9 Ev3 rfl rfl) fun h10=>g1 10 (ji v3) h10 fun h11=>gm h11 fun h2=>gq (.nsq (.ret ?_))
 obtain rfl:=oi h
 exact rrA (zo h2) rfl
end
def e36 (F:Nat):Ent:=ent 36 (fun (x:(GR×Unit))=>WL F x.1) (fun (r:Int)=>(Enc.enc (r:Int))) 0 false []
abbrev C36 (D:List V→Option V) (F:Nat):Prop:=∀ (x0:GR) r,WL F x0=some r→D [Enc.enc x0]=some (Enc.enc (r:Int))
theorem p36 {F:Nat}:C36 (e36 F).den F:=fun x0 _ h=>zU (x0,()) h
theorem o36 (hF:zG Try.prog D σ) (H:H36 D σ F):(e36 F).Ok Try.prog:=okZ (f:=36) Try.func36 fun ⟨x0,_⟩ y hy=>cR hF Try.func36 c36 (t36 H x0 _ rfl hy)
def zud:AC:=(.cond (.t 6) (.seq (rr [jv 2 (.mov (jn 0)),jv 3 (.mov kf)]) .ret) .skip)
def zqL:AC:=(.seq (rr [jv 7 (.load (.ag [.s,.p]) (.t 1)),jx 8 (.call (jf 36) [.t 7]),jm 2 8,jv 3 (.mov kt)]) .ret)
def zrV:AC:=(.seq (.seq (rr [jv 4 (.load (.ag [.s,.p]) (.t 1)),jx 5 (.call (jf 28) [.t 4]),jv 6 (.un .not (.t 5))]) zud) zqL)
def A11:AC:=(.seq (.reg [.clr [1]] [jx 1 (.box (.t 0)),jv 2 (.mov (jn 0)),jv 3 (.mov kf)] []) zrV)
def zxW:List An:=[⟨0,[.clr [1]],[],[],[]⟩]
theorem c11:cq Try.prog Try.f11 zxW=some A11:=by kernel_rfl
structure H11 (D:Den) (σ:Sig) (F:Nat):Prop where
 c28:C28 (D 28) F
 g28:σ 28=some (0,false)
 c36:C36 (D 36) F
 g36:σ 36=some (0,false)
abbrev R11 (r:(Int×Bool)):(Nat→V)→Prop:=RR Try.prog [.tmp 2,.tmp 3] 0 false (.tup [Enc.enc (r.1:Int),Enc.enc (r.2:Bool)])
section
variable {r:(Int×Bool)}
def ut (F:Nat) (x1:GR):Option (Int×Bool):=
 (Zu F x1).bind fun r2=>
 bif (!r2) then
  some (0,false)
 else
  (WL F x1).bind fun r3=>
  some (r3,true)
theorem t11 (H:H11 D σ F) (x1:GR) (s:Nat→V) (hs:zr [(0,gV x1)] s) (h:ut F x1=some r):Run D σ (R11 r) (.run A11 []) s:=by
 unfold ut at h
 have h0:=hs
 refine .seq (zw (z3 ?_))
 refine ez [(0,_),(1,_)] ⟨za h0 rfl mIE,ze rfl⟩ ?_
 rintro s ⟨h0,h1⟩
 refine xo (gV x1) (zF h0 rfl) h1 rfl (g0 (ji 0) fun h2=>g0 (jb false) fun h3=>gq (.nsq (.seq (.seq (rg (g1 1 (gV x1) (rf (bG 1 x1)) fun h4=>?_))))))
 obtain ⟨r2,Er2,h⟩:=zb h
 refine gcF [Enc.enc (x1:GR)] (zf h4 rfl (Enc.erase_enc (x1:GR)) zA) (H.c28 _ _ Er2) H.g28 (g1 5 (jb (!r2)) (rf (jb r2)) fun h6=>gq (.nsq (zn h6 h (fun h=>?_) (fun h=>?_))))
 · refine .seq (rg (g0 (ji 0) fun h2=>g0 (jb false) fun h3=>gq (.nsq (.ret ?_))))
   obtain rfl:=oi h
   exact rrB (zo h2) (zo h3) rfl
 refine .skip (.nsq (.seq (rg (g1 1 (gV x1) (rf (bG 1 x1)) fun h7=>?_))))
 obtain ⟨r3,Er3,h⟩:=zb h
 refine gcF [Enc.enc (x1:GR)] (zf h7 rfl (Enc.erase_enc (x1:GR)) zA) (H.c36 _ _ Er3) H.g36 (gm (rf (ji r3)) fun h2=>g0 (jb true) fun h3=>gq (.nsq (.ret ?_)))
 obtain rfl:=oi h
 exact rrB (zo h2) (zo h3) rfl
end
def e11 (F:Nat):Ent:=ent 11 (fun (x:(GR×Unit))=>ut F x.1) (fun (r:(Int×Bool))=>(.tup [Enc.enc (r.1:Int),Enc.enc (r.2:Bool)])) 0 false []
abbrev C11 (D:List V→Option V) (F:Nat):Prop:=∀ (x0:GR) r,ut F x0=some r→D [Enc.enc x0]=some (.tup [Enc.enc (r.1:Int),Enc.enc (r.2:Bool)])
theorem p11 {F:Nat}:C11 (e11 F).den F:=fun x0 _ h=>zU (x0,()) h
theorem o11 (hF:zG Try.prog D σ) (H:H11 D σ F):(e11 F).Ok Try.prog:=okZ (f:=11) Try.func11 fun ⟨x0,_⟩ y hy=>cR hF Try.func11 c11 (t11 H x0 _ rfl hy)
def zqC:AC:=(.seq (rr [jv 3 (.fld (.t 1) 0 0),jv 4 (.load .p (.t 3)),jk 5 4,jm 2 5]) .ret)
def A59:AC:=(.seq (.reg [.clr [1]] [jx 1 (.box (.t 0)),jv 2 (.mov (jn 0))] []) zqC)
def zxQ:List An:=[⟨0,[.clr [1]],[],[],[]⟩]
theorem c59:cq Try.prog Try.f59 zxQ=some A59:=by kernel_rfl
structure H59 (D:Den) (σ:Sig) (F:Nat):Prop where
 mk ::
abbrev R59 (r:Int):(Nat→V)→Prop:=RR Try.prog [.tmp 2] 0 false (Enc.enc (r:Int))
section
variable {r:Int}
def YH (F:Nat) (x1:(S1 LI)):Option Int:=
 some (x1.a.length:Int)
theorem t59 (H:H59 D σ F) (x1:(S1 LI)) (s:Nat→V) (hs:zr [(0,.agg [eL x1.a])] s) (h:YH F x1=some r):Run D σ (R59 r) (.run A59 []) s:=by
 unfold YH at h
 have h0:=hs
 refine .seq (zw (z3 ?_))
 refine ez [(0,_),(1,_)] ⟨za h0 rfl (zW (zh me zB)),ze rfl⟩ ?_
 rintro s ⟨h0,h1⟩
 refine xo (.agg [eL x1.a]) (zF h0 rfl) h1 rfl (g0 (ji 0) fun h2=>gq (.nsq (.seq (rg (g1 1 (.ref (.bx 1) 0 [0] (eL x1.a)) (rf (.ref (.bx 1) 0 [] (.agg [eL x1.a]))) fun h3=>g1 3 (eL x1.a) h3 fun h4=>gl x1.a h4 fun h5=>gm h5 fun h2=>gq (.nsq (.ret ?_)))))))
 obtain rfl:=oi h
 exact rrA (zo h2) rfl
end
def e59 (F:Nat):Ent:=ent 59 (fun (x:((S1 LI)×Unit))=>YH F x.1) (fun (r:Int)=>(Enc.enc (r:Int))) 0 false []
abbrev C59 (D:List V→Option V) (F:Nat):Prop:=∀ (x0:(S1 LI)) r,YH F x0=some r→D [Enc.enc x0]=some (Enc.enc (r:Int))
theorem p59 {F:Nat}:C59 (e59 F).den F:=fun x0 _ h=>zU (x0,()) h
theorem o59 (hF:zG Try.prog D σ) (H:H59 D σ F):(e59 F).Ok Try.prog:=okZ (f:=59) Try.func59 fun ⟨x0,_⟩ y hy=>cR hF Try.func59 c59 (t59 H x0 _ rfl hy)
def zp2:AC:=(.cond (.t 16) .skip (.exit 0))
def zr0:AC:=(rr [jv 27 (.load .p (.t 5)),jm 28 9,jm 29 10,jv 30 (.bin .shl (jn 1) (.t 29)),jv 31 (.bin .andNot (.t 28) (.t 30)),jm 32 10,jx 33 (.callT (.t 27) [.t 31,.t 32] [4,5] [])])
def zuk:AC:=(.seq (rr [jv 23 (.load .p (.t 4)),jm 24 10,jm 25 1,jv 26 (.idx (.t 23) (.t 24) 1),jz (.store .s (.t 26) (.t 25))]) zr0)
def zqG:AC:=(.seq (rr [jv 19 (.load (.ag [.p]) (.t 2)),jv 20 (.load .p (.t 3)),jm 21 9,jx 22 (.call (jf 57) [.t 19,.t 20,.t 21]),jm 10 22]) zuk)
def ztq:AC:=(rr [jv 34 (.bin .add (.t 15) (jn 1)),jm 15 34])
def zrf:AC:=(.seq (.block 1 (.seq (rr [jv 17 (.idx (.t 13) (.t 15) 1),jl 18 17,jm 9 18]) zqG)) ztq)
def zkE:AC:=(.seq (rr [jv 16 (.bin .lss (.t 15) (.t 14))]) (.seq zp2 zrf))
def A60:AC:=(.seq (rr [jv 11 (.load (.ag [.p]) (.t 2)),jm 12 0,jx 13 (.call (jf 56) [.t 11,.t 12]),jk 14 13,jv 15 (.mov (jn 0))]) (.block 0 (.loop zkE)))
def zwX:List An:=[⟨5,[],[],[7000004,7000005],[]⟩]
theorem c60:cq Try.prog Try.f60 zwX=some A60:=by kernel_rfl
structure H60 (D:Den) (σ:Sig) (F:Nat) (w:S1 LI) (d:LI) (rc:Int→Int→LI→Option LI):Prop where
 c56:C56 (D 56) F
 g56:σ 56=some (0,false)
 c57:C57 (D 57) F
 g57:σ 57=some (0,false)
 c60:∀ (a b:Int) (ps r:LI),rc a b ps=some r→D 60 [ji a,ji b,.ref .sh 0 [] (Enc.enc w),.ref .sh 0 [] (Enc.enc d),grL zD (zD + 1) [] ps,grV zD (zD + 2) 60 (Enc.enc w) (Enc.enc d)]=some (.tup [.tup [],.tup [grL zD (zD + 1) [] r,grV zD (zD + 2) 60 (Enc.enc w) (Enc.enc d)]])
 g60:σ 60=some (uA,false)
abbrev R60 (w:S1 LI) (d:LI) (r:LI):(Nat→V)→Prop:=RT Try.prog [] (.tup []) [grL zD (zD + 1) [] r,grV zD (zD + 2) 60 (Enc.enc w) (Enc.enc d)]
section
variable {w:S1 LI} {d:LI} {rc:Int→Int→LI→Option LI} {r:LI}
def uy (F:Nat) (w:S1 LI) (d:LI) (rc:Int→Int→LI→Option LI) (parent:Int) (parts:LI):Nat→LI→Int→Option LI
 | 0,_,_=>none
 | k + 1,ps,i=>
   bif decide (i < (parts.length:Int)) then
    (idx parts i).bind fun p=>
    (xV F w d p).bind fun root=>
    (idx ps root).bind fun _=>
    (Xr .i64 1 root).bind fun q=>
    (rc (yW .i64 p q) root (ps.set root.toNat parent)).bind fun ps2=>
    uy F w d rc parent parts k ps2 (w64 (i + 1))
   else
    some ps
theorem zjZ (H:H60 D σ F w d rc) (parent:Int) (parts:LI):∀ (k:Nat) (ps:LI) (i:Int) (s:Nat→V),zr [(1,ji parent),(2,.ref .sh 0 [] (Enc.enc w)),(3,.ref .sh 0 [] (eL d)),(4,grL zD (zD + 1) [] ps),(5,grV zD (zD + 2) 60 (Enc.enc w) (eL d)),(13,eL parts),(14,ji (parts.length:Int)),(15,ji i)] s →
    uy F w d rc parent parts k ps i=some r→Run D σ (R60 w d r) (.run zkE [.lp zkE,.bk 0]) s:=by
 intro k
 induction k with
 | zero=>intro ps i s _ h;exact nm h
 | succ k ih=>
   intro ps i s hs h
   rw [uy] at h
   obtain ⟨h1,h2,h3,h4,h5,h13,h14,h15⟩:=hs
   refine .seq (rg (g2 15 14 (jb (decide (i < (parts.length:Int)))) h15 h14 fun h16=>gq (.nsq (.seq (zn h16 h (fun h=>?_) (fun h=>?_))))))
   · refine .skip (.nsq (.seq (.block (.seq (rg ?_)))))
     obtain ⟨p,E_p,h⟩:=zb h
     refine gv (.ref .sh 0 [] (ji p)) (yn (t:=.sh) (lo:=0) (xs:=parts) h13 h15 E_p rfl rfl) fun h17=>g1 17 (ji p) h17 fun h18=>gm h18 fun h9=>gq (.nsq (.seq (rg (g1 2 (Enc.enc w) h2 fun h19=>g1 3 (eL d) h3 fun h20=>gm h9 fun h21=>?_))))
     obtain ⟨root,E_root,h⟩:=zb h
     refine gcF [Enc.enc (w:S1 LI),eL d,Enc.enc (p:Int)] (zf h19 rfl (Enc.erase_enc (w:S1 LI)) (zf h20 rfl (Enc.erase_enc (d:LI)) (zf h21 rfl rfl zA))) (H.c57 _ _ _ _ E_root) H.g57 (gm (rf (ji root)) fun h10=>gq (.nsq (.seq (rg ?_))))
     obtain ⟨e,E_e,h⟩:=zb h
     refine g1 4 (oI (zD + 1) [] (.of ps)) h4 fun h23=>gm h10 fun h24=>gm h1 fun h25=>gv (.ref (.at (zD + 1) []) root.toNat [] (ji e)) (xq (o:=.of ps) h23 h24 E_e rfl) fun h26=>ye (ji parent) (zF h26 rfl) (zF h25 rfl) (by refine ⟨by decide,by decide,rfl,rfl,rfl,?_⟩;first | rfl | simp [V.toks,V.tokss,Enc.toks_enc]) ?_
     refine gz [(1,ji parent),(2,.ref .sh 0 [] (Enc.enc w)),(3,.ref .sh 0 [] (eL d)),(4,grL zD (zD + 1) [] (ps.set root.toNat parent)),(5,grV zD (zD + 2) 60 (Enc.enc w) (eL d)),(9,ji p),(10,ji root),(13,eL parts),(14,ji (parts.length:Int)),(15,ji i)] ⟨zd h1 rfl,zd h2 rfl,zd h3 rfl,zd h4 zli,zd h5 zlm,zd h9 rfl,zd h10 rfl,zd h13 uE,zd h14 rfl,zd h15 rfl⟩ ?_
     rintro s ⟨h1,h2,h3,h4,h5,h9,h10,h13,h14,h15⟩
     refine .nsq (rg (g1 5 (.fn 60 [] (grE zD (zD + 2) (Enc.enc w) (eL d))) h5 fun h27=>gm h9 fun h28=>gm h10 fun h29=>?_))
     obtain ⟨q,E_q,h⟩:=zb h
     refine gv (ji q) (uo (x:=jn 1) (y:=.t 29) rfl h29 E_q) fun h30=>g2 28 30 (ji (yW .i64 p q)) h28 h30 fun h31=>gm h10 fun h32=>?_
     obtain ⟨ps2,E_ps2,h⟩:=zb h
     refine zmv (xs:=ps.set root.toNat parent) (ys:=ps2) (vs:=[ji (yW .i64 p q),ji root]) (al:=false) h27 h4 h5 (by decide) (by decide) (zJ h31 rfl (zJ h32 rfl yw)) rfl (fun _=>rfl) (H.c60 _ _ _ _ E_ps2) H.g60 (fun s1 k4 k5 kk=>?_)
     refine gz [(1,ji parent),(2,.ref .sh 0 [] (Enc.enc w)),(3,.ref .sh 0 [] (eL d)),(4,grL zD (zD + 1) [] ps2),(5,grV zD (zD + 2) 60 (Enc.enc w) (eL d)),(13,eL parts),(14,ji (parts.length:Int)),(15,ji i)] ⟨kk 1 _ h1 rfl (fun _=>rfl),kk 2 _ h2 rfl (fun _=>rfl),kk 3 _ h3 rfl (fun _=>rfl),k4,k5,kk 13 _ h13 rfl (fun f=>Enc.map_enc f parts),kk 14 _ h14 rfl (fun _=>rfl),kk 15 _ h15 rfl (fun _=>rfl)⟩ ?_
     rintro s ⟨h1,h2,h3,h4,h5,h13,h14,h15⟩
     refine .nbk (.nsq (rg (g1 15 (ji (w64 (i + 1))) h15 fun h34=>gm h34 fun h15=>gq (.nlp ?_))))
     exact ih ps2 (w64 (i + 1)) _ ⟨h1,h2,h3,h4,h5,h13,h14,h15⟩ h
   · have hr:=Option.some.inj h
     subst hr
     refine .exit (.esq (.elp (.ebk (.nil ⟨rfl,?_⟩))))
     intro u hu
     simp only [z2,List.not_mem_nil,or_false] at hu
     rcases hu with rfl | rfl
     · exact ⟨4,h4⟩
     · exact ⟨5,h5⟩
def Wh (F:Nat) (w:S1 LI) (d:LI) (rc:Int→Int→LI→Option LI) (x1:Int) (x2:Int) (x3:LI):Option LI:=
 (Zb F w x1).bind fun parts=>
 uy F w d rc x2 parts F x3 0
theorem t60 (H:H60 D σ F w d rc) (x1 x2:Int) (x3:LI) (s:Nat→V) (hs:zr [(0,ji x1),(1,ji x2),(2,.ref .sh 0 [] (Enc.enc w)),(3,.ref .sh 0 [] (eL d)),(4,grL zD (zD + 1) [] x3),(5,grV zD (zD + 2) 60 (Enc.enc w) (eL d))] s) (h:Wh F w d rc x1 x2 x3=some r):Run D σ (R60 w d r) (.run A60 []) s:=by
 unfold Wh at h
 obtain ⟨h0,h1,h2,h3,h4,h5⟩:=hs
 refine .seq (rg (g1 2 (Enc.enc w) h2 fun h11=>gm h0 fun h12=>?_))
 obtain ⟨parts,E_parts,h⟩:=zb h
 refine gcF [Enc.enc (w:S1 LI),Enc.enc (x1:Int)] (zf h11 rfl (Enc.erase_enc (w:S1 LI)) (zf h12 rfl rfl zA)) (H.c56 _ _ _ E_parts) H.g56 (gl parts rfl fun h14=>g0 (ji 0) fun h15=>gq (.nsq (.block (.loop ?_))))
 exact zjZ H x2 parts F x3 0 _ ⟨h1,h2,h3,h4,h5,rfl,h14,h15⟩ h
end
def wR (F:Nat) (w:S1 LI) (d:LI):Nat→Int→Int→LI→Option LI
 | 0,_,_,_=>none
 | k + 1,a,b,ps=>Wh F w d (wR F w d k) a b ps
def U5 (F:Nat) (w:S1 LI) (d:LI) (a b:Int) (ps:LI):Option LI:=wR F w d F a b ps
def JL (f:S1 LI→LI→Int→Int→LI→Option LI) (x:Int×Int×Rf (S1 LI)×Rf LI×Pb×Gb 60 (S1 LI) LI×Unit):Option (Pb×Gb 60 (S1 LI) LI):=
 if x.2.2.2.2.2.1.a.a=x.2.2.1.v.a∧x.2.2.2.2.2.1.b=x.2.2.2.1.v then (f x.2.2.1.v x.2.2.2.1.v x.1 x.2.1 x.2.2.2.2.1.v).map fun r=>(⟨r⟩,x.2.2.2.2.2.1) else none
def e60 (F k:Nat):Ent:=ent 60 (JL (fun w d=>wR F w d k)) (fun r=>.tup [.tup [],.tup [Arg.arg r.1,Arg.arg r.2]]) uA false []
theorem p60 {F k:Nat} {w:S1 LI} {d:LI} {a b:Int} {ps r:LI} (h:wR F w d k a b ps=some r):(e60 F k).den [ji a,ji b,.ref .sh 0 [] (Enc.enc w),.ref .sh 0 [] (Enc.enc d),grL zD (zD + 1) [] ps,grV zD (zD + 2) 60 (Enc.enc w) (Enc.enc d)]=some (.tup [.tup [],.tup [grL zD (zD + 1) [] r,grV zD (zD + 2) 60 (Enc.enc w) (Enc.enc d)]]):=
 zU (f:=JL (fun w d=>wR F w d k)) (t:=fun r=>.tup [.tup [],.tup [Arg.arg r.1,Arg.arg r.2]]) ((a,b,⟨w⟩,⟨d⟩,⟨ps⟩,⟨w,d⟩,()):Int×Int×Rf (S1 LI)×Rf LI×Pb×Gb 60 (S1 LI) LI×Unit) (r:=(⟨r⟩,⟨w,d⟩)) (by simp [JL,h])
theorem z60 {F:Nat}:(e60 F 0).Ok Try.prog:=by
 refine Jt (f:=60) (show unk 60=60 from rfl) (fun args r h=>?_) ⟨Try.f60,Try.func60,rfl,rfl⟩
 obtain ⟨x,y,rfl,hy,rfl⟩:=Xq h
 simp only [JL,wR,Option.map_none] at hy
 split at hy <;> cases hy
theorem o60 {D:Den} {σ:Sig} {F k:Nat} (hF:zG Try.prog D σ) (H:∀ w d,H60 D σ F w d (wR F w d k)):(e60 F (k + 1)).Ok Try.prog:=by
 refine Jt (f:=60) (show unk 60=60 from rfl) (fun args r h=>?_) ⟨Try.f60,Try.func60,rfl,rfl⟩
 obtain ⟨⟨a,b,⟨w⟩,⟨d⟩,⟨ps⟩,⟨⟨w'⟩,d'⟩,_⟩,y,rfl,hy,rfl⟩:=Xq h
 simp only [JL] at hy
 split at hy
 · rename_i e
   obtain ⟨e1,rfl⟩:=e
   obtain ⟨w⟩:=w
   simp only at e1
   subst e1
   simp only [zZ] at hy
   obtain ⟨z,hz,rfl⟩:=hy
   exact KG hF (by kernel_rfl) Try.func60 rfl c60 rfl (show 6≤Try.f60.ntmps by decide) (by decide) (t60 (H _ _) a b ps _ ⟨rfl,rfl,rfl,rfl,rfl,rfl⟩ hz)
 · cases hy
def ztm:AC:=(.seq (rr [jv 16 (.load .p (.t 4)),jm 2 16]) .ret)
def zux:AC:=(.seq (rr [jv 12 (.load .p (.t 5)),jv 13 (.load (.ag [.p]) (.t 1)),jx 14 (.call (jf 35) [.t 13]),jx 15 (.callT (.t 12) [.t 14,jn (-1)] [4,5] [])]) ztm)
def zqi:AC:=(.seq (rr [jv 11 (.fn 60 [] [.t 1,.t 3,.t 4,.t 5]),jz (.storeK .p (.t 5) (.t 11))]) zux)
def zqp:AC:=(.seq (.reg [.clr [5],.frz 1,.frz 3] [jx 5 (.alloc .dead)] []) zqi)
def zrD:AC:=(.seq (.reg [.clr [4,10]] [jv 8 (.load (.ag [.p]) (.t 1)),jx 9 (.call (jf 59) [.t 8]),jx 10 (.mk (.t 9) i0 i0),jx 4 (.alloc (.sl .nl .s 0 [])),jz (.store .p (.t 4) (.t 10))] []) zqp)
def zua:AC:=(.seq (.reg [.clr [3]] [jv 6 (.load (.ag [.p]) (.t 1)),jx 7 (.call (jf 34) [.t 6]),jx 3 (.alloc (.sl .nl .s 0 [])),jz (.store .p (.t 3) (.t 7))] []) zrD)
def A37:AC:=(.seq (.reg [.clr [1]] [jx 1 (.box (.t 0)),jv 2 (.mov (.k (.sl .nl .s 0 [])))] []) zua)
def zx0:List An:=[⟨0,[.clr [1]],[],[],[]⟩,⟨1,[.clr [3]],[],[],[]⟩,⟨2,[.clr [4,10]],[],[],[]⟩,⟨3,[.clr [5],.frz 1,.frz 3],[],[],[]⟩,⟨4,[],[],[5001],[]⟩,⟨5,[],[],[4000004,4000005],[]⟩]
theorem c37:cq Try.prog Try.f37 zx0=some A37:=by kernel_rfl
structure H37 (D:Den) (σ:Sig) (F:Nat):Prop where
 c34:C34 (D 34) F
 g34:σ 34=some (0,false)
 c59:C59 (D 59) F
 g59:σ 59=some (0,false)
 c35:C35 (D 35) F
 g35:σ 35=some (0,false)
 c60:∀ (w:S1 LI) (d:LI) (a b:Int) (ps r:LI),U5 F w d a b ps=some r→D 60 [ji a,ji b,.ref .sh 0 [] (Enc.enc w),.ref .sh 0 [] (Enc.enc d),grL zD (zD + 1) [] ps,grV zD (zD + 2) 60 (Enc.enc w) (Enc.enc d)]=some (.tup [.tup [],.tup [grL zD (zD + 1) [] r,grV zD (zD + 2) 60 (Enc.enc w) (Enc.enc d)]])
 g60:σ 60=some (uA,false)
abbrev R37 (r:LI):(Nat→V)→Prop:=RR Try.prog [.tmp 2] 0 false (eL r)
section
variable {r:LI}
def vA (F:Nat) (x1:(S1 LI)):Option LI:=
 (xt F x1).bind fun r1=>
 (YH F x1).bind fun r2=>
 (mkN r2 (0:Int)).bind fun ap3=>
 (xa F x1).bind fun r4=>
 (U5 F x1 r1 r4 (-1) ap3).bind fun r5=>
 some r5
theorem t37 (H:H37 D σ F) (x1:(S1 LI)) (s:Nat→V) (h0:s 0=Enc.enc x1) (h:vA F x1=some r):Run D σ (R37 r) (.run A37 []) s:=by
 unfold vA at h
 refine .seq (zw (z3 ?_))
 refine ez [(0,_),(1,_)] ⟨za h0 rfl me,ze rfl⟩ ?_
 rintro s ⟨h0,h1⟩
 refine xo (Enc.enc x1) (zF h0 rfl) h1 rfl (g0 (.sl .nl .s 0 []) fun h2=>gz [(1,.ref (.bx 1) 0 [] (Enc.enc x1))] rfl ?_)
 rintro s h1
 refine .nsq (.seq (zw (z3 ?_)))
 refine ez [(1,_),(3,_)] ⟨za h1 rfl (zj rfl me),ze rfl⟩ ?_
 rintro s ⟨h1,h3⟩
 refine g1 1 (Enc.enc x1) h1 fun h6=>?_
 obtain ⟨r1,Er1,h⟩:=zb h
 refine gcF [Enc.enc (x1:S1 LI)] (zf h6 rfl (Enc.erase_enc (x1:S1 LI)) zA) (H.c34 _ _ Er1) H.g34 (xA h3 (ye (eL r1) (zF (v:=.ref (.bx 3) 0 [] (.sl .nl .s 0 [])) rfl rfl) (zF (v:=eL r1) rfl rfl) ⟨by decide,by decide,rfl,rfl,rfl,by simp [Enc.toks_enc]⟩ (gz [(1,.ref (.bx 1) 0 [] (Enc.enc x1)),(3,.ref (.bx 3) 0 [] (eL r1))] ⟨zd h1 (zH rfl rfl (Enc.mut_enc _ _ _ _ x1)),zd (v:=.ref (.bx 3) 0 [] (.sl .nl .s 0 [])) rfl rfl⟩ ?_)))
 rintro s ⟨h1,h3⟩
 refine .nsq (.seq (zw (z3 ?_)))
 refine ez [(1,_),(3,_),(4,_),(10,_)] ⟨za h1 rfl (zj rfl me),za h3 rfl (zj rfl me),ze rfl,ze rfl⟩ ?_
 rintro s ⟨h1,h3,h4,h10⟩
 refine g1 1 (Enc.enc x1) h1 fun h8=>?_
 obtain ⟨r2,Er2,h⟩:=zb h
 refine gcF [Enc.enc (x1:S1 LI)] (zf h8 rfl (Enc.erase_enc (x1:S1 LI)) zA) (H.c59 _ _ Er2) H.g59 ?_
 obtain ⟨ap3,Eap3,h⟩:=zb h
 refine zdz (0:Int) rfl rfl h10 Eap3 (xA h4 (ye (oI 10 [] (.of ap3)) (zF (v:=.ref (.bx 4) 0 [] (.sl .nl .s 0 [])) rfl rfl) (zF (v:=oI 10 [] (.of ap3)) rfl rfl) ⟨by decide,by decide,rfl,rfl,rfl,by rw [z6];rfl⟩ (gz [(1,.ref (.bx 1) 0 [] (Enc.enc x1)),(3,.ref (.bx 3) 0 [] (eL r1)),(4,grL 4 10 [] ap3)] ⟨zd h1 (zH rfl rfl (Enc.mut_enc _ _ _ _ x1)),zd h3 (zH rfl rfl (Enc.mut_enc _ _ _ _ r1)),zd (v:=.ref (.bx 4) 0 [] (.sl .nl .s 0 [])) rfl rfl⟩ ?_)))
 rintro s ⟨h1,h3,h4⟩
 refine .nsq (.seq (zw (z3 (Uy (x:=1) [.bx 1] (za h1 rfl (zj rfl me)) (zdt (x:=x1)) (fun s1 g1'=>(Uy (x:=3) [.bx 3] (g1' 3 _ _ (za h3 rfl (zj rfl me)) (xC rfl (Enc.frz_enc _ r1) rfl)) (zdt (x:=r1)) (fun s2 g2'=>?_)))))))
 refine ez [(1,.ref .sh 0 [] (Enc.enc x1)),(3,.ref .sh 0 [] (eL r1)),(4,grL 4 10 [] ap3),(5,.gone)] ⟨g2' 1 _ _ (g1' 1 _ _ (za h1 rfl (zj rfl me)) zgJ) rfl,g2' 3 _ _ (g1' 3 _ _ (za h3 rfl (zj rfl me)) (xC rfl (Enc.frz_enc _ r1) rfl)) zgJ,g2' 4 _ _ (g1' 4 _ _ (za h4 rfl (zj rfl (zq rfl rfl))) (zgM rfl rfl rfl)) (zgM rfl rfl rfl),g2' 5 _ _ (g1' 5 _ _ (ze rfl) rfl) rfl⟩ ?_
 rintro s ⟨h1,h3,h4,h5⟩
 refine xA h5 (gz [(1,.ref .sh 0 [] (Enc.enc x1)),(3,.ref .sh 0 [] (eL r1)),(4,grL 4 10 [] ap3),(5,.ref (.bx 5) 0 [] .dead)] ⟨h1,h3,h4,rfl⟩ ?_)
 rintro s ⟨h1,h3,h4,h5⟩
 refine .nsq (.seq (rg (gv (.fn 60 [] [.ref .sh 0 [] (Enc.enc x1),.ref .sh 0 [] (eL r1),grL 4 10 [] ap3,.ref (.bx 5) 0 [] .dead]) (znM h1 h3 h4 h5 rfl rfl rfl rfl) fun h11=>?_)))
 refine zk6 (cw:=Enc.enc x1) (cd:=eL r1) (p:=4) (q:=5) (c2:=oI 10 [] (.of ap3)) (zF h5 rfl) (zF h11 rfl) rfl (gz [(1,.ref .sh 0 [] (Enc.enc x1)),(4,grL 4 10 [] ap3),(5,grV 4 5 60 (Enc.enc x1) (eL r1))] ⟨zd h1 rfl,zd h4 (zH rfl rfl (wH rfl rfl)),zd h5 rfl⟩ ?_)
 rintro s ⟨h1,h4,h5⟩
 refine .nsq (.seq (rg (g1 5 (.fn 60 [] (grE 4 5 (Enc.enc x1) (eL r1))) h5 fun h12=>g1 1 (Enc.enc x1) h1 fun h13=>?_)))
 obtain ⟨r4,Er4,h⟩:=zb h
 refine gcF [Enc.enc (x1:S1 LI)] (zf h13 rfl (Enc.erase_enc (x1:S1 LI)) zA) (H.c35 _ _ Er4) H.g35 ?_
 obtain ⟨r5,Er5,h⟩:=zb h
 refine zmv (xs:=ap3) (ys:=r5) (vs:=[ji r4,ji (-1)]) (al:=false) h12 h4 h5 (by decide) (by decide) (zJ rfl rfl (zJ rfl rfl yw)) rfl (fun _=>rfl) (H.c60 _ _ _ _ _ _ Er5) H.g60 (fun s1 k4 k5 kk=>gz [(4,grL 4 10 [] r5)] k4 ?_)
 rintro s h4
 refine .nsq (.seq (rg (g1 4 (oI 10 [] (.of r5)) h4 fun h16=>gm h16 fun h2=>gq (.nsq (.ret ?_)))))
 obtain rfl:=oi h
 exact rrA (zo h2) rfl
end
def e37 (F:Nat):Ent:=ent 37 (fun (x:((S1 LI)×Unit))=>vA F x.1) (fun (r:LI)=>(eL r)) 0 false []
abbrev C37 (D:List V→Option V) (F:Nat):Prop:=∀ (x0:(S1 LI)) r,vA F x0=some r→D [Enc.enc x0]=some (eL r)
theorem p37 {F:Nat}:C37 (e37 F).den F:=fun x0 _ h=>zU (x0,()) h
theorem o37 (hF:zG Try.prog D σ) (H:H37 D σ F):(e37 F).Ok Try.prog:=okZ (f:=37) Try.func37 fun ⟨x0,_⟩ y hy=>cR hF Try.func37 c37 (t37 H x0 _ rfl hy)
def zsZ:AC:=(.cond (.t 6) (.seq (rr [jv 2 (.mov (.k (.sl .nl .s 0 []))),jv 3 (.mov kf)]) .ret) .skip)
def zrw:AC:=(.seq (rr [jv 7 (.load (.ag [.s,.p]) (.t 1)),jx 8 (.call (jf 33) [.t 7]),jx 9 (.call (jf 37) [.t 8]),jm 2 9,jv 3 (.mov kt)]) .ret)
def zqr:AC:=(.seq (.seq (rr [jv 4 (.load (.ag [.s,.p]) (.t 1)),jx 5 (.call (jf 26) [.t 4]),jv 6 (.un .not (.t 5))]) zsZ) zrw)
def A12:AC:=(.seq (.reg [.clr [1]] [jx 1 (.box (.t 0)),jv 2 (.mov (.k (.sl .nl .s 0 []))),jv 3 (.mov kf)] []) zqr)
def zwq:List An:=[⟨0,[.clr [1]],[],[],[]⟩]
theorem c12:cq Try.prog Try.f12 zwq=some A12:=by kernel_rfl
structure H12 (D:Den) (σ:Sig) (F:Nat):Prop where
 c26:C26 (D 26) F
 g26:σ 26=some (0,false)
 c33:C33 (D 33) F
 g33:σ 33=some (0,false)
 c37:C37 (D 37) F
 g37:σ 37=some (0,false)
abbrev R12 (r:(LI×Bool)):(Nat→V)→Prop:=RR Try.prog [.tmp 2,.tmp 3] 0 true (.tup [eL r.1,Enc.enc (r.2:Bool)])
section
variable {r:(LI×Bool)}
def Zm (F:Nat) (x1:GR):Option (LI×Bool):=
 (vh F x1).bind fun r2=>
 bif (!r2) then
  some ([],false)
 else
  (YA F x1).bind fun r3=>
  (vA F r3).bind fun r4=>
  some (r4,true)
theorem t12 (H:H12 D σ F) (x1:GR) (s:Nat→V) (hs:zr [(0,gV x1)] s) (h:Zm F x1=some r):Run D σ (R12 r) (.run A12 []) s:=by
 unfold Zm at h
 have h0:=hs
 refine .seq (zw (z3 ?_))
 refine ez [(0,_),(1,_)] ⟨za h0 rfl mIE,ze rfl⟩ ?_
 rintro s ⟨h0,h1⟩
 refine xo (gV x1) (zF h0 rfl) h1 rfl (g0 nI fun h2=>g0 (jb false) fun h3=>gq (.nsq (.seq (.seq (rg (g1 1 (gV x1) (rf (bG 1 x1)) fun h4=>?_))))))
 obtain ⟨r2,Er2,h⟩:=zb h
 refine gcF [Enc.enc (x1:GR)] (zf h4 rfl (Enc.erase_enc (x1:GR)) zA) (H.c26 _ _ Er2) H.g26 (g1 5 (jb (!r2)) (rf (jb r2)) fun h6=>gq (.nsq (zn h6 h (fun h=>?_) (fun h=>?_))))
 · refine .seq (rg (g0 nI fun h2=>g0 (jb false) fun h3=>gq (.nsq (.ret ?_))))
   obtain rfl:=oi h
   exact rrB (zo h2) (zo h3) (ue (Y9 (xd (wy (o:=(.nil:NL Int)) (t:=.nl)) (xd (w6 (x:=(false:Bool))) Zr))))
 refine .skip (.nsq (.seq (rg (g1 1 (gV x1) (rf (bG 1 x1)) fun h7=>?_))))
 obtain ⟨r3,Er3,h⟩:=zb h
 refine gcF [Enc.enc (x1:GR)] (zf h7 rfl (Enc.erase_enc (x1:GR)) zA) (H.c33 _ _ Er3) H.g33 ?_
 obtain ⟨r4,Er4,h⟩:=zb h
 refine gcF [Enc.enc (r3:(S1 LI))] (zf (v:=.agg [eL r3.a]) rfl rfl (Enc.erase_enc (r3:(S1 LI))) zA) (H.c37 _ _ Er4) H.g37 (gm (rf (eL r4)) fun h2=>g0 (jb true) fun h3=>gq (.nsq (.ret ?_)))
 obtain rfl:=oi h
 exact rrB (zo h2) (zo h3) (ue (Y9 (xd (w6 (x:=(r4:LI))) (xd (w6 (x:=(true:Bool))) Zr))))
end
def e12 (F:Nat):Ent:=ent 12 (fun (x:(GR×Unit))=>Zm F x.1) (fun (r:(LI×Bool))=>(.tup [eL r.1,Enc.enc (r.2:Bool)])) 0 true []
abbrev C12 (D:List V→Option V) (F:Nat):Prop:=∀ (x0:GR) r,Zm F x0=some r→D [Enc.enc x0]=some (.tup [eL r.1,Enc.enc (r.2:Bool)])
theorem p12 {F:Nat}:C12 (e12 F).den F:=fun x0 _ h=>zU (x0,()) h
theorem o12 (hF:zG Try.prog D σ) (H:H12 D σ F):(e12 F).Ok Try.prog:=okZ (f:=12) Try.func12 fun ⟨x0,_⟩ y hy=>cR hF Try.func12 c12 (t12 H x0 _ rfl hy)
def zm4:AC:=(.seq (.reg [.clr [11,15,18,19]] [jx 11 (.lit (.int .u8 (.ofNat 0)) 0 []),jm 12 0,jm 13 1,jv 14 (.slice (.t 12) (some (.t 13)) none 1),jx 15 (.app .s (.t 11) (.t 14)),jm 16 1,jv 17 (.conv .u8 (.t 16)),jx 18 (.lit (.int .u8 (.ofNat 0)) 1 [(0,0,.t 17)]),jx 19 (.app .s (.t 15) (.t 18)),jm 4 19] [.home 19 4]) .ret)
def ztu:AC:=(.cond (.t 8) (rr [jm 9 0,jk 10 9,jm 1 10]) .skip)
def zuX:AC:=(.seq (.seq (rr [jm 5 1,jm 6 0,jk 7 6,jv 8 (.bin .gtr (.t 5) (.t 7))]) ztu) zm4)
def A15:AC:=(.seq (rr [jv 4 (.mov (.k (.sl .nl .s 0 [])))]) zuX)
def zxG:List An:=[⟨3,[.clr [11,15,18,19]],[],[],[.home 19 4]⟩]
theorem c15:cq Try.prog Try.f15 zxG=some A15:=by kernel_rfl
structure H15 (D:Den) (σ:Sig) (F:Nat):Prop where
 mk ::
abbrev R15 (r:LB):(Nat→V)→Prop:=RR Try.prog [.tmp 4] 0 false (eB r)
section
variable {r:LB}
def Wy (F:Nat) (x1:LB)  (x3:Int):Option LB:=
 (sub x1 x3 (x1.length:Int)).bind fun sub4=>
 (uQ [] sub4).bind fun ap5=>
 (uQ ap5 [(Kd.mk (IntKind.u8.wrap x3):Kd .u8)]).bind fun ap6=>
 some ap6
theorem zem (H:H15 D σ F) (x1:LB)  (x3:Int) (s:Nat→V) (hs:zr [(0,eB x1),(1,ji x3),(4,.sl .nl (Enc.shp (Kd .u8)) 0 [])] s) (h:Wy F x1  x3=some r):Run D σ (R15 r) (.nrm [.sq zm4]) s:=by
 unfold Wy at h
 obtain ⟨h0,h1,h4⟩:=hs
 refine .nsq (.seq (zw (z3 ?_)))
 refine ez [(0,_),(1,_),(4,_),(11,_),(15,_),(18,_),(19,_)] ⟨za h0 rfl me,za h1 rfl mi,za h4 rfl rfl,ze rfl,ze rfl,ze rfl,ze rfl⟩ ?_
 rintro s ⟨h0,h1,h4,h11,h15,h18,h19⟩
 refine xI [] [] trivial rfl rfl h11 (gm h0 fun h12=>gm h1 fun h13=>?_)
 obtain ⟨sub4,Esub4,h⟩:=zb h
 refine gv (eB sub4) (UV (xs:=x1) h12 (YY h13) (YQ) Esub4 rfl) fun h14=>?_
 obtain ⟨ap5,Eap5,h⟩:=zb h
 refine XR (q:=11) (p:=[]) (o:=.of ([]:LB)) (ys:=(sub4:LB)) (t2:=.sh) (lo2:=0) rfl h14 rfl h15 (Z4 (o:=.of ([]:LB)) Eap5 trivial) (fun s2 ha2=>gm (show s2 1=(ji x3) from yh ha2 h1 mi) fun h16=>g1 16 (.int .u8 (IntKind.u8.wrap x3)) h16 fun h17=>xI [(17,.int .u8 (IntKind.u8.wrap x3))] [Enc.enc ((Kd.mk (IntKind.u8.wrap x3):Kd .u8):(Kd .u8))] h17 rfl rfl (show s2 18 = .gone from yh ha2 h18 rfl) ?_)
 obtain ⟨ap6,Eap6,h⟩:=zb h
 refine XR (q:=15) (p:=[]) (o:=.of (ap5:LB)) (ys:=([(Kd.mk (IntKind.u8.wrap x3):Kd .u8)]:LB)) (t2:=.at 18 []) (lo2:=0) rfl rfl rfl (show s2 19 = .gone from yh ha2 h19 rfl) (Z4 (o:=.of (ap5:LB)) Eap6 trivial) (fun s3 ha3=>gm (rf (zu (.at 19 []) (.of (ap6:LB)))) fun h4=>yS (yu (r:=19) (x:=4) (v:=_) h4 rfl (fun s4 hz4=>?_)))
 refine ez [(4,zu (.at 4 []) (.of (ap6:LB)))] (hz4 4 _ _ h4 (zq (r:=19) (p:=[]) rfl rfl)) ?_
 rintro s h4
 refine .nsq (.ret ?_)
 obtain rfl:=oi h
 exact rrA (zo h4) (wY (wy (o:=.of ap6)) (xD rfl))
def J0 (F:Nat) (x1:LB) (x2:Int):Option LB:=
 bif decide (x2 > (x1.length:Int)) then
  Wy F x1 (x1.length:Int)
 else
  Wy F x1 x2
theorem t15 (H:H15 D σ F) (x1:LB) (x2:Int) (s:Nat→V) (hs:zr [(0,eB x1),(1,ji x2)] s) (h:J0 F x1 x2=some r):Run D σ (R15 r) (.run A15 []) s:=by
 unfold J0 at h
 obtain ⟨h0,h1⟩:=hs
 refine .seq (rg (g0 (.sl .nl (Enc.shp (Kd .u8)) 0 []) fun h4=>gq (.nsq (.seq (.seq (rg (gm h1 fun h5=>gm h0 fun h6=>gl x1 h6 fun h7=>g2 5 7 (jb (decide (x2 > (x1.length:Int)))) h5 h7 fun h8=>gq (.nsq (zn h8 h (fun h=>?_) (fun h=>?_))))))))))
 · refine rg (gm h0 fun h9=>gl x1 h9 fun h10=>gm h10 fun h1=>gq ?_)
   exact zem H x1 (x1.length:Int) _ ⟨h0,h1,h4⟩ h
 refine .skip ?_
 exact zem H x1 x2 _ ⟨h0,h1,h4⟩ h
end
def e15 (F:Nat):Ent:=ent 15 (fun (x:(LB×Int×Unit))=>J0 F x.1 x.2.1) (fun (r:LB)=>(eB r)) 0 false []
abbrev C15 (D:List V→Option V) (F:Nat):Prop:=∀ (x0:LB) (x1:Int) r,J0 F x0 x1=some r→D [Enc.enc x0,Enc.enc x1]=some (eB r)
theorem p15 {F:Nat}:C15 (e15 F).den F:=fun x0 x1 _ h=>zU (x0,x1,()) h
theorem o15 (hF:zG Try.prog D σ) (H:H15 D σ F):(e15 F).Ok Try.prog:=okZ (f:=15) Try.func15 fun ⟨x0,x1,_⟩ y hy=>cR hF Try.func15 c15 (t15 H x0 x1 _ ⟨rfl,rfl⟩ hy)
def zp3:AC:=(.seq (.reg [.clr [13]] [jx 11 (.vN (.load (.ag [.s,.p]) (.t 5)) [4]),jm 12 4,jx 13 (.litS i0 8 [(0,0,jn 0),(1,1,jn 1),(2,2,jn 2),(3,3,jn 3),(4,4,jn 4),(5,5,jn 8),(6,6,jn 9),(7,7,jn (-1))]),jm 14 4,jx 15 (.callT (jf 24) [.t 14,jn 24] [4] []),jx 16 (.vN (.bin .quo (.t 15) (jn 11)) [4]),jx 17 (.vN (.bin .add (jn 6) (.t 16)) [4]),jx 18 (.vN (.slice (.t 13) none (some (.t 17)) 1) [4]),jx 19 (.callT (jf 39) [.t 12,.t 18] [4] []),jz (.store (.ag [.s,.p]) (.t 2) (.t 11)),jm 3 19] []) .ret)
def zup:AC:=(.seq (.reg [.clr [5]] [jm 9 4,jx 10 (.callT (jf 21) [.t 9] [4] []),jx 5 (.alloc (.agg [i0,.sl .nl (.ag [.s,.s]) 0 []])),jz (.store (.ag [.s,.p]) (.t 5) (.t 10))] []) zp3)
def zum:AC:=(.seq (.reg [.clr [8]] [jm 6 0,jv 7 (.bld (.agg [.sl .nl .s 0 [],i0,.int .u64 (.ofNat 0)]) [(0,0,.t 6)]),jx 8 (.box (.t 7)),jm 4 8] []) zup)
def A14:AC:=(.seq (.reg [.clr [2]] [jx 2 (.alloc (.agg [i0,.sl .nl (.ag [.s,.s]) 0 []])),jv 3 (.mov (jn 0))] []) zum)
def zxu:List An:=[⟨0,[.clr [2]],[],[],[]⟩,⟨1,[.clr [8]],[],[],[]⟩,⟨2,[.clr [5]],[],[2000004],[]⟩,⟨3,[.clr [13]],[],[5000004,1000004,9000004,6000004,7000004,8000004,6002],[]⟩]
theorem c14:cq Try.prog Try.f14 zxu=some A14:=by kernel_rfl
structure H14 (D:Den) (σ:Sig) (F:Nat):Prop where
 c21:C21 (D 21) F
 g21:σ 21=some (uA,false)
 c24:C24 (D 24) F
 g24:σ 24=some (uA,false)
 c39:C39 (D 39) F
 g39:σ 39=some (uA,false)
abbrev R14 (r:(GR×Int)):(Nat→V)→Prop:=RR Try.prog [.cell 2 26,.tmp 3] 0 true (.tup [Enc.enc (r.1:GR),Enc.enc (r.2:Int)])
section
variable {r:(GR×Int)}
def wG (F:Nat) (x1:LB):Option (GR×Int):=
 (vu F (cu x1 0 0)).bind fun r2=>
 (yc F (Cu.mk r2.2) 24).bind fun r3=>
 (sub [0,1,2,3,4,8,9,(-1)] 0 (w64 (6 + (w64 (r3.1.tdiv 11))))).bind fun sub4=>
 (y7 F (Cu.mk r3.2) sub4).bind fun r5=>
 some (r2.1,r5.1)
theorem t14 (H:H14 D σ F) (x1:LB) (s:Nat→V) (hs:zr [(0,eB x1)] s) (h:wG F x1=some r):Run D σ (R14 r) (.run A14 []) s:=by
 unfold wG at h
 have h0:=hs
 refine .seq (zw (z3 ?_))
 refine ez [(0,_),(2,_)] ⟨za h0 rfl me,ze rfl⟩ ?_
 rintro s ⟨h0,h2⟩
 refine xA h2 (g0 (ji 0) fun h3=>gq (.nsq (.seq (zw (z3 ?_)))))
 refine ez [(0,_),(2,_),(3,_),(8,_)] ⟨za h0 rfl me,za rfl rfl (zj rfl (mIx rfl)),za h3 rfl mi,ze rfl⟩ ?_
 rintro s ⟨h0,h2,h3,h8⟩
 refine gm h0 fun h6=>g1 6 (.agg [eB x1,ji 0,.int .u64 0]) h6 fun h7=>xo (.agg [eB x1,ji 0,.int .u64 0]) (zF h7 rfl) h8 rfl (gm (rf (.ref (.bx 8) 0 [] (.agg [eB x1,ji 0,.int .u64 0]))) fun h4=>gq (.nsq (.seq (zw (z3 ?_)))))
 refine ez [(2,_),(3,_),(4,_),(5,_)] ⟨za h2 rfl (zj rfl (mIx rfl)),za h3 rfl mi,za h4 rfl (zj rfl Zh),ze rfl⟩ ?_
 rintro s ⟨h2,h3,h4,h5⟩
 refine gm h4 fun h9=>?_
 obtain ⟨r2,Er2,h⟩:=zb h
 refine vM (r:=8) (b:=4) (x:=((S3.mk x1 0 (Kd.mk 0:Kd .u64)):CU)) (x':=r2.2) (vs:=[]) (res:=Enc.enc (r2.1:GR)) h4 (by exact (zJ (v:=cuV 8 ((S3.mk x1 0 (Kd.mk 0:Kd .u64)):CU)) h9 rfl yw)) yr (fun f=>zB) (H.c21 _ _ Er2) H.g21 te rfl (fun s4 hb4 ha4=>xA (show s4 5 = .gone from ha4 5 _ _ h5 rfl rfl) (ye (gV r2.1) (zF rfl rfl) (zF rfl rfl) (xN (by first | rfl | simp [V.toks,V.tokss,Enc.toks_enc,yd])) ?_))
 refine gz [(2,bZ 2),(3,ji 0),(4,.ref (.bx 8) 0 [] (cV r2.2)),(5,bG 5 r2.1)] ⟨zd (show s4 2=(bZ 2) from ha4 2 _ _ h2 rfl (zj rfl (mIx rfl))) (zH rfl rfl (yL (zy rfl (zy rfl rfl)))),zd (show s4 3=(ji 0) from ha4 3 _ _ h3 rfl mi) rfl,zd (show s4 4=(.ref (.bx 8) 0 [] (cV r2.2)) from hb4 4 h4) (zH rfl rfl Jg),zd rfl rfl⟩ ?_
 rintro s ⟨h2,h3,h4,h5⟩
 refine .nsq (.seq (zw (z3 ?_)))
 refine ez [(2,_),(3,_),(4,_),(5,_),(13,_)] ⟨za h2 rfl (zj rfl (mIx rfl)),za h3 rfl mi,za h4 rfl (zj rfl Zh),za h5 rfl (zj rfl mIE),ze rfl⟩ ?_
 rintro s ⟨h2,h3,h4,h5,h13⟩
 refine U4 (r:=8) (b:=4) (x:=r2.2) (gV r2.1) h4 (uB [(5,bG 5 r2.1)] h5 rfl rfl) [(5,bG 5 r2.1)] h5 rfl (by simp [V.live,V.lives,xH,V.toks,V.tokss,z6,Enc.toks_enc,zD,wZ]) (by simp [V.toks,V.tokss,z6,Enc.toks_enc,zD,wZ]) (gm h4 fun h12=>NJ [] ([0,1,2,3,4,8,9,(-1)]:LI) trivial rfl rfl rfl h13 (fun s6 hd_6 hl_6=>gm (show s6 4=(.ref (.bx 8) 0 [] (cV r2.2)) from (hl_6 4 (by decide)).trans h4) fun h14=>?_))
 obtain ⟨r3,Er3,h⟩:=zb h
 refine vM (r:=8) (b:=4) (x:=r2.2) (x':=r3.2) (vs:=[Enc.enc (24:Int)]) (res:=Enc.enc (r3.1:Int)) (show s6 4=(.ref (.bx 8) 0 [] (cV r2.2)) from (hl_6 4 (by decide)).trans h4) (by exact (zJ (v:=cuV 8 r2.2) h14 rfl (zJ (v:=Enc.enc (24:Int)) rfl rfl yw))) (yg te yr) fm1 (H.c24 _ _ _ Er3) H.g24 te rfl (fun s7 hb7 ha7=>?_)
 refine U4 (r:=8) (b:=4) (x:=r3.2) (ji (w64 (r3.1.tdiv 11))) (show s7 4=(.ref (.bx 8) 0 [] (cV r3.2)) from hb7 4 (show s6 4=(.ref (.bx 8) 0 [] (cV r2.2)) from (hl_6 4 (by decide)).trans h4)) (uB [(15,ji r3.1)] rfl rfl rfl) [(15,ji r3.1)] rfl rfl (by simp [V.live,V.lives,xH,V.toks,V.tokss,z6,Enc.toks_enc,zD,wZ]) (by simp [V.toks,V.tokss,z6,Enc.toks_enc,zD,wZ]) ?_
 refine U4 (r:=8) (b:=4) (x:=r3.2) (ji (w64 (6 + (w64 (r3.1.tdiv 11))))) (show s7 4=(.ref (.bx 8) 0 [] (cV r3.2)) from hb7 4 (show s6 4=(.ref (.bx 8) 0 [] (cV r2.2)) from (hl_6 4 (by decide)).trans h4)) (uB [(16,ji (w64 (r3.1.tdiv 11)))] rfl rfl rfl) [(16,ji (w64 (r3.1.tdiv 11)))] rfl rfl (by simp [V.live,V.lives,xH,V.toks,V.tokss,z6,Enc.toks_enc,zD,wZ]) (by simp [V.toks,V.tokss,z6,Enc.toks_enc,zD,wZ]) ?_
 obtain ⟨sub4,Esub4,h⟩:=zb h
 refine U4 (r:=8) (b:=4) (x:=r3.2) (eL sub4) (show s7 4=(.ref (.bx 8) 0 [] (cV r3.2)) from hb7 4 (show s6 4=(.ref (.bx 8) 0 [] (cV r2.2)) from (hl_6 4 (by decide)).trans h4)) (UV (xs:=[0,1,2,3,4,8,9,(-1)]) (show s7 13=(eL [0,1,2,3,4,8,9,(-1)]) from ha7 13 _ _ (show s6 13=(eL [0,1,2,3,4,8,9,(-1)]) from hd_6) rfl me) (YQ) (YY rfl) Esub4 rfl) [(13,eL [0,1,2,3,4,8,9,(-1)]),(17,ji (w64 (6 + (w64 (r3.1.tdiv 11)))))] ⟨(show s7 13=(eL [0,1,2,3,4,8,9,(-1)]) from ha7 13 _ _ (show s6 13=(eL [0,1,2,3,4,8,9,(-1)]) from hd_6) rfl me),rfl⟩ rfl (by simp [V.live,V.lives,xH,V.toks,V.tokss,z6,Enc.toks_enc,zD,wZ]) (by simp [V.toks,V.tokss,z6,Enc.toks_enc,zD,wZ]) ?_
 obtain ⟨r5,Er5,h⟩:=zb h
 refine vM (r:=8) (b:=4) (x:=r3.2) (x':=r5.2) (vs:=[eL sub4]) (res:=Enc.enc (r5.1:Int)) (show s7 4=(.ref (.bx 8) 0 [] (cV r3.2)) from hb7 4 (show s6 4=(.ref (.bx 8) 0 [] (cV r2.2)) from (hl_6 4 (by decide)).trans h4)) (by exact (zJ (v:=cuV 8 r3.2) (show s7 12=(.ref (.bx 8) 0 [] (cV r3.2)) from hb7 12 (show s6 12=(.ref (.bx 8) 0 [] (cV r2.2)) from (hl_6 12 (by decide)).trans h12)) rfl (zJ (v:=eL sub4) rfl rfl yw))) (yg te yr) fm1 (H.c39 _ _ _ Er5) H.g39 te rfl (fun s8 hb8 ha8=>?_)
 refine ye (gV r2.1) (zF (show s8 2=(bZ 2) from ha8 2 (bZ 2) _ (show s7 2=(bZ 2) from ha7 2 _ _ (show s6 2=(bZ 2) from (hl_6 2 (by decide)).trans h2) rfl (zj rfl (mIx rfl))) rfl (zj rfl (mIx rfl))) rfl) (zF (show s8 11=(gV r2.1) from ha8 11 (gV r2.1) _ (show s7 11=(gV r2.1) from ha7 11 (gV r2.1) _ (show s6 11=(gV r2.1) from (hl_6 11 (by decide)).trans rfl) rfl mIE) rfl mIE) rfl) (xN (by first | rfl | simp [V.toks,V.tokss,Enc.toks_enc,yd])) (gm (zd rfl rfl) fun h3=>?_)
 refine gz [(2,bG 2 r2.1),(3,_)] ⟨zd (show s8 2=(bZ 2) from ha8 2 (bZ 2) _ (show s7 2=(bZ 2) from ha7 2 _ _ (show s6 2=(bZ 2) from (hl_6 2 (by decide)).trans h2) rfl (zj rfl (mIx rfl))) rfl (zj rfl (mIx rfl))) rfl,h3⟩ ?_
 rintro s ⟨h2,h3⟩
 refine .nsq (.ret ?_)
 obtain rfl:=oi h
 exact rrB (v7 h2 (by kernel_rfl)) (zo h3) (ue (Y9 (xd (w6 (x:=(r2.1:GR))) (xd (w6 (x:=(r5.1:Int))) Zr))))
end
def e14 (F:Nat):Ent:=ent 14 (fun (x:(LB×Unit))=>wG F x.1) (fun (r:(GR×Int))=>(.tup [Enc.enc (r.1:GR),Enc.enc (r.2:Int)])) 0 true []
abbrev C14 (D:List V→Option V) (F:Nat):Prop:=∀ (x0:LB) r,wG F x0=some r→D [Enc.enc x0]=some (.tup [Enc.enc (r.1:GR),Enc.enc (r.2:Int)])
theorem p14 {F:Nat}:C14 (e14 F).den F:=fun x0 _ h=>zU (x0,()) h
theorem o14 (hF:zG Try.prog D σ) (H:H14 D σ F):(e14 F).Ok Try.prog:=okZ (f:=14) Try.func14 fun ⟨x0,_⟩ y hy=>cR hF Try.func14 c14 (t14 H x0 _ rfl hy)
def zm8:AC:=(.cond (.t 14) (.seq (rr [jv 4 (.mov kf),jv 5 (.mov kf)]) .ret) .skip)
def zvw:AC:=(.seq (rr [jm 17 1,jv 18 (.load (.ag [.p]) (.t 6)),jx 19 (.call (jf 34) [.t 18]),jv 20 (.load (.ag [.p]) (.t 6)),jx 21 (.call (jf 35) [.t 20]),jv 22 (.idx (.t 19) (.t 21) 1),jl 23 22,jv 24 (.bin .geq (.t 17) (.t 23)),jm 4 24,jv 5 (.mov kt)]) .ret)
def zmw:AC:=(.seq (.reg [.clr [6]] [jv 15 (.load (.ag [.s,.p]) (.t 2)),jx 16 (.call (jf 33) [.t 15]),jx 6 (.alloc (.agg [.sl .nl .s 0 []])),jz (.store (.ag [.p]) (.t 6) (.t 16))] []) zvw)
def zs0:AC:=(.seq (.seq (rr [jv 7 (.load (.ag [.s,.p]) (.t 2)),jx 8 (.call (jf 26) [.t 7]),jv 9 (.un .not (.t 8)),jm 10 9,jg 11 10 false (.mov (.t 1)),.mk (some 12) (some (10,false)) false (.call (jf 40) [.t 11,jn 0,jn 8]),jg 13 10 false (.un .not (.t 12)),jv 14 (.pick (.t 10) kt (.t 13))]) zm8) zmw)
def A16:AC:=(.seq (.reg [.clr [2]] [jx 2 (.box (.t 0)),jv 4 (.mov kf),jv 5 (.mov kf)] []) zs0)
def zwV:List An:=[⟨0,[.clr [2]],[],[],[]⟩,⟨3,[.clr [6]],[],[],[]⟩]
theorem c16:cq Try.prog Try.f16 zwV=some A16:=by kernel_rfl
structure H16 (D:Den) (σ:Sig) (F:Nat):Prop where
 c26:C26 (D 26) F
 g26:σ 26=some (0,false)
 c40:C40 (D 40) F
 g40:σ 40=some (0,false)
 c33:C33 (D 33) F
 g33:σ 33=some (0,false)
 c34:C34 (D 34) F
 g34:σ 34=some (0,false)
 c35:C35 (D 35) F
 g35:σ 35=some (0,false)
abbrev R16 (r:(Bool×Bool)):(Nat→V)→Prop:=RR Try.prog [.tmp 4,.tmp 5] 0 false (.tup [Enc.enc (r.1:Bool),Enc.enc (r.2:Bool)])
section
variable {r:(Bool×Bool)}
def Zs (F:Nat) (x2:Int) (x1:GR)  (x5:Bool):Option (Bool×Bool):=
 bif x5 then
  some (false,false)
 else
  (YA F x1).bind fun r6=>
  (xt F r6).bind fun r7=>
  (xa F r6).bind fun r8=>
  (idx r7 r8).bind fun v9=>
  some (decide (x2≥v9),true)
theorem zdP (H:H16 D σ F) (x2:Int) (x1:GR)  (x5:Bool) (s:Nat→V) (hs:zr [(1,ji x2),(2,bG 2 x1),(4,jb false),(5,jb false),(14,jb x5)] s) (h:Zs F x2 x1  x5=some r):Run D σ (R16 r) (.nrm [.sq zm8,.sq zmw]) s:=by
 unfold Zs at h
 obtain ⟨h1,h2,h4,h5,h14⟩:=hs
 refine .nsq (zn h14 h (fun h=>?_) (fun h=>?_))
 · refine .seq (rg (g0 (jb false) fun h4=>g0 (jb false) fun h5=>gq (.nsq (.ret ?_))))
   obtain rfl:=oi h
   exact rrB (zo h4) (zo h5) rfl
 refine .skip (.nsq (.seq (zw (z3 ?_))))
 refine ez [(1,_),(2,_),(4,_),(5,_),(6,_)] ⟨za h1 rfl mi,za h2 rfl (zj rfl mIE),za h4 rfl mb,za h5 rfl mb,ze rfl⟩ ?_
 rintro s ⟨h1,h2,h4,h5,h6⟩
 refine g1 2 (gV x1) h2 fun h15=>?_
 obtain ⟨r6,Er6,h⟩:=zb h
 refine gcF [Enc.enc (x1:GR)] (zf h15 rfl (Enc.erase_enc (x1:GR)) zA) (H.c33 _ _ Er6) H.g33 (xA h6 (ye (.agg [eL r6.a]) (zF rfl rfl) (zF rfl rfl) (xN (by first | rfl | simp [V.toks,V.tokss,Enc.toks_enc,yd])) (gz [(1,ji x2),(4,jb false),(5,jb false),(6,.ref (.bx 6) 0 [] (.agg [eL r6.a]))] ⟨zd h1 rfl,zd h4 rfl,zd h5 rfl,zd rfl rfl⟩ ?_)))
 rintro s ⟨h1,h4,h5,h6⟩
 refine .nsq (.seq (rg (gm h1 fun h17=>g1 6 (.agg [eL r6.a]) h6 fun h18=>?_)))
 obtain ⟨r7,Er7,h⟩:=zb h
 refine gcF [Enc.enc (r6:(S1 LI))] (zf h18 rfl (Enc.erase_enc (r6:(S1 LI))) zA) (H.c34 _ _ Er7) H.g34 (g1 6 (.agg [eL r6.a]) h6 fun h20=>?_)
 obtain ⟨r8,Er8,h⟩:=zb h
 refine gcF [Enc.enc (r6:(S1 LI))] (zf h20 rfl (Enc.erase_enc (r6:(S1 LI))) zA) (H.c35 _ _ Er8) H.g35 ?_
 obtain ⟨v9,Ev9,h⟩:=zb h
 refine gv (.ref .sh 0 [] (ji v9)) (yn (t:=.sh) (lo:=0) (xs:=r7) rfl rfl Ev9 rfl rfl) fun h22=>g1 22 (ji v9) h22 fun h23=>g2 17 23 (jb (decide (x2≥v9))) h17 h23 fun h24=>gm h24 fun h4=>g0 (jb true) fun h5=>gq (.nsq (.ret ?_))
 obtain rfl:=oi h
 exact rrB (zo h4) (zo h5) rfl
def Zg (F:Nat) (x1:GR) (x2:Int):Option (Bool×Bool):=
 (vh F x1).bind fun r10=>
 bif (!r10) then
  Zs F x2 x1 true
 else
  (Yv F x2 0 8).bind fun r11=>
  Zs F x2 x1 (!r11)
theorem t16 (H:H16 D σ F) (x1:GR) (x2:Int) (s:Nat→V) (hs:zr [(0,gV x1),(1,ji x2)] s) (h:Zg F x1 x2=some r):Run D σ (R16 r) (.run A16 []) s:=by
 unfold Zg at h
 obtain ⟨h0,h1⟩:=hs
 refine .seq (zw (z3 ?_))
 refine ez [(0,_),(1,_),(2,_)] ⟨za h0 rfl mIE,za h1 rfl mi,ze rfl⟩ ?_
 rintro s ⟨h0,h1,h2⟩
 refine xo (gV x1) (zF h0 rfl) h2 rfl (g0 (jb false) fun h4=>g0 (jb false) fun h5=>gq (.nsq (.seq (.seq (rg (g1 2 (gV x1) (rf (bG 2 x1)) fun h7=>?_))))))
 obtain ⟨r10,Er10,h⟩:=zb h
 refine gcF [Enc.enc (x1:GR)] (zf h7 rfl (Enc.erase_enc (x1:GR)) zA) (H.c26 _ _ Er10) H.g26 (g1 8 (jb (!r10)) (rf (jb r10)) fun h9=>gm h9 fun h10=>z4 h (fun hg4 h=>?_) (fun hg4 h=>?_))
 · iterate 3 refine zR (ct h10 hg4) ?_
   refine g2 10 13 (jb true) (ct h10 hg4) (rf (.tup [])) fun h14=>gq ?_
   exact zdP H x2 x1 true _ ⟨h1,rfl,h4,h5,h14⟩ h
 refine zm (ct h10 hg4) (gm h1 fun h11=>?_)
 obtain ⟨r11,Er11,h⟩:=zb h
 refine zm (ct h10 hg4) (gcF [Enc.enc (x2:Int),Enc.enc (0:Int),Enc.enc (8:Int)] (zf h11 rfl rfl (zf (v:=ji 0) rfl rfl rfl (zf (v:=ji 8) rfl rfl rfl zA))) (H.c40 _ _ _ _ Er11) H.g40 (zm (ct h10 hg4) (g1 12 (jb (!r11)) (rf (jb r11)) fun h13=>g2 10 13 (jb (!r11)) (ct h10 hg4) h13 fun h14=>gq ?_)))
 exact zdP H x2 x1 (!r11) _ ⟨h1,rfl,h4,h5,h14⟩ h
end
def e16 (F:Nat):Ent:=ent 16 (fun (x:(GR×Int×Unit))=>Zg F x.1 x.2.1) (fun (r:(Bool×Bool))=>(.tup [Enc.enc (r.1:Bool),Enc.enc (r.2:Bool)])) 0 false []
abbrev C16 (D:List V→Option V) (F:Nat):Prop:=∀ (x0:GR) (x1:Int) r,Zg F x0 x1=some r→D [Enc.enc x0,Enc.enc x1]=some (.tup [Enc.enc (r.1:Bool),Enc.enc (r.2:Bool)])
theorem p16 {F:Nat}:C16 (e16 F).den F:=fun x0 x1 _ h=>zU (x0,x1,()) h
theorem o16 (hF:zG Try.prog D σ) (H:H16 D σ F):(e16 F).Ok Try.prog:=okZ (f:=16) Try.func16 fun ⟨x0,x1,_⟩ y hy=>cR hF Try.func16 c16 (t16 H x0 x1 _ ⟨rfl,rfl⟩ hy)
def zuq:AC:=(.cond (.t 16) .skip (.exit 0))
def ztR:AC:=(.cond (.t 30) .skip (.exit 2))
def zjy:AC:=(rr [jm 31 10,jv 32 (.bin .add (.t 31) (jn 1)),jm 10 32])
def ztr:AC:=(.seq (.block 3 (rr [jm 33 9,jm 34 33,jg 35 34 true (.load (.ag [.s,.p]) (.t 3)),jg 36 34 true (.mov (.t 8)),jg 37 34 true (.mov (.t 10)),jg 38 34 true (.idx (.t 36) (.t 37) 1),jg 39 34 true (.load .p (.t 38)),jg 40 34 true (.mov (.t 2)),jg 41 34 true (.bin .sub (.t 40) (jn 1)),.mk (some 42) (some (34,true)) false (.call (jf 44) [.t 35,.t 39,.t 41]),jv 43 (.pick (.t 34) (.t 42) kf),jm 9 43])) zjy)
def zaH:AC:=(.seq (.seq (rr [jm 27 10,jm 28 8,jk 29 28,jv 30 (.bin .lss (.t 27) (.t 29))]) ztR) ztr)
def zvn:AC:=(.block 2 (.loop zaH))
def zoQ:AC:=(.cond (.t 44) (.seq (rr [jv 6 (.mov kt)]) .ret) .skip)
def za5:AC:=(.seq (rr [jm 44 9]) zoQ)
def zvv:AC:=(.seq (.seq (rr [jv 10 (.mov (jn 0))]) zvn) za5)
def ztc:AC:=(.seq (rr [jv 9 (.mov kt)]) zvv)
def zbZ:AC:=(rr [jm 17 7,jv 18 (.bin .add (.t 17) (jn 1)),jm 7 18])
def zqN:AC:=(.seq (.block 1 (.seq (rr [jv 19 (.load (.ag [.s,.p]) (.t 3)),jm 20 1,jm 21 1,jm 22 7,jv 23 (.idx (.t 21) (.t 22) 1),jl 24 23,jx 25 (.call (jf 65) [.t 20,.t 24]),jx 26 (.call (jf 42) [.t 19,.t 25]),jm 8 26]) ztc)) zbZ)
def KD:AC:=(.seq (.seq (rr [jm 13 7,jm 14 1,jk 15 14,jv 16 (.bin .lss (.t 13) (.t 15))]) zuq) zqN)
def KQ:AC:=(.seq (rr [jv 6 (.mov kf)]) .ret)
def zpi:AC:=(.cond (.t 12) (.seq (rr [jv 6 (.mov kf)]) .ret) .skip)
def zoH:AC:=(.block 0 (.loop KD))
def zpb:AC:=(.seq (.seq (rr [jv 7 (.mov (jn 0))]) zoH) KQ)
def zpr:AC:=(.seq (.seq (rr [jm 11 2,jv 12 (.bin .eql (.t 11) (jn 0))]) zpi) zpb)
def A44:AC:=(.seq (.reg [.clr [3]] [jx 3 (.box (.t 0)),jv 6 (.mov kf)] []) zpr)
def zwQ:List An:=[⟨0,[.clr [3]],[],[],[]⟩]
theorem c44:cq Try.prog Try.f44 zwQ=some A44:=by kernel_rfl
structure H44 (D:Den) (σ:Sig) (F:Nat) (rc:GR→LI→Int→Option Bool):Prop where
 c65:C65 (D 65) F
 g65:σ 65=some (0,false)
 c42:C42 (D 42) F
 g42:σ 42=some (0,true)
 c44:∀ (x0:GR) (x1:LI) (x2:Int) r,rc x0 x1 x2=some r→D 44 [Enc.enc x0,Enc.enc x1,Enc.enc x2]=some (Enc.enc (r:Bool))
 g44:σ 44=some (0,false)
abbrev R44 (r:Bool):(Nat→V)→Prop:=RR Try.prog [.tmp 6] 0 false (Enc.enc (r:Bool))
section
variable {rc:GR→LI→Int→Option Bool} {r:Bool}
def Yt (F:Nat) (rc:GR→LI→Int→Option Bool) (x2:LI) (x3:Int) (x1:GR) (x23:Int) (r45:(List LI)) (x51:Int) (c1:Int→Option Bool) (c4:Bool→Int→Option Bool) (x59:Bool):Option Bool:=
 c4 x59 (w64 (x51 + 1))
theorem zc4 (H:H44 D σ F rc) (x2:LI) (x3:Int) (x1:GR) (x23:Int) (r45:(List LI)) (x51:Int) (c1:Int→Option Bool) (Hc1:∀ (x23:Int) (s:Nat→V),zr [(1,eL x2),(2,ji x3),(3,bG 3 x1),(6,jb false),(7,ji x23)] s→c1 x23=some r→Run D σ (R44 r) (.run KD [.lp KD,.bk 0,.sq KQ]) s) (c4:Bool→Int→Option Bool) (Hc4:∀ (x50:Bool) (x51:Int) (s:Nat→V),zr [(1,eL x2),(2,ji x3),(3,bG 3 x1),(6,jb false),(7,ji x23),(8,Enc.enc (r45:List LI)),(9,jb x50),(10,ji x51)] s→c4 x50 x51=some r→Run D σ (R44 r) (.run zaH [.lp zaH,.bk 2,.sq za5,.bk 1,.sq zbZ,.lp KD,.bk 0,.sq KQ]) s) (x59:Bool) (s:Nat→V) (hs:zr [(1,eL x2),(2,ji x3),(3,bG 3 x1),(6,jb false),(7,ji x23),(8,Enc.enc (r45:List LI)),(9,jb x59),(10,ji x51)] s) (h:Yt F rc x2 x3 x1 x23 r45 x51 c1 c4 x59=some r):Run D σ (R44 r) (.nrm [.bk 3,.sq zjy,.lp zaH,.bk 2,.sq za5,.bk 1,.sq zbZ,.lp KD,.bk 0,.sq KQ]) s:=by
 unfold Yt at h
 obtain ⟨h1,h2,h3,h6,h7,h8,h9,h10⟩:=hs
 refine .nbk (.nsq (rg (gm h10 fun h31=>g1 31 (ji (w64 (x51 + 1))) h31 fun h32=>gm h32 fun h10=>gq (.nlp ?_))))
 exact Hc4 x59 (w64 (x51 + 1)) _ ⟨h1,h2,h3,h6,h7,h8,h9,h10⟩ h
def wj (F:Nat) (rc:GR→LI→Int→Option Bool) (x2:LI) (x3:Int) (x1:GR) (x23:Int) (r45:(List LI)) (c1:Int→Option Bool):Nat→Bool→Int→Option Bool
 | 0,_,_=>none
 | k + 1,x50,x51=>
   bif decide (x51 < (r45.length:Int)) then
    bif x50 then
     (idx r45 x51).bind fun v60=>
     (rc x1 v60 (w64 (x3 - 1))).bind fun r61=>
     Yt F rc x2 x3 x1 x23 r45 x51 c1 (wj F rc x2 x3 x1 x23 r45 c1 k) r61
    else
     Yt F rc x2 x3 x1 x23 r45 x51 c1 (wj F rc x2 x3 x1 x23 r45 c1 k) false
   else
    bif x50 then
     some true
    else
     c1 (w64 (x23 + 1))
theorem zkW (H:H44 D σ F rc) (x2:LI) (x3:Int) (x1:GR) (x23:Int) (r45:(List LI)) (c1:Int→Option Bool) (Hc1:∀ (x23:Int) (s:Nat→V),zr [(1,eL x2),(2,ji x3),(3,bG 3 x1),(6,jb false),(7,ji x23)] s→c1 x23=some r→Run D σ (R44 r) (.run KD [.lp KD,.bk 0,.sq KQ]) s):∀ (k:Nat) (x50:Bool) (x51:Int) (s:Nat→V),zr [(1,eL x2),(2,ji x3),(3,bG 3 x1),(6,jb false),(7,ji x23),(8,Enc.enc (r45:List LI)),(9,jb x50),(10,ji x51)] s→wj F rc x2 x3 x1 x23 r45 c1 k x50 x51=some r→Run D σ (R44 r) (.run zaH [.lp zaH,.bk 2,.sq za5,.bk 1,.sq zbZ,.lp KD,.bk 0,.sq KQ]) s:=by
 intro k
 induction k with
 | zero=>intro x50 x51 s _ h;exact nm h
 | succ k ih=>
   intro x50 x51 s hs h
   rw [wj] at h
   obtain ⟨h1,h2,h3,h6,h7,h8,h9,h10⟩:=hs
   refine .seq (.seq (rg (gm h10 fun h27=>gm h8 fun h28=>gl r45 h28 fun h29=>g2 27 29 (jb (decide (x51 < (r45.length:Int)))) h27 h29 fun h30=>gq (.nsq (zn h30 h (fun h=>?_) (fun h=>?_))))))
   · refine .skip (.nsq (.seq (.block (rg (gm h9 fun h33=>gm h33 fun h34=>z4 h (fun hg2 h=>?_) (fun hg2 h=>?_))))))
     · refine zm (ct h34 hg2) (g1 3 (gV x1) h3 fun h35=>zm (ct h34 hg2) (gm h8 fun h36=>zm (ct h34 hg2) (gm h10 fun h37=>?_)))
       obtain ⟨v60,Ev60,h⟩:=zb h
       refine zm (ct h34 hg2) (gv (.ref .sh 0 [] (eL v60)) (yn (t:=.sh) (lo:=0) (xs:=r45) h36 h37 Ev60 rfl rfl) fun h38=>zm (ct h34 hg2) (g1 38 (eL v60) h38 fun h39=>zm (ct h34 hg2) (gm h2 fun h40=>zm (ct h34 hg2) (g1 40 (ji (w64 (x3 - 1))) h40 fun h41=>?_))))
       obtain ⟨r61,Er61,h⟩:=zb h
       refine zm (ct h34 hg2) (gcF [Enc.enc (x1:GR),eL v60,Enc.enc (w64 (x3 - 1):Int)] (zf h35 rfl (Enc.erase_enc (x1:GR)) (zf h39 rfl (Enc.erase_enc (v60:LI)) (zf h41 rfl rfl zA))) (H.c44 _ _ _ _ Er61) H.g44 (g2 34 42 (jb r61) (ct h34 hg2) (rf (jb r61)) fun h43=>gm h43 fun h9=>gz [(1,_),(2,_),(3,_),(6,_),(7,_),(8,_),(9,_),(10,_)] ⟨h1,h2,h3,h6,h7,h8,h9,h10⟩ ?_))
       rintro s ⟨h1,h2,h3,h6,h7,h8,h9,h10⟩
       exact zc4 H x2 x3 x1 x23 r45 x51 c1 Hc1 (wj F rc x2 x3 x1 x23 r45 c1 k) ih r61 _ ⟨h1,h2,h3,h6,h7,h8,h9,h10⟩ h
     iterate 8 refine zR (ct h34 hg2) ?_
     refine g2 34 42 (jb false) (ct h34 hg2) (rf (.tup [])) fun h43=>gm h43 fun h9=>gz [(1,_),(2,_),(3,_),(6,_),(7,_),(8,_),(9,_),(10,_)] ⟨h1,h2,h3,h6,h7,h8,h9,h10⟩ ?_
     rintro s ⟨h1,h2,h3,h6,h7,h8,h9,h10⟩
     exact zc4 H x2 x3 x1 x23 r45 x51 c1 Hc1 (wj F rc x2 x3 x1 x23 r45 c1 k) ih false _ ⟨h1,h2,h3,h6,h7,h8,h9,h10⟩ h
   refine .exit (.esq (.elp (.ebk (.nsq (.seq (rg (gm h9 fun h44=>gq (.nsq (zn h44 h (fun h=>?_) (fun h=>?_))))))))))
   · refine .seq (rg (g0 (jb true) fun h6=>gq (.nsq (.ret ?_))))
     obtain rfl:=oi h
     exact rrA (zo h6) rfl
   refine .skip (.nbk (.nsq (rg (gm h7 fun h17=>g1 17 (ji (w64 (x23 + 1))) h17 fun h18=>gm h18 fun h7=>gq (.nlp ?_)))))
   exact Hc1 (w64 (x23 + 1)) _ ⟨h1,h2,h3,h6,h7⟩ h
def wi (F:Nat) (rc:GR→LI→Int→Option Bool) (x2:LI) (x3:Int) (x1:GR) :Nat→Int→Option Bool
 | 0,_=>none
 | k + 1,x23=>
   bif decide (x23 < (x2.length:Int)) then
    (idx x2 x23).bind fun v43=>
    (wX F x2 v43).bind fun r44=>
    (uI F x1 r44).bind fun r45=>
    wj F rc x2 x3 x1 x23 r45 (wi F rc x2 x3 x1 k) F true 0
   else
    some false
theorem zjK (H:H44 D σ F rc) (x2:LI) (x3:Int) (x1:GR) :∀ (k:Nat) (x23:Int) (s:Nat→V),zr [(1,eL x2),(2,ji x3),(3,bG 3 x1),(6,jb false),(7,ji x23)] s→wi F rc x2 x3 x1 k x23=some r→Run D σ (R44 r) (.run KD [.lp KD,.bk 0,.sq KQ]) s:=by
 intro k
 induction k with
 | zero=>intro x23 s _ h;exact nm h
 | succ k ih=>
   intro x23 s hs h
   rw [wi] at h
   obtain ⟨h1,h2,h3,h6,h7⟩:=hs
   refine .seq (.seq (rg (gm h7 fun h13=>gm h1 fun h14=>gl x2 h14 fun h15=>g2 13 15 (jb (decide (x23 < (x2.length:Int)))) h13 h15 fun h16=>gq (.nsq (zn h16 h (fun h=>?_) (fun h=>?_))))))
   · refine .skip (.nsq (.seq (.block (.seq (rg (g1 3 (gV x1) h3 fun h19=>gm h1 fun h20=>gm h1 fun h21=>gm h7 fun h22=>?_))))))
     obtain ⟨v43,Ev43,h⟩:=zb h
     refine gv (.ref .sh 0 [] (ji v43)) (yn (t:=.sh) (lo:=0) (xs:=x2) h21 h22 Ev43 rfl rfl) fun h23=>g1 23 (ji v43) h23 fun h24=>?_
     obtain ⟨r44,Er44,h⟩:=zb h
     refine gcF [eL x2,Enc.enc (v43:Int)] (zf h20 rfl (Enc.erase_enc (x2:LI)) (zf h24 rfl rfl zA)) (H.c65 _ _ _ Er44) H.g65 ?_
     obtain ⟨r45,Er45,h⟩:=zb h
     refine ZI (m:=0) (al:=true) (r:=Enc.enc (r45:(List LI))) [Enc.enc (x1:GR),eL r44] (zf h19 rfl (Enc.erase_enc (x1:GR)) (zf (v:=eL r44) rfl rfl (Enc.erase_enc (r44:LI)) zA)) (H.c42 _ _ _ Er45) H.g42 (ZP (xQ (v:=gV x1) h19 rfl rfl (xQ (v:=eL r44) rfl rfl rfl Z2))) rfl rfl rfl (gm (rf (Enc.enc (r45:List LI))) fun h8=>gq (.nsq (.seq (rg (g0 (jb true) fun h9=>gq (.nsq (.seq (.seq (rg (g0 (ji 0) fun h10=>gq (.nsq (.block (.loop ?_)))))))))))))
     exact zkW H x2 x3 x1 x23 r45 (wi F rc x2 x3 x1 k) ih F true 0 _ ⟨h1,h2,h3,h6,h7,h8,h9,h10⟩ h
   refine .exit (.esq (.elp (.ebk (.nsq (.seq (rg (g0 (jb false) fun h6=>gq (.nsq (.ret ?_)))))))))
   obtain rfl:=oi h
   exact rrA (zo h6) rfl
def Xg (F:Nat) (rc:GR→LI→Int→Option Bool) (x1:GR) (x2:LI) (x3:Int):Option Bool:=
 bif (x3 == 0) then
  some false
 else
  wi F rc x2 x3 x1 F 0
theorem t44 (H:H44 D σ F rc) (x1:GR) (x2:LI) (x3:Int) (s:Nat→V) (hs:zr [(0,gV x1),(1,eL x2),(2,ji x3)] s) (h:Xg F rc x1 x2 x3=some r):Run D σ (R44 r) (.run A44 []) s:=by
 unfold Xg at h
 obtain ⟨h0,h1,h2⟩:=hs
 refine .seq (zw (z3 ?_))
 refine ez [(0,_),(1,_),(2,_),(3,_)] ⟨za h0 rfl mIE,za h1 rfl me,za h2 rfl mi,ze rfl⟩ ?_
 rintro s ⟨h0,h1,h2,h3⟩
 refine xo (gV x1) (zF h0 rfl) h3 rfl (g0 (jb false) fun h6=>gq (.nsq (.seq (.seq (rg (gm h2 fun h11=>g1 11 (jb (x3 == 0)) h11 fun h12=>gq (.nsq (zn h12 h (fun h=>?_) (fun h=>?_)))))))))
 · refine .seq (rg (g0 (jb false) fun h6=>gq (.nsq (.ret ?_))))
   obtain rfl:=oi h
   exact rrA (zo h6) rfl
 refine .skip (.nsq (.seq (.seq (rg (g0 (ji 0) fun h7=>gq (.nsq (.block (.loop ?_))))))))
 exact zjK H x2 x3 x1 F 0 _ ⟨h1,h2,rfl,h6,h7⟩ h
end
def xJ (F:Nat):Nat→GR→LI→Int→Option Bool
 | 0,_,_,_=>none
 | k + 1,x0,x1,x2=>Xg F (xJ F k) x0 x1 x2
def KL (F:Nat) (x0:GR) (x1:LI) (x2:Int):Option Bool:=xJ F F x0 x1 x2
def e44 (F:Nat) (k:Nat):Ent:=ent 44 (fun (x:(GR×LI×Int×Unit))=>xJ F k x.1 x.2.1 x.2.2.1) (fun (r:Bool)=>(Enc.enc (r:Bool))) 0 false []
theorem p44 {F:Nat} {k:Nat} {x0:GR} {x1:LI} {x2:Int} {r:Bool} (h:xJ F k x0 x1 x2=some r):(e44 F k).den [Enc.enc x0,Enc.enc x1,Enc.enc x2]=some (Enc.enc (r:Bool)):=zU (x0,x1,x2,()) h
theorem z44 {F:Nat}:(e44 F 0).Ok Try.prog:=by
 refine Jt (f:=44) (show unk 44=44 from rfl) (fun args r h=>?_) ⟨Try.f44,Try.func44,rfl,rfl⟩
 obtain ⟨⟨x0,x1,x2,_⟩,y,rfl,hy,rfl⟩:=Xq h
 cases hy
theorem o44 {D:Den} {σ:Sig} {F k:Nat} (hF:zG Try.prog D σ) (H:H44 D σ F (xJ F k)):(e44 F (k + 1)).Ok Try.prog:=by
 refine Jt (f:=44) (show unk 44=44 from rfl) (fun args r h=>?_) ⟨Try.f44,Try.func44,rfl,rfl⟩
 obtain ⟨⟨x0,x1,x2,_⟩,y,rfl,hy,rfl⟩:=Xq h
 exact Yi hF (by kernel_rfl) Try.func44 rfl c44 (show 3≤Try.f44.ntmps by decide) (t44 H x0 x1 x2 _ ⟨rfl,rfl,rfl⟩ hy)
def zsQ:AC:=(.cond (.t 23) .skip (.exit 0))
def zqV:AC:=(.cond (.t 33) (.seq (rr [jv 4 (.mov kf),jv 5 (.mov kt)]) .ret) .skip)
def zpW:AC:=(rr [jm 24 7,jv 25 (.bin .add (.t 24) (jn 1)),jm 7 25])
def zqH:AC:=(.seq (.block 1 (.seq (rr [jv 26 (.load (.ag [.s,.p]) (.t 2)),jm 27 6,jm 28 7,jv 29 (.idx (.t 27) (.t 28) 1),jv 30 (.load .p (.t 29)),jm 31 1,jx 32 (.call (jf 44) [.t 26,.t 30,.t 31]),jv 33 (.un .not (.t 32))]) zqV)) zpW)
def zkH:AC:=(.seq (.seq (rr [jm 20 7,jm 21 6,jk 22 21,jv 23 (.bin .lss (.t 20) (.t 22))]) zsQ) zqH)
def znh:AC:=(.seq (rr [jv 4 (.mov kt),jv 5 (.mov kt)]) .ret)
def zmx:AC:=(.cond (.t 15) (.seq (rr [jv 4 (.mov kf),jv 5 (.mov kf)]) .ret) .skip)
def zoM:AC:=(.block 0 (.loop zkH))
def ztH:AC:=(.seq (.seq (rr [jv 7 (.mov (jn 0))]) zoM) znh)
def zna:AC:=(.seq (rr [jv 16 (.load (.ag [.s,.p]) (.t 2)),jv 17 (.load (.ag [.s,.p]) (.t 2)),jx 18 (.call (jf 43) [.t 17]),jx 19 (.call (jf 42) [.t 16,.t 18]),jm 6 19]) ztH)
def zo1:AC:=(.seq (.seq (rr [jv 8 (.load (.ag [.s,.p]) (.t 2)),jx 9 (.call (jf 28) [.t 8]),jv 10 (.un .not (.t 9)),jm 11 10,jg 12 11 false (.mov (.t 1)),.mk (some 13) (some (11,false)) false (.call (jf 41) [.t 12,jn 0,jn 8]),jg 14 11 false (.un .not (.t 13)),jv 15 (.pick (.t 11) kt (.t 14))]) zmx) zna)
def A17:AC:=(.seq (.reg [.clr [2]] [jx 2 (.box (.t 0)),jv 4 (.mov kf),jv 5 (.mov kf)] []) zo1)
def zvW:List An:=[⟨0,[.clr [2]],[],[],[]⟩]
theorem c17:cq Try.prog Try.f17 zvW=some A17:=by kernel_rfl
structure H17 (D:Den) (σ:Sig) (F:Nat):Prop where
 c28:C28 (D 28) F
 g28:σ 28=some (0,false)
 c41:C41 (D 41) F
 g41:σ 41=some (0,false)
 c43:C43 (D 43) F
 g43:σ 43=some (0,true)
 c42:C42 (D 42) F
 g42:σ 42=some (0,true)
 c44:∀ (x0:GR) (x1:LI) (x2:Int) r,KL F x0 x1 x2=some r→D 44 [Enc.enc x0,Enc.enc x1,Enc.enc x2]=some (Enc.enc (r:Bool))
 g44:σ 44=some (0,false)
abbrev R17 (r:(Bool×Bool)):(Nat→V)→Prop:=RR Try.prog [.tmp 4,.tmp 5] 0 false (.tup [Enc.enc (r.1:Bool),Enc.enc (r.2:Bool)])
section
variable {r:(Bool×Bool)}
def vk (F:Nat) (x2:Int) (x1:GR) (r7:(List LI)) :Nat→Int→Option (Bool×Bool)
 | 0,_=>none
 | k + 1,x10=>
   bif decide (x10 < (r7.length:Int)) then
    (idx r7 x10).bind fun v13=>
    (KL F x1 v13 x2).bind fun r14=>
    bif (!r14) then
     some (false,true)
    else
     (vk F x2 x1 r7 k) (w64 (x10 + 1))
   else
    some (true,true)
theorem ziw (H:H17 D σ F) (x2:Int) (x1:GR) (r7:(List LI)) :∀ (k:Nat) (x10:Int) (s:Nat→V),zr [(1,ji x2),(2,bG 2 x1),(4,jb false),(5,jb false),(6,Enc.enc (r7:List LI)),(7,ji x10)] s→vk F x2 x1 r7 k x10=some r→Run D σ (R17 r) (.run zkH [.lp zkH,.bk 0,.sq znh]) s:=by
 intro k
 induction k with
 | zero=>intro x10 s _ h;exact nm h
 | succ k ih=>
   intro x10 s hs h
   rw [vk] at h
   obtain ⟨h1,h2,h4,h5,h6,h7⟩:=hs
   refine .seq (.seq (rg (gm h7 fun h20=>gm h6 fun h21=>gl r7 h21 fun h22=>g2 20 22 (jb (decide (x10 < (r7.length:Int)))) h20 h22 fun h23=>gq (.nsq (zn h23 h (fun h=>?_) (fun h=>?_))))))
   · refine .skip (.nsq (.seq (.block (.seq (rg (g1 2 (gV x1) h2 fun h26=>gm h6 fun h27=>gm h7 fun h28=>?_))))))
     obtain ⟨v13,Ev13,h⟩:=zb h
     refine gv (.ref .sh 0 [] (eL v13)) (yn (t:=.sh) (lo:=0) (xs:=r7) h27 h28 Ev13 rfl rfl) fun h29=>g1 29 (eL v13) h29 fun h30=>gm h1 fun h31=>?_
     obtain ⟨r14,Er14,h⟩:=zb h
     refine gcF [Enc.enc (x1:GR),eL v13,Enc.enc (x2:Int)] (zf h26 rfl (Enc.erase_enc (x1:GR)) (zf h30 rfl (Enc.erase_enc (v13:LI)) (zf h31 rfl rfl zA))) (H.c44 _ _ _ _ Er14) H.g44 (g1 32 (jb (!r14)) (rf (jb r14)) fun h33=>gq (.nsq (zn h33 h (fun h=>?_) (fun h=>?_))))
     · refine .seq (rg (g0 (jb false) fun h4=>g0 (jb true) fun h5=>gq (.nsq (.ret ?_))))
       obtain rfl:=oi h
       exact rrB (zo h4) (zo h5) rfl
     refine .skip (.nbk (.nsq (rg (gm h7 fun h24=>g1 24 (ji (w64 (x10 + 1))) h24 fun h25=>gm h25 fun h7=>gq (.nlp ?_)))))
     exact ih (w64 (x10 + 1)) _ ⟨h1,h2,h4,h5,h6,h7⟩ h
   refine .exit (.esq (.elp (.ebk (.nsq (.seq (rg (g0 (jb true) fun h4=>g0 (jb true) fun h5=>gq (.nsq (.ret ?_)))))))))
   obtain rfl:=oi h
   exact rrB (zo h4) (zo h5) rfl
def Zt (F:Nat) (x2:Int) (x1:GR)  (x5:Bool):Option (Bool×Bool):=
 bif x5 then
  some (false,false)
 else
  (Wg F x1).bind fun r6=>
  (uI F x1 r6).bind fun r7=>
  vk F x2 x1 r7 F 0
theorem zdw (H:H17 D σ F) (x2:Int) (x1:GR)  (x5:Bool) (s:Nat→V) (hs:zr [(1,ji x2),(2,bG 2 x1),(4,jb false),(5,jb false),(15,jb x5)] s) (h:Zt F x2 x1  x5=some r):Run D σ (R17 r) (.nrm [.sq zmx,.sq zna]) s:=by
 unfold Zt at h
 obtain ⟨h1,h2,h4,h5,h15⟩:=hs
 refine .nsq (zn h15 h (fun h=>?_) (fun h=>?_))
 · refine .seq (rg (g0 (jb false) fun h4=>g0 (jb false) fun h5=>gq (.nsq (.ret ?_))))
   obtain rfl:=oi h
   exact rrB (zo h4) (zo h5) rfl
 refine .skip (.nsq (.seq (rg (g1 2 (gV x1) h2 fun h16=>g1 2 (gV x1) h2 fun h17=>?_))))
 obtain ⟨r6,Er6,h⟩:=zb h
 refine ZI (m:=0) (al:=true) (r:=eL r6) [Enc.enc (x1:GR)] (zf h17 rfl (Enc.erase_enc (x1:GR)) zA) (H.c43 _ _ Er6) H.g43 (ZP (xQ (v:=gV x1) h17 rfl rfl Z2)) rfl rfl rfl ?_
 obtain ⟨r7,Er7,h⟩:=zb h
 refine ZI (m:=0) (al:=true) (r:=Enc.enc (r7:(List LI))) [Enc.enc (x1:GR),eL r6] (zf h16 rfl (Enc.erase_enc (x1:GR)) (zf (v:=eL r6) rfl rfl (Enc.erase_enc (r6:LI)) zA)) (H.c42 _ _ _ Er7) H.g42 (ZP (xQ (v:=gV x1) h16 rfl rfl (xQ (v:=eL r6) rfl rfl rfl Z2))) rfl rfl rfl (gm (rf (Enc.enc (r7:List LI))) fun h6=>gq (.nsq (.seq (.seq (rg (g0 (ji 0) fun h7=>gq (.nsq (.block (.loop ?_)))))))))
 exact ziw H x2 x1 r7 F 0 _ ⟨h1,h2,h4,h5,h6,h7⟩ h
def Ze (F:Nat) (x1:GR) (x2:Int):Option (Bool×Bool):=
 (Zu F x1).bind fun r15=>
 bif (!r15) then
  Zt F x2 x1 true
 else
  (WV F x2 0 8).bind fun r16=>
  Zt F x2 x1 (!r16)
theorem t17 (H:H17 D σ F) (x1:GR) (x2:Int) (s:Nat→V) (hs:zr [(0,gV x1),(1,ji x2)] s) (h:Ze F x1 x2=some r):Run D σ (R17 r) (.run A17 []) s:=by
 unfold Ze at h
 obtain ⟨h0,h1⟩:=hs
 refine .seq (zw (z3 ?_))
 refine ez [(0,_),(1,_),(2,_)] ⟨za h0 rfl mIE,za h1 rfl mi,ze rfl⟩ ?_
 rintro s ⟨h0,h1,h2⟩
 refine xo (gV x1) (zF h0 rfl) h2 rfl (g0 (jb false) fun h4=>g0 (jb false) fun h5=>gq (.nsq (.seq (.seq (rg (g1 2 (gV x1) (rf (bG 2 x1)) fun h8=>?_))))))
 obtain ⟨r15,Er15,h⟩:=zb h
 refine gcF [Enc.enc (x1:GR)] (zf h8 rfl (Enc.erase_enc (x1:GR)) zA) (H.c28 _ _ Er15) H.g28 (g1 9 (jb (!r15)) (rf (jb r15)) fun h10=>gm h10 fun h11=>z4 h (fun hg4 h=>?_) (fun hg4 h=>?_))
 · iterate 3 refine zR (ct h11 hg4) ?_
   refine g2 11 14 (jb true) (ct h11 hg4) (rf (.tup [])) fun h15=>gq ?_
   exact zdw H x2 x1 true _ ⟨h1,rfl,h4,h5,h15⟩ h
 refine zm (ct h11 hg4) (gm h1 fun h12=>?_)
 obtain ⟨r16,Er16,h⟩:=zb h
 refine zm (ct h11 hg4) (gcF [Enc.enc (x2:Int),Enc.enc (0:Int),Enc.enc (8:Int)] (zf h12 rfl rfl (zf (v:=ji 0) rfl rfl rfl (zf (v:=ji 8) rfl rfl rfl zA))) (H.c41 _ _ _ _ Er16) H.g41 (zm (ct h11 hg4) (g1 13 (jb (!r16)) (rf (jb r16)) fun h14=>g2 11 14 (jb (!r16)) (ct h11 hg4) h14 fun h15=>gq ?_)))
 exact zdw H x2 x1 (!r16) _ ⟨h1,rfl,h4,h5,h15⟩ h
end
def e17 (F:Nat):Ent:=ent 17 (fun (x:(GR×Int×Unit))=>Ze F x.1 x.2.1) (fun (r:(Bool×Bool))=>(.tup [Enc.enc (r.1:Bool),Enc.enc (r.2:Bool)])) 0 false []
abbrev C17 (D:List V→Option V) (F:Nat):Prop:=∀ (x0:GR) (x1:Int) r,Ze F x0 x1=some r→D [Enc.enc x0,Enc.enc x1]=some (.tup [Enc.enc (r.1:Bool),Enc.enc (r.2:Bool)])
theorem p17 {F:Nat}:C17 (e17 F).den F:=fun x0 x1 _ h=>zU (x0,x1,()) h
theorem o17 (hF:zG Try.prog D σ) (H:H17 D σ F):(e17 F).Ok Try.prog:=okZ (f:=17) Try.func17 fun ⟨x0,x1,_⟩ y hy=>cR hF Try.func17 c17 (t17 H x0 x1 _ ⟨rfl,rfl⟩ hy)
def zqz:AC:=(.cond (.t 14) .skip (.exit 0))
def zq8:AC:=(.cond (.t 25) (.seq (rr [jv 4 (.mov kf)]) .ret) .skip)
def zrO:AC:=(rr [jm 15 5,jv 16 (.bin .add (.t 15) (jn 1)),jm 5 16])
def zvg:AC:=(.seq (.block 1 (.seq (rr [jm 17 0,jm 18 5,jv 19 (.idx (.t 17) (.t 18) 1),jl 20 19,jm 21 1,jm 22 5,jv 23 (.idx (.t 21) (.t 22) 1),jl 24 23,jv 25 (.bin .neq (.t 20) (.t 24))]) zq8)) zrO)
def zj1:AC:=(.seq (.seq (rr [jm 11 5,jm 12 0,jk 13 12,jv 14 (.bin .lss (.t 11) (.t 13))]) zqz) zvg)
def zmB:AC:=(.seq (rr [jv 4 (.mov kt)]) .ret)
def zve:AC:=(.cond (.t 10) (.seq (rr [jv 4 (.mov kf)]) .ret) .skip)
def zoN:AC:=(.block 0 (.loop zj1))
def zvK:AC:=(.seq (.seq (rr [jv 5 (.mov (jn 0))]) zoN) zmB)
def zvB:AC:=(.seq (.seq (rr [jm 6 0,jk 7 6,jm 8 1,jk 9 8,jv 10 (.bin .neq (.t 7) (.t 9))]) zve) zvK)
def A18:AC:=(.seq (rr [jv 4 (.mov kf)]) zvB)
def zxv:List An:=[]
theorem c18:cq Try.prog Try.f18 zxv=some A18:=by kernel_rfl
structure H18 (D:Den) (σ:Sig) (F:Nat):Prop where
 mk ::
abbrev R18 (r:Bool):(Nat→V)→Prop:=RR Try.prog [.tmp 4] 0 false (Enc.enc (r:Bool))
section
variable {r:Bool}
def YI (F:Nat) (x1:LI) (x2:LI) :Nat→Int→Option Bool
 | 0,_=>none
 | k + 1,x5=>
   bif decide (x5 < (x1.length:Int)) then
    (idx x1 x5).bind fun v8=>
    (idx x2 x5).bind fun v9=>
    bif (v8 != v9) then
     some false
    else
     (YI F x1 x2 k) (w64 (x5 + 1))
   else
    some true
theorem zkq (H:H18 D σ F) (x1:LI) (x2:LI) :∀ (k:Nat) (x5:Int) (s:Nat→V),zr [(0,eL x1),(1,eL x2),(4,jb false),(5,ji x5)] s→YI F x1 x2 k x5=some r→Run D σ (R18 r) (.run zj1 [.lp zj1,.bk 0,.sq zmB]) s:=by
 intro k
 induction k with
 | zero=>intro x5 s _ h;exact nm h
 | succ k ih=>
   intro x5 s hs h
   rw [YI] at h
   obtain ⟨h0,h1,h4,h5⟩:=hs
   refine .seq (.seq (rg (gm h5 fun h11=>gm h0 fun h12=>gl x1 h12 fun h13=>g2 11 13 (jb (decide (x5 < (x1.length:Int)))) h11 h13 fun h14=>gq (.nsq (zn h14 h (fun h=>?_) (fun h=>?_))))))
   · refine .skip (.nsq (.seq (.block (.seq (rg (gm h0 fun h17=>gm h5 fun h18=>?_))))))
     obtain ⟨v8,Ev8,h⟩:=zb h
     refine gv (.ref .sh 0 [] (ji v8)) (yn (t:=.sh) (lo:=0) (xs:=x1) h17 h18 Ev8 rfl rfl) fun h19=>g1 19 (ji v8) h19 fun h20=>gm h1 fun h21=>gm h5 fun h22=>?_
     obtain ⟨v9,Ev9,h⟩:=zb h
     refine gv (.ref .sh 0 [] (ji v9)) (yn (t:=.sh) (lo:=0) (xs:=x2) h21 h22 Ev9 rfl rfl) fun h23=>g1 23 (ji v9) h23 fun h24=>g2 20 24 (jb (v8 != v9)) h20 h24 fun h25=>gq (.nsq (zn h25 h (fun h=>?_) (fun h=>?_)))
     · refine .seq (rg (g0 (jb false) fun h4=>gq (.nsq (.ret ?_))))
       obtain rfl:=oi h
       exact rrA (zo h4) rfl
     refine .skip (.nbk (.nsq (rg (gm h5 fun h15=>g1 15 (ji (w64 (x5 + 1))) h15 fun h16=>gm h16 fun h5=>gq (.nlp ?_)))))
     exact ih (w64 (x5 + 1)) _ ⟨h0,h1,h4,h5⟩ h
   refine .exit (.esq (.elp (.ebk (.nsq (.seq (rg (g0 (jb true) fun h4=>gq (.nsq (.ret ?_)))))))))
   obtain rfl:=oi h
   exact rrA (zo h4) rfl
def Wl (F:Nat) (x1:LI) (x2:LI):Option Bool:=
 bif ((x1.length:Int) != (x2.length:Int)) then
  some false
 else
  YI F x1 x2 F 0
theorem t18 (H:H18 D σ F) (x1:LI) (x2:LI) (s:Nat→V) (hs:zr [(0,eL x1),(1,eL x2)] s) (h:Wl F x1 x2=some r):Run D σ (R18 r) (.run A18 []) s:=by
 unfold Wl at h
 obtain ⟨h0,h1⟩:=hs
 refine .seq (rg (g0 (jb false) fun h4=>gq (.nsq (.seq (.seq (rg (gm h0 fun h6=>gl x1 h6 fun h7=>gm h1 fun h8=>gl x2 h8 fun h9=>g2 7 9 (jb ((x1.length:Int) != (x2.length:Int))) h7 h9 fun h10=>gq (.nsq (zn h10 h (fun h=>?_) (fun h=>?_))))))))))
 · refine .seq (rg (g0 (jb false) fun h4=>gq (.nsq (.ret ?_))))
   obtain rfl:=oi h
   exact rrA (zo h4) rfl
 refine .skip (.nsq (.seq (.seq (rg (g0 (ji 0) fun h5=>gq (.nsq (.block (.loop ?_))))))))
 exact zkq H x1 x2 F 0 _ ⟨h0,h1,h4,h5⟩ h
end
def e18 (F:Nat):Ent:=ent 18 (fun (x:(LI×LI×Unit))=>Wl F x.1 x.2.1) (fun (r:Bool)=>(Enc.enc (r:Bool))) 0 false []
abbrev C18 (D:List V→Option V) (F:Nat):Prop:=∀ (x0:LI) (x1:LI) r,Wl F x0 x1=some r→D [Enc.enc x0,Enc.enc x1]=some (Enc.enc (r:Bool))
theorem p18 {F:Nat}:C18 (e18 F).den F:=fun x0 x1 _ h=>zU (x0,x1,()) h
theorem o18 (hF:zG Try.prog D σ) (H:H18 D σ F):(e18 F).Ok Try.prog:=okZ (f:=18) Try.func18 fun ⟨x0,x1,_⟩ y hy=>cR hF Try.func18 c18 (t18 H x0 x1 _ ⟨rfl,rfl⟩ hy)
def zva:AC:=(.cond (.t 21) (.exit 0) .skip)
def zt2:AC:=(rr [jm 22 8,jm 7 22])
def zuG:AC:=(.seq (.seq (rr [jm 19 8,jm 20 7,jv 21 (.bin .eql (.t 19) (.t 20))]) zva) zt2)
def zjY:AC:=(.block 1 (.seq (rr [jv 11 (.load (.ag [.p]) (.t 3)),jm 12 7,jm 13 1,jm 14 2,jv 15 (.bin .shl (jn 1) (.t 14)),jv 16 (.bin .or (.t 13) (.t 15)),jv 17 (.bin .and (.t 12) (.t 16)),jx 18 (.call (jf 76) [.t 11,.t 17]),jm 8 18]) zuG))
def zmy:AC:=(.seq (rr [jm 23 7,jm 24 1,jv 25 (.bin .andNot (.t 23) (.t 24)),jm 26 2,jv 27 (.bin .shl (jn 1) (.t 26)),jv 28 (.bin .andNot (.t 25) (.t 27)),jv 29 (.conv .u64 (.t 28)),jx 30 (.call (jf 30) [.t 29]),jm 6 30]) .ret)
def zuj:AC:=(.seq (.block 0 (.loop zjY)) zmy)
def zrs:AC:=(.seq (rr [jm 9 2,jv 10 (.bin .shl (jn 1) (.t 9)),jm 7 10]) zuj)
def A81:AC:=(.seq (.reg [.clr [3]] [jx 3 (.box (.t 0)),jv 6 (.mov (jn 0))] []) zrs)
def zxp:List An:=[⟨0,[.clr [3]],[],[],[]⟩]
theorem c81:cq Try.prog Try.f81 zxp=some A81:=by kernel_rfl
structure H81 (D:Den) (σ:Sig) (F:Nat):Prop where
 c76:C76 (D 76) F
 g76:σ 76=some (0,false)
 c30:C30 (D 30) F
 g30:σ 30=some (0,false)
abbrev R81 (r:Int):(Nat→V)→Prop:=RR Try.prog [.tmp 6] 0 false (Enc.enc (r:Int))
section
variable {r:Int}
def xL (F:Nat) (x2:Int) (x3:Int) (x1:(S1 LI)) :Nat→Int→Option Int
 | 0,_=>none
 | k + 1,x7=>
   (Xr .i64 1 x3).bind fun q10=>
   (vZ F x1 (yx .i64 x7 (ior .i64 x2 q10))).bind fun r11=>
   bif (r11 == x7) then
    (Xr .i64 1 x3).bind fun q12=>
    (wo F (Kd.mk (IntKind.u64.wrap (yW .i64 (yW .i64 x7 x2) q12)):Kd .u64)).bind fun r13=>
    some r13
   else
    (xL F x2 x3 x1 k) r11
theorem zig (H:H81 D σ F) (x2:Int) (x3:Int) (x1:(S1 LI)) :∀ (k:Nat) (x7:Int) (s:Nat→V),zr [(1,ji x2),(2,ji x3),(3,.ref (.bx 3) 0 [] (.agg [eL x1.a])),(6,ji 0),(7,ji x7)] s→xL F x2 x3 x1 k x7=some r→Run D σ (R81 r) (.run zjY [.lp zjY,.bk 0,.sq zmy]) s:=by
 intro k
 induction k with
 | zero=>intro x7 s _ h;exact nm h
 | succ k ih=>
   intro x7 s hs h
   rw [xL] at h
   obtain ⟨h1,h2,h3,h6,h7⟩:=hs
   refine .block (.seq (rg (g1 3 (.agg [eL x1.a]) h3 fun h11=>gm h7 fun h12=>gm h1 fun h13=>gm h2 fun h14=>?_)))
   obtain ⟨q10,Eq10,h⟩:=zb h
   refine gv (ji q10) (uo rfl h14 Eq10) fun h15=>g2 13 15 (ji (ior .i64 x2 q10)) h13 h15 fun h16=>g2 12 16 (ji (yx .i64 x7 (ior .i64 x2 q10))) h12 h16 fun h17=>?_
   obtain ⟨r11,Er11,h⟩:=zb h
   refine gcF [Enc.enc (x1:(S1 LI)),Enc.enc (yx .i64 x7 (ior .i64 x2 q10):Int)] (zf h11 rfl (Enc.erase_enc (x1:(S1 LI))) (zf h17 rfl rfl zA)) (H.c76 _ _ _ Er11) H.g76 (gm (rf (ji r11)) fun h8=>gq (.nsq (.seq (.seq (rg (gm h8 fun h19=>gm h7 fun h20=>g2 19 20 (jb (r11 == x7)) h19 h20 fun h21=>gq (.nsq (zn h21 h (fun h=>?_) (fun h=>?_)))))))))
   · refine .exit (.esq (.ebn (by decide) (.elp (.ebk (.nsq (.seq (rg (gm h7 fun h23=>gm h1 fun h24=>g2 23 24 (ji (yW .i64 x7 x2)) h23 h24 fun h25=>gm h2 fun h26=>?_))))))))
     obtain ⟨q12,Eq12,h⟩:=zb h
     refine gv (ji q12) (uo rfl h26 Eq12) fun h27=>g2 25 27 (ji (yW .i64 (yW .i64 x7 x2) q12)) h25 h27 fun h28=>g1 28 (.int .u64 (IntKind.u64.wrap (yW .i64 (yW .i64 x7 x2) q12))) h28 fun h29=>?_
     obtain ⟨r13,Er13,h⟩:=zb h
     refine gcF [Enc.enc ((Kd.mk (IntKind.u64.wrap (yW .i64 (yW .i64 x7 x2) q12)):Kd .u64):(Kd .u64))] (zf h29 rfl rfl zA) (H.c30 _ _ Er13) H.g30 (gm (rf (ji r13)) fun h6=>gq (.nsq (.ret ?_)))
     obtain rfl:=oi h
     exact rrA (zo h6) rfl
   refine .skip (.nsq (rg (gm h8 fun h22=>gm h22 fun h7=>gq (.nbk (.nlp ?_)))))
   exact ih r11 _ ⟨h1,h2,h3,h6,h7⟩ h
def wE (F:Nat) (x1:(S1 LI)) (x2:Int) (x3:Int):Option Int:=
 (Xr .i64 1 x3).bind fun q4=>
 xL F x2 x3 x1 F q4
theorem t81 (H:H81 D σ F) (x1:(S1 LI)) (x2:Int) (x3:Int) (s:Nat→V) (hs:zr [(0,.agg [eL x1.a]),(1,ji x2),(2,ji x3)] s) (h:wE F x1 x2 x3=some r):Run D σ (R81 r) (.run A81 []) s:=by
 unfold wE at h
 obtain ⟨h0,h1,h2⟩:=hs
 refine .seq (zw (z3 ?_))
 refine ez [(0,_),(1,_),(2,_),(3,_)] ⟨za h0 rfl (zW (zh me zB)),za h1 rfl mi,za h2 rfl mi,ze rfl⟩ ?_
 rintro s ⟨h0,h1,h2,h3⟩
 refine xo (.agg [eL x1.a]) (zF h0 rfl) h3 rfl (g0 (ji 0) fun h6=>gq (.nsq (.seq (rg (gm h2 fun h9=>?_)))))
 obtain ⟨q4,Eq4,h⟩:=zb h
 refine gv (ji q4) (uo rfl h9 Eq4) fun h10=>gm h10 fun h7=>gq (.nsq (.seq (.block (.loop ?_))))
 exact zig H x2 x3 x1 F q4 _ ⟨h1,h2,rfl,h6,h7⟩ h
end
def e81 (F:Nat):Ent:=ent 81 (fun (x:((S1 LI)×Int×Int×Unit))=>wE F x.1 x.2.1 x.2.2.1) (fun (r:Int)=>(Enc.enc (r:Int))) 0 false []
abbrev C81 (D:List V→Option V) (F:Nat):Prop:=∀ (x0:(S1 LI)) (x1:Int) (x2:Int) r,wE F x0 x1 x2=some r→D [Enc.enc x0,Enc.enc x1,Enc.enc x2]=some (Enc.enc (r:Int))
theorem p81 {F:Nat}:C81 (e81 F).den F:=fun x0 x1 x2 _ h=>zU (x0,x1,x2,()) h
theorem o81 (hF:zG Try.prog D σ) (H:H81 D σ F):(e81 F).Ok Try.prog:=okZ (f:=81) Try.func81 fun ⟨x0,x1,x2,_⟩ y hy=>cR hF Try.func81 c81 (t81 H x0 x1 x2 _ ⟨rfl,rfl,rfl⟩ hy)
def zl1:AC:=(.cond (.t 19) .skip (.exit 0))
def zdc:AC:=(.cond (.t 58) (rr [jm 59 7,jm 60 8,jm 61 11,jv 62 (.idx (.t 59) (.t 60) 1),jz (.store .s (.t 62) (.t 61))]) .skip)
def zkU:AC:=(.seq (rr [jm 49 9,jv 50 (.bin .eql (.t 49) (jn 0)),jm 51 50,jg 52 51 false (.mov (.t 11)),jg 53 51 false (.mov (.t 7)),jg 54 51 false (.mov (.t 8)),jg 55 51 false (.idx (.t 53) (.t 54) 1),jg 56 51 false (.load .s (.t 55)),jg 57 51 false (.bin .lss (.t 52) (.t 56)),jv 58 (.pick (.t 51) kt (.t 57))]) zdc)
def zlz:AC:=(.seq (rr [jm 37 2,jm 38 8,jm 39 10,jx 40 (.call (.t 37) [.t 38,.t 39]),jm 41 7,jm 42 8,jm 43 10,jv 44 (.bin .shl (jn 1) (.t 43)),jv 45 (.bin .or (.t 42) (.t 44)),jv 46 (.idx (.t 41) (.t 45) 1),jl 47 46,jv 48 (.mx [.t 40,.t 47]),jm 11 48]) zkU)
def Qi:AC:=(rr [jv 63 (.bin .add (.t 32) (jn 1)),jm 32 63])
def zlX:AC:=(.seq (.block 3 (.seq (rr [jm 34 32,jv 35 (.idx (.t 30) (.t 32) 1),jl 36 35,jm 9 34,jm 10 36]) zlz)) Qi)
def zlL:AC:=(.seq (.cond (.t 33) .skip (.exit 2)) zlX)
def Wk:AC:=(.seq (rr [jv 33 (.bin .lss (.t 32) (.t 31))]) zlL)
def zlH:AC:=(.block 2 (.loop Wk))
def zlW:AC:=(.seq (rr [jv 26 (.load (.ag [.p]) (.t 3)),jx 27 (.call (jf 35) [.t 26]),jm 28 8,jv 29 (.bin .andNot (.t 27) (.t 28)),jx 30 (.call (jf 77) [.t 29]),jk 31 30,jv 32 (.mov (jn 0))]) zlH)
def U0:AC:=(rr [jm 20 8,jv 21 (.bin .sub (.t 20) (jn 1)),jm 8 21])
def zl7:AC:=(.seq (.block 1 (.seq (rr [jm 22 7,jm 23 8,jm 24 1,jv 25 (.idx (.t 22) (.t 23) 1),jz (.store .s (.t 25) (.t 24))]) zlW)) U0)
def ZN:AC:=(.seq (.seq (rr [jm 18 8,jv 19 (.bin .geq (.t 18) (jn 0))]) zl1) zl7)
def Yp:AC:=(.seq (.reg [] [jm 64 7,jm 6 64] [.home 7 6]) .ret)
def ziR:AC:=(.block 0 (.loop ZN))
def zle:AC:=(.seq (.seq (rr [jv 16 (.load (.ag [.p]) (.t 3)),jx 17 (.call (jf 35) [.t 16]),jm 8 17]) ziR) Yp)
def zkT:AC:=(.seq (.reg [.clr [15]] [jv 12 (.load (.ag [.p]) (.t 3)),jx 13 (.call (jf 35) [.t 12]),jv 14 (.bin .add (.t 13) (jn 1)),jx 15 (.mk (.t 14) i0 i0),jm 7 15] [.home 15 7]) zle)
def zmM:AC:=(.seq (.reg [.clr [3]] [jx 3 (.box (.t 0)),jv 6 (.mov (.k (.sl .nl .s 0 [])))] []) zkT)
def zn4:List An:=[⟨0,[.clr [3]],[],[],[]⟩,⟨1,[.clr [15]],[],[],[.home 15 7]⟩,⟨13,[],[],[],[.home 7 6]⟩]
theorem c67s1:cq Try.prog Try.f67 zn4=some zmM:=by kernel_rfl
structure zak (D:Den) (σ:Sig) (F:Nat):Prop where
 c35:C35 (D 35) F
 g35:σ 35=some (0,false)
 c77:C77 (D 77) F
 g77:σ 77=some (0,false)
 c81:C81 (D 81) F
 g81:σ 81=some (0,false)
abbrev KA (r:LI):(Nat→V)→Prop:=RR Try.prog [.tmp 6] 0 false (eL r)
section
variable {r:LI}
def yJ (F:Nat) (x2:Int) (x3:(Cl 81 ((S1 LI)×Unit) Unit)) (x1:(S1 LI)) (x43:Int) (r81:LI) (x93:Int) (c1:LI→Int→Option LI) (c4:LI→Int→Option LI) (x111:LI):Option LI:=
 c4 x111 (w64 (x93 + 1))
theorem Nt (H:zak D σ F) (x2:Int) (x3:(Cl 81 ((S1 LI)×Unit) Unit)) (x1:(S1 LI)) (x43:Int) (r81:LI) (x93:Int) (c1:LI→Int→Option LI) (Hc1:∀ (x42:LI) (x43:Int) (s:Nat→V),zr [(1,ji x2),(2,.fn 81 [.agg [eL x3.fs.1.a]] []),(3,.ref (.bx 3) 0 [] (.agg [eL x1.a])),(6,nI),(7,oI 7 [] (.of x42)),(8,ji x43)] s→c1 x42 x43=some r→Run D σ (KA r) (.run ZN [.lp ZN,.bk 0,.sq Yp]) s) (c4:LI→Int→Option LI) (Hc4:∀ (x92:LI) (x93:Int) (s:Nat→V),zr [(1,ji x2),(2,.fn 81 [.agg [eL x3.fs.1.a]] []),(3,.ref (.bx 3) 0 [] (.agg [eL x1.a])),(6,nI),(7,oI 7 [] (.of x92)),(8,ji x43),(30,eL r81),(31,ji (r81.length:Int)),(32,ji x93)] s→c4 x92 x93=some r→Run D σ (KA r) (.run Wk [.lp Wk,.bk 2,.bk 1,.sq U0,.lp ZN,.bk 0,.sq Yp]) s) (x111:LI) (s:Nat→V) (hs:zr [(1,ji x2),(2,.fn 81 [.agg [eL x3.fs.1.a]] []),(3,.ref (.bx 3) 0 [] (.agg [eL x1.a])),(6,nI),(7,oI 7 [] (.of x111)),(8,ji x43),(30,eL r81),(31,ji (r81.length:Int)),(32,ji x93)] s) (h:yJ F x2 x3 x1 x43 r81 x93 c1 c4 x111=some r):Run D σ (KA r) (.nrm [.bk 3,.sq Qi,.lp Wk,.bk 2,.bk 1,.sq U0,.lp ZN,.bk 0,.sq Yp]) s:=by
 unfold yJ at h
 obtain ⟨h1,h2,h3,h6,h7,h8,h30,h31,h32⟩:=hs
 refine .nbk (.nsq (rg (g1 32 (ji (w64 (x93 + 1))) h32 fun h63=>gm h63 fun h32=>gq (.nlp ?_))))
 exact Hc4 x111 (w64 (x93 + 1)) _ ⟨h1,h2,h3,h6,h7,h8,h30,h31,h32⟩ h
def yK (F:Nat) (x2:Int) (x3:(Cl 81 ((S1 LI)×Unit) Unit)) (x1:(S1 LI)) (x92:LI) (x43:Int) (v107:Int) (r105:Int) (r81:LI) (x93:Int) (c1:LI→Int→Option LI) (c4:LI→Int→Option LI) (x109:Bool):Option LI:=
 bif x109 then
  (idx x92 x43).bind fun v112=>
  yJ F x2 x3 x1 x43 r81 x93 c1 c4 (x92.set x43.toNat (if v107 > r105 then v107 else r105))
 else
  yJ F x2 x3 x1 x43 r81 x93 c1 c4 x92
theorem Nq (H:zak D σ F) (x2:Int) (x3:(Cl 81 ((S1 LI)×Unit) Unit)) (x1:(S1 LI)) (x92:LI) (x43:Int) (v107:Int) (r105:Int) (r81:LI) (x93:Int) (c1:LI→Int→Option LI) (Hc1:∀ (x42:LI) (x43:Int) (s:Nat→V),zr [(1,ji x2),(2,.fn 81 [.agg [eL x3.fs.1.a]] []),(3,.ref (.bx 3) 0 [] (.agg [eL x1.a])),(6,nI),(7,oI 7 [] (.of x42)),(8,ji x43)] s→c1 x42 x43=some r→Run D σ (KA r) (.run ZN [.lp ZN,.bk 0,.sq Yp]) s) (c4:LI→Int→Option LI) (Hc4:∀ (x92:LI) (x93:Int) (s:Nat→V),zr [(1,ji x2),(2,.fn 81 [.agg [eL x3.fs.1.a]] []),(3,.ref (.bx 3) 0 [] (.agg [eL x1.a])),(6,nI),(7,oI 7 [] (.of x92)),(8,ji x43),(30,eL r81),(31,ji (r81.length:Int)),(32,ji x93)] s→c4 x92 x93=some r→Run D σ (KA r) (.run Wk [.lp Wk,.bk 2,.bk 1,.sq U0,.lp ZN,.bk 0,.sq Yp]) s) (x109:Bool) (s:Nat→V) (hs:zr [(1,ji x2),(2,.fn 81 [.agg [eL x3.fs.1.a]] []),(3,.ref (.bx 3) 0 [] (.agg [eL x1.a])),(6,nI),(7,oI 7 [] (.of x92)),(8,ji x43),(11,ji (if v107 > r105 then v107 else r105)),(30,eL r81),(31,ji (r81.length:Int)),(32,ji x93),(58,jb x109)] s) (h:yK F x2 x3 x1 x92 x43 v107 r105 r81 x93 c1 c4 x109=some r):Run D σ (KA r) (.nrm [.sq zdc,.bk 3,.sq Qi,.lp Wk,.bk 2,.bk 1,.sq U0,.lp ZN,.bk 0,.sq Yp]) s:=by
 unfold yK at h
 obtain ⟨h1,h2,h3,h6,h7,h8,h11,h30,h31,h32,h58⟩:=hs
 refine .nsq (zn h58 h (fun h=>?_) (fun h=>?_))
 · refine rg (gm h7 fun h59=>gm h8 fun h60=>gm h11 fun h61=>?_)
   obtain ⟨v112,Ev112,h⟩:=zb h
   refine gv (.ref (.at 7 []) x43.toNat [] (ji v112)) (xq (o:=.of x92) h59 h60 Ev112 rfl) fun h62=>ye (ji (if v107 > r105 then v107 else r105)) (zF h62 rfl) (zF h61 rfl) (xN (by first | rfl | simp [V.toks,V.tokss,Enc.toks_enc,yd])) ?_
   refine gz [(1,ji x2),(2,.fn 81 [.agg [eL x3.fs.1.a]] []),(3,.ref (.bx 3) 0 [] (.agg [eL x1.a])),(6,nI),(7,_),(8,ji x43),(30,eL r81),(31,ji (r81.length:Int)),(32,ji x93)] ⟨zd h1 rfl,zd h2 (za4 (zy (yL (zy uE rfl)) rfl) rfl),zd h3 (zH rfl rfl (yL (zy uE rfl))),zd h6 rfl,zd h7 Xu,zd h8 rfl,zd h30 uE,zd h31 rfl,zd h32 rfl⟩ ?_
   rintro s ⟨h1,h2,h3,h6,h7,h8,h30,h31,h32⟩
   exact Nt H x2 x3 x1 x43 r81 x93 c1 Hc1 c4 Hc4 (x92.set x43.toNat (if v107 > r105 then v107 else r105)) _ ⟨h1,h2,h3,h6,h7,h8,h30,h31,h32⟩ h
 refine .skip ?_
 exact Nt H x2 x3 x1 x43 r81 x93 c1 Hc1 c4 Hc4 x92 _ ⟨h1,h2,h3,h6,h7,h8,h30,h31,h32⟩ h
def zQ (F:Nat) (x2:Int) (x3:(Cl 81 ((S1 LI)×Unit) Unit)) (x1:(S1 LI)) (x43:Int) (r81:LI) (c1:LI→Int→Option LI):Nat→LI→Int→Option LI
 | 0,_,_=>none
 | k + 1,x92,x93=>
   bif decide (x93 < (r81.length:Int)) then
    (idx r81 x93).bind fun v104=>
    (wE F x3.fs.1 x43 v104).bind fun r105=>
    (Xr .i64 1 v104).bind fun q106=>
    (idx x92 (ior .i64 x43 q106)).bind fun v107=>
    bif (x93 == 0) then
     yK F x2 x3 x1 x92 x43 v107 r105 r81 x93 c1 (zQ F x2 x3 x1 x43 r81 c1 k) true
    else
     (idx x92 x43).bind fun v113=>
     yK F x2 x3 x1 x92 x43 v107 r105 r81 x93 c1 (zQ F x2 x3 x1 x43 r81 c1 k) (decide ((if v107 > r105 then v107 else r105) < v113))
   else
    c1 x92 (w64 (x43 - 1))
theorem zeH (H:zak D σ F) (x2:Int) (x3:(Cl 81 ((S1 LI)×Unit) Unit)) (x1:(S1 LI)) (x43:Int) (r81:LI) (c1:LI→Int→Option LI) (Hc1:∀ (x42:LI) (x43:Int) (s:Nat→V),zr [(1,ji x2),(2,.fn 81 [.agg [eL x3.fs.1.a]] []),(3,.ref (.bx 3) 0 [] (.agg [eL x1.a])),(6,nI),(7,oI 7 [] (.of x42)),(8,ji x43)] s→c1 x42 x43=some r→Run D σ (KA r) (.run ZN [.lp ZN,.bk 0,.sq Yp]) s):∀ (k:Nat) (x92:LI) (x93:Int) (s:Nat→V),zr [(1,ji x2),(2,.fn 81 [.agg [eL x3.fs.1.a]] []),(3,.ref (.bx 3) 0 [] (.agg [eL x1.a])),(6,nI),(7,oI 7 [] (.of x92)),(8,ji x43),(30,eL r81),(31,ji (r81.length:Int)),(32,ji x93)] s→zQ F x2 x3 x1 x43 r81 c1 k x92 x93=some r→Run D σ (KA r) (.run Wk [.lp Wk,.bk 2,.bk 1,.sq U0,.lp ZN,.bk 0,.sq Yp]) s:=by
 intro k
 induction k with
 | zero=>intro x92 x93 s _ h;exact nm h
 | succ k ih=>
   intro x92 x93 s hs h
   rw [zQ] at h
   obtain ⟨h1,h2,h3,h6,h7,h8,h30,h31,h32⟩:=hs
   refine .seq (rg (g2 32 31 (jb (decide (x93 < (r81.length:Int)))) h32 h31 fun h33=>gq (.nsq (.seq (zn h33 h (fun h=>?_) (fun h=>?_))))))
   · refine .skip (.nsq (.seq (.block (.seq (rg (gm h32 fun h34=>?_))))))
     obtain ⟨v104,Ev104,h⟩:=zb h
     refine gv (.ref .sh 0 [] (ji v104)) (yn (t:=.sh) (lo:=0) (xs:=r81) h30 h32 Ev104 rfl rfl) fun h35=>g1 35 (ji v104) h35 fun h36=>gm h34 fun h9=>gm h36 fun h10=>gq (.nsq (.seq (rg (gm h2 fun h37=>gm h8 fun h38=>gm h10 fun h39=>?_))))
     obtain ⟨r105,Er105,h⟩:=zb h
     refine zhe (m:=0) (al:=false) (r:=Enc.enc (r105:Int)) (fs:=[.agg [eL x3.fs.1.a]]) (env:=[]) (us:=[Enc.enc (x3.fs.1:(S1 LI))]) (ws:=[]) h37 (YP (Enc.erase_enc (x3.fs.1:(S1 LI))) Zf) Zf rfl [Enc.enc (x43:Int),Enc.enc (v104:Int)] (zf h38 rfl rfl (zf h39 rfl rfl zA)) (H.c81 _ _ _ _ Er105) H.g81 rfl rfl rfl rfl (gm h7 fun h41=>gm h8 fun h42=>gm h10 fun h43=>?_)
     obtain ⟨q106,Eq106,h⟩:=zb h
     refine gv (ji q106) (uo rfl h43 Eq106) fun h44=>g2 42 44 (ji (ior .i64 x43 q106)) h42 h44 fun h45=>?_
     obtain ⟨v107,Ev107,h⟩:=zb h
     refine gv (.ref (.at 7 []) ((ior .i64 x43 q106).toNat) [] (ji v107)) (xq (o:=.of x92) h41 h45 Ev107 rfl) fun h46=>g1 46 (ji v107) h46 fun h47=>g2 40 47 (ji (if v107 > r105 then v107 else r105)) (rf (ji r105)) h47 fun h48=>gm h48 fun h11=>gq (.nsq (.seq (rg (gm h9 fun h49=>g1 49 (jb (x93 == 0)) h49 fun h50=>gm h50 fun h51=>z4 h (fun hg3 h=>?_) (fun hg3 h=>?_)))))
     · iterate 6 refine zR (ct h51 hg3) ?_
       refine g2 51 57 (jb true) (ct h51 hg3) (rf (.tup [])) fun h58=>gz [(1,_),(2,_),(3,_),(6,_),(7,_),(8,_),(11,_),(30,_),(31,_),(32,_),(58,_)] ⟨h1,h2,h3,h6,h7,h8,h11,h30,h31,h32,h58⟩ ?_
       rintro s ⟨h1,h2,h3,h6,h7,h8,h11,h30,h31,h32,h58⟩
       exact Nq H x2 x3 x1 x92 x43 v107 r105 r81 x93 c1 Hc1 (zQ F x2 x3 x1 x43 r81 c1 k) ih true _ ⟨h1,h2,h3,h6,h7,h8,h11,h30,h31,h32,h58⟩ h
     refine zm (ct h51 hg3) (gm h11 fun h52=>zm (ct h51 hg3) (gm h7 fun h53=>zm (ct h51 hg3) (gm h8 fun h54=>?_)))
     obtain ⟨v113,Ev113,h⟩:=zb h
     refine zm (ct h51 hg3) (gv (.ref (.at 7 []) x43.toNat [] (ji v113)) (xq (o:=.of x92) h53 h54 Ev113 rfl) fun h55=>zm (ct h51 hg3) (g1 55 (ji v113) h55 fun h56=>zm (ct h51 hg3) (g2 52 56 (jb (decide ((if v107 > r105 then v107 else r105) < v113))) h52 h56 fun h57=>g2 51 57 (jb (decide ((if v107 > r105 then v107 else r105) < v113))) (ct h51 hg3) h57 fun h58=>gz [(1,_),(2,_),(3,_),(6,_),(7,_),(8,_),(11,_),(30,_),(31,_),(32,_),(58,_)] ⟨h1,h2,h3,h6,h7,h8,h11,h30,h31,h32,h58⟩ ?_)))
     rintro s ⟨h1,h2,h3,h6,h7,h8,h11,h30,h31,h32,h58⟩
     exact Nq H x2 x3 x1 x92 x43 v107 r105 r81 x93 c1 Hc1 (zQ F x2 x3 x1 x43 r81 c1 k) ih (decide ((if v107 > r105 then v107 else r105) < v113)) _ ⟨h1,h2,h3,h6,h7,h8,h11,h30,h31,h32,h58⟩ h
   refine .exit (.esq (.elp (.ebk (.nbk (.nsq (rg (gm h8 fun h20=>g1 20 (ji (w64 (x43 - 1))) h20 fun h21=>gm h21 fun h8=>gq (.nlp ?_))))))))
   exact Hc1 x92 (w64 (x43 - 1)) _ ⟨h1,h2,h3,h6,h7,h8⟩ h
def zM (F:Nat) (x2:Int) (x3:(Cl 81 ((S1 LI)×Unit) Unit)) (x1:(S1 LI)) :Nat→LI→Int→Option LI
 | 0,_,_=>none
 | k + 1,x42,x43=>
   bif decide (x43≥0) then
    (idx x42 x43).bind fun v79=>
    (xa F x1).bind fun r80=>
    (XN F (yW .i64 r80 x43)).bind fun r81=>
    zQ F x2 x3 x1 x43 r81 (zM F x2 x3 x1 k) F (x42.set x43.toNat x2) 0
   else
    some x42
theorem zev (H:zak D σ F) (x2:Int) (x3:(Cl 81 ((S1 LI)×Unit) Unit)) (x1:(S1 LI)) :∀ (k:Nat) (x42:LI) (x43:Int) (s:Nat→V),zr [(1,ji x2),(2,.fn 81 [.agg [eL x3.fs.1.a]] []),(3,.ref (.bx 3) 0 [] (.agg [eL x1.a])),(6,nI),(7,oI 7 [] (.of x42)),(8,ji x43)] s→zM F x2 x3 x1 k x42 x43=some r→Run D σ (KA r) (.run ZN [.lp ZN,.bk 0,.sq Yp]) s:=by
 intro k
 induction k with
 | zero=>intro x42 x43 s _ h;exact nm h
 | succ k ih=>
   intro x42 x43 s hs h
   rw [zM] at h
   obtain ⟨h1,h2,h3,h6,h7,h8⟩:=hs
   refine .seq (.seq (rg (gm h8 fun h18=>g1 18 (jb (decide (x43≥0))) h18 fun h19=>gq (.nsq (zn h19 h (fun h=>?_) (fun h=>?_))))))
   · refine .skip (.nsq (.seq (.block (.seq (rg (gm h7 fun h22=>gm h8 fun h23=>gm h1 fun h24=>?_))))))
     obtain ⟨v79,Ev79,h⟩:=zb h
     refine gv (.ref (.at 7 []) x43.toNat [] (ji v79)) (xq (o:=.of x42) h22 h23 Ev79 rfl) fun h25=>ye (ji x2) (zF h25 rfl) (zF h24 rfl) (xN (by first | rfl | simp [V.toks,V.tokss,Enc.toks_enc,yd])) (gz [(1,ji x2),(2,.fn 81 [.agg [eL x3.fs.1.a]] []),(3,.ref (.bx 3) 0 [] (.agg [eL x1.a])),(6,nI),(7,_),(8,ji x43)] ⟨zd h1 rfl,zd h2 (za4 (zy (yL (zy uE rfl)) rfl) rfl),zd h3 (zH rfl rfl (yL (zy uE rfl))),zd h6 rfl,zd h7 Xu,zd h8 rfl⟩ ?_)
     rintro s ⟨h1,h2,h3,h6,h7,h8⟩
     refine .nsq (.seq (rg (g1 3 (.agg [eL x1.a]) h3 fun h26=>?_)))
     obtain ⟨r80,Er80,h⟩:=zb h
     refine gcF [Enc.enc (x1:(S1 LI))] (zf h26 rfl (Enc.erase_enc (x1:(S1 LI))) zA) (H.c35 _ _ Er80) H.g35 (gm h8 fun h28=>g2 27 28 (ji (yW .i64 r80 x43)) (rf (ji r80)) h28 fun h29=>?_)
     obtain ⟨r81,Er81,h⟩:=zb h
     refine gcF [Enc.enc (yW .i64 r80 x43:Int)] (zf h29 rfl rfl zA) (H.c77 _ _ Er81) H.g77 (gl r81 rfl fun h31=>g0 (ji 0) fun h32=>gq (.nsq (.block (.loop ?_))))
     exact zeH H x2 x3 x1 x43 r81 (zM F x2 x3 x1 k) ih F (x42.set x43.toNat x2) 0 _ ⟨h1,h2,h3,h6,h7,h8,rfl,h31,h32⟩ h
   refine .exit (.esq (.elp (.ebk (.nsq (.seq (rg (gm h7 fun h64=>gm h64 fun h6=>yS (yu (r:=7) (x:=6) (v:=_) h6 rfl (fun s4 hz4=>?_)))))))))
   refine ez [(6,oI 6 [] (.of x42))] (hz4 6 _ _ h6 (zq (r:=7) (p:=[]) rfl rfl)) ?_
   rintro s h6
   refine .nsq (.ret ?_)
   obtain rfl:=oi h
   exact rrA (zo h6) (wY (wy (o:=.of x42)) (xD rfl))
def ym (F:Nat) (x1:(S1 LI)) (x2:Int) (x3:(Cl 81 ((S1 LI)×Unit) Unit)):Option LI:=
 (xa F x1).bind fun r4=>
 (mkN (w64 (r4 + 1)) (0:Int)).bind fun mk5=>
 (xa F x1).bind fun r6=>
 zM F x2 x3 x1 F mk5 r6
theorem zul (H:zak D σ F) (x1:(S1 LI)) (x2:Int) (x3:(Cl 81 ((S1 LI)×Unit) Unit)) (s:Nat→V) (hs:zr [(0,.agg [eL x1.a]),(1,ji x2),(2,.fn 81 [.agg [eL x3.fs.1.a]] [])] s) (h:ym F x1 x2 x3=some r):Run D σ (KA r) (.run zmM []) s:=by
 unfold ym at h
 obtain ⟨h0,h1,h2⟩:=hs
 refine .seq (zw (z3 ?_))
 refine ez [(0,_),(1,_),(2,_),(3,_)] ⟨za h0 rfl (zW (zh me zB)),za h1 rfl mi,za h2 rfl (LK (zh (zW (zh me zB)) zB) zB),ze rfl⟩ ?_
 rintro s ⟨h0,h1,h2,h3⟩
 refine xo (.agg [eL x1.a]) (zF h0 rfl) h3 rfl (g0 nI fun h6=>gq (.nsq (.seq (zw (z3 ?_)))))
 refine ez [(1,_),(2,_),(3,_),(6,_),(15,_)] ⟨za h1 rfl mi,za h2 rfl (LK (zh (zW (zh me zB)) zB) zB),za rfl rfl (zj rfl (zW (zh me zB))),za h6 rfl rfl,ze rfl⟩ ?_
 rintro s ⟨h1,h2,h3,h6,h15⟩
 refine g1 3 (.agg [eL x1.a]) h3 fun h12=>?_
 obtain ⟨r4,Er4,h⟩:=zb h
 refine gcF [Enc.enc (x1:(S1 LI))] (zf h12 rfl (Enc.erase_enc (x1:(S1 LI))) zA) (H.c35 _ _ Er4) H.g35 (g1 13 (ji (w64 (r4 + 1))) (rf (ji r4)) fun h14=>?_)
 obtain ⟨mk5,Emk5,h⟩:=zb h
 refine zdz (0:Int) h14 rfl h15 Emk5 (gm (rf (oI 15 [] (.of mk5))) fun h7=>yS (yu (r:=15) (x:=7) (v:=_) h7 rfl (fun s3 hz3=>?_)))
 refine ez [(1,ji x2),(2,.fn 81 [.agg [eL x3.fs.1.a]] []),(3,.ref (.bx 3) 0 [] (.agg [eL x1.a])),(6,nI),(7,oI 7 [] (.of mk5))] ⟨hz3 1 _ _ h1 mi,hz3 2 _ _ h2 (LK (zh (zW (zh me zB)) zB) zB),hz3 3 _ _ h3 (zj rfl (zW (zh me zB))),hz3 6 _ _ h6 rfl,hz3 7 _ _ h7 (zq (r:=15) (p:=[]) rfl rfl)⟩ ?_
 rintro s ⟨h1,h2,h3,h6,h7⟩
 refine .nsq (.seq (.seq (rg (g1 3 (.agg [eL x1.a]) h3 fun h16=>?_))))
 obtain ⟨r6,Er6,h⟩:=zb h
 refine gcF [Enc.enc (x1:(S1 LI))] (zf h16 rfl (Enc.erase_enc (x1:(S1 LI))) zA) (H.c35 _ _ Er6) H.g35 (gm (rf (ji r6)) fun h8=>gq (.nsq (.block (.loop ?_))))
 exact zev H x2 x3 x1 F mk5 r6 _ ⟨h1,h2,h3,h6,h7,h8⟩ h
end
def zj9 (F:Nat):Ent:=ent 67 (fun (x:((S1 LI)×Int×(Cl 81 ((S1 LI)×Unit) Unit)×Unit))=>ym F x.1 x.2.1 x.2.2.1) (fun (r:LI)=>(eL r)) 0 false [(2,81)]
abbrev zmL (D:List V→Option V) (F:Nat):Prop:=∀ (x0:(S1 LI)) (x1:Int) (x2:(Cl 81 ((S1 LI)×Unit) Unit)) r,ym F x0 x1 x2=some r→D [Enc.enc x0,Enc.enc x1,Arg.arg x2]=some (eL r)
theorem zrH {F:Nat}:zmL (zj9 F).den F:=fun x0 x1 x2 _ h=>zU (x0,x1,x2,()) h
theorem zp0 (hF:zG Try.prog D σ) (H:zak D σ F):(zj9 F).Ok Try.prog:=okZ (f:=67) Try.func67 fun ⟨x0,x1,x2,_⟩ y hy=>cR hF Try.func67 c67s1 (zul H x0 x1 x2 _ ⟨rfl,rfl,rfl⟩ hy)
def zsf:AC:=(.seq (rr [jv 3 (.load (.ag [.p]) (.t 1)),jv 4 (.load (.ag [.p]) (.t 1)),jv 5 (.fn 81 [.t 4] []),jx 6 (.call (jf 67) [.t 3,jn (-1),.t 5]),jm 2 6]) .ret)
def A66:AC:=(.seq (.reg [.clr [1]] [jx 1 (.box (.t 0)),jv 2 (.mov (.k (.sl .nl .s 0 [])))] []) zsf)
def zwI:List An:=[⟨0,[.clr [1]],[],[],[]⟩]
theorem c66:cq Try.prog Try.f66 zwI=some A66:=by kernel_rfl
structure H66 (D:Den) (σ:Sig) (F:Nat):Prop where
 c67s1:zmL (D 67) F
 g67s1:σ 67=some (0,false)
abbrev R66 (r:LI):(Nat→V)→Prop:=RR Try.prog [.tmp 2] 0 true (eL r)
section
variable {r:LI}
def w4 (F:Nat) (x1:(S1 LI)):Option LI:=
 (ym F x1 (-1) (Cl.mk (x1,()) ():(Cl 81 ((S1 LI)×Unit) Unit))).bind fun r2=>
 some r2
theorem t66 (H:H66 D σ F) (x1:(S1 LI)) (s:Nat→V) (hs:zr [(0,.agg [eL x1.a])] s) (h:w4 F x1=some r):Run D σ (R66 r) (.run A66 []) s:=by
 unfold w4 at h
 have h0:=hs
 refine .seq (zw (z3 ?_))
 refine ez [(0,_),(1,_)] ⟨za h0 rfl (zW (zh me zB)),ze rfl⟩ ?_
 rintro s ⟨h0,h1⟩
 refine xo (.agg [eL x1.a]) (zF h0 rfl) h1 rfl (g0 nI fun h2=>gq (.nsq (.seq (rg (g1 1 (.agg [eL x1.a]) (rf (.ref (.bx 1) 0 [] (.agg [eL x1.a]))) fun h3=>g1 1 (.agg [eL x1.a]) (rf (.ref (.bx 1) 0 [] (.agg [eL x1.a]))) fun h4=>g1 4 (.fn 81 [.agg [eL x1.a]] []) h4 fun h5=>?_)))))
 obtain ⟨r2,Er2,h⟩:=zb h
 refine gcF [Enc.enc (x1:(S1 LI)),Enc.enc ((-1):Int),Arg.arg ((Cl.mk (x1,()) ():(Cl 81 ((S1 LI)×Unit) Unit)):(Cl 81 ((S1 LI)×Unit) Unit))] (zf h3 rfl (Enc.erase_enc (x1:(S1 LI))) (zf (v:=ji (-1)) rfl rfl rfl (zf h5 rfl (zdQ (YP (Enc.erase_enc (x1:(S1 LI))) Zf) Zf) zA))) (H.c67s1 _ _ _ _ Er2) H.g67s1 (gm (rf (eL r2)) fun h2=>gq (.nsq (.ret ?_)))
 obtain rfl:=oi h
 exact rrA (zo h2) (ue (w6 (x:=(r2:LI))))
end
def e66 (F:Nat):Ent:=ent 66 (fun (x:((S1 LI)×Unit))=>w4 F x.1) (fun (r:LI)=>(eL r)) 0 true []
abbrev C66 (D:List V→Option V) (F:Nat):Prop:=∀ (x0:(S1 LI)) r,w4 F x0=some r→D [Enc.enc x0]=some (eL r)
theorem p66 {F:Nat}:C66 (e66 F).den F:=fun x0 _ h=>zU (x0,()) h
theorem o66 (hF:zG Try.prog D σ) (H:H66 D σ F):(e66 F).Ok Try.prog:=okZ (f:=66) Try.func66 fun ⟨x0,_⟩ y hy=>cR hF Try.func66 c66 (t66 H x0 _ rfl hy)
def zr7:AC:=(.seq (rr [jv 3 (.load (.ag [.p]) (.t 1)),jx 4 (.call (jf 66) [.t 3]),jv 5 (.idx (.t 4) (jn 0) 1),jl 6 5,jm 2 6]) .ret)
def A45:AC:=(.seq (.reg [.clr [1]] [jx 1 (.box (.t 0)),jv 2 (.mov (jn 0))] []) zr7)
def zxH:List An:=[⟨0,[.clr [1]],[],[],[]⟩]
theorem c45:cq Try.prog Try.f45 zxH=some A45:=by kernel_rfl
structure H45 (D:Den) (σ:Sig) (F:Nat):Prop where
 c66:C66 (D 66) F
 g66:σ 66=some (0,true)
abbrev R45 (r:Int):(Nat→V)→Prop:=RR Try.prog [.tmp 2] 0 false (Enc.enc (r:Int))
section
variable {r:Int}
def xZ (F:Nat) (x1:(S1 LI)):Option Int:=
 (w4 F x1).bind fun r2=>
 (idx r2 0).bind fun v3=>
 some v3
theorem t45 (H:H45 D σ F) (x1:(S1 LI)) (s:Nat→V) (hs:zr [(0,.agg [eL x1.a])] s) (h:xZ F x1=some r):Run D σ (R45 r) (.run A45 []) s:=by
 unfold xZ at h
 have h0:=hs
 refine .seq (zw (z3 ?_))
 refine ez [(0,_),(1,_)] ⟨za h0 rfl (zW (zh me zB)),ze rfl⟩ ?_
 rintro s ⟨h0,h1⟩
 refine xo (.agg [eL x1.a]) (zF h0 rfl) h1 rfl (g0 (ji 0) fun h2=>gq (.nsq (.seq (rg (g1 1 (.agg [eL x1.a]) (rf (.ref (.bx 1) 0 [] (.agg [eL x1.a]))) fun h3=>?_)))))
 obtain ⟨r2,Er2,h⟩:=zb h
 refine ZI (m:=0) (al:=true) (r:=eL r2) [Enc.enc (x1:(S1 LI))] (zf h3 rfl (Enc.erase_enc (x1:(S1 LI))) zA) (H.c66 _ _ Er2) H.g66 (ZP (xQ (v:=.agg [eL x1.a]) h3 rfl rfl Z2)) rfl rfl rfl ?_
 obtain ⟨v3,Ev3,h⟩:=zb h
 refine gv (.ref .sh 0 [] (ji v3)) (yn (t:=.sh) (lo:=0) (xs:=r2) rfl rfl Ev3 rfl rfl) fun h5=>g1 5 (ji v3) h5 fun h6=>gm h6 fun h2=>gq (.nsq (.ret ?_))
 obtain rfl:=oi h
 exact rrA (zo h2) rfl
end
def e45 (F:Nat):Ent:=ent 45 (fun (x:((S1 LI)×Unit))=>xZ F x.1) (fun (r:Int)=>(Enc.enc (r:Int))) 0 false []
abbrev C45 (D:List V→Option V) (F:Nat):Prop:=∀ (x0:(S1 LI)) r,xZ F x0=some r→D [Enc.enc x0]=some (Enc.enc (r:Int))
theorem p45 {F:Nat}:C45 (e45 F).den F:=fun x0 _ h=>zU (x0,()) h
theorem o45 (hF:zG Try.prog D σ) (H:H45 D σ F):(e45 F).Ok Try.prog:=okZ (f:=45) Try.func45 fun ⟨x0,_⟩ y hy=>cR hF Try.func45 c45 (t45 H x0 _ rfl hy)
def zmt:AC:=(.cond (.t 13) (.seq (rr [jv 4 (.mov kf),jv 5 (.mov kf)]) .ret) .skip)
def zm7:AC:=(.seq (rr [jm 14 1,jv 15 (.load (.ag [.s,.p]) (.t 2)),jx 16 (.call (jf 33) [.t 15]),jx 17 (.call (jf 45) [.t 16]),jv 18 (.bin .gtr (.t 14) (.t 17)),jm 4 18,jv 5 (.mov kt)]) .ret)
def zuY:AC:=(.seq (.seq (rr [jv 6 (.load (.ag [.s,.p]) (.t 2)),jx 7 (.call (jf 26) [.t 6]),jv 8 (.un .not (.t 7)),jm 9 8,jg 10 9 false (.mov (.t 1)),.mk (some 11) (some (9,false)) false (.call (jf 40) [.t 10,jn 0,jn 8]),jg 12 9 false (.un .not (.t 11)),jv 13 (.pick (.t 9) kt (.t 12))]) zmt) zm7)
def A19:AC:=(.seq (.reg [.clr [2]] [jx 2 (.box (.t 0)),jv 4 (.mov kf),jv 5 (.mov kf)] []) zuY)
def zwc:List An:=[⟨0,[.clr [2]],[],[],[]⟩]
theorem c19:cq Try.prog Try.f19 zwc=some A19:=by kernel_rfl
structure H19 (D:Den) (σ:Sig) (F:Nat):Prop where
 c26:C26 (D 26) F
 g26:σ 26=some (0,false)
 c40:C40 (D 40) F
 g40:σ 40=some (0,false)
 c33:C33 (D 33) F
 g33:σ 33=some (0,false)
 c45:C45 (D 45) F
 g45:σ 45=some (0,false)
abbrev R19 (r:(Bool×Bool)):(Nat→V)→Prop:=RR Try.prog [.tmp 4,.tmp 5] 0 false (.tup [Enc.enc (r.1:Bool),Enc.enc (r.2:Bool)])
section
variable {r:(Bool×Bool)}
def vl (F:Nat) (x2:Int) (x1:GR)  (x5:Bool):Option (Bool×Bool):=
 bif x5 then
  some (false,false)
 else
  (YA F x1).bind fun r6=>
  (xZ F r6).bind fun r7=>
  some (decide (x2 > r7),true)
theorem zcW (H:H19 D σ F) (x2:Int) (x1:GR)  (x5:Bool) (s:Nat→V) (hs:zr [(1,ji x2),(2,bG 2 x1),(4,jb false),(5,jb false),(13,jb x5)] s) (h:vl F x2 x1  x5=some r):Run D σ (R19 r) (.nrm [.sq zmt,.sq zm7]) s:=by
 unfold vl at h
 obtain ⟨h1,h2,h4,h5,h13⟩:=hs
 refine .nsq (zn h13 h (fun h=>?_) (fun h=>?_))
 · refine .seq (rg (g0 (jb false) fun h4=>g0 (jb false) fun h5=>gq (.nsq (.ret ?_))))
   obtain rfl:=oi h
   exact rrB (zo h4) (zo h5) rfl
 refine .skip (.nsq (.seq (rg (gm h1 fun h14=>g1 2 (gV x1) h2 fun h15=>?_))))
 obtain ⟨r6,Er6,h⟩:=zb h
 refine gcF [Enc.enc (x1:GR)] (zf h15 rfl (Enc.erase_enc (x1:GR)) zA) (H.c33 _ _ Er6) H.g33 ?_
 obtain ⟨r7,Er7,h⟩:=zb h
 refine gcF [Enc.enc (r6:(S1 LI))] (zf (v:=.agg [eL r6.a]) rfl rfl (Enc.erase_enc (r6:(S1 LI))) zA) (H.c45 _ _ Er7) H.g45 (g2 14 17 (jb (decide (x2 > r7))) h14 (rf (ji r7)) fun h18=>gm h18 fun h4=>g0 (jb true) fun h5=>gq (.nsq (.ret ?_)))
 obtain rfl:=oi h
 exact rrB (zo h4) (zo h5) rfl
def wA (F:Nat) (x1:GR) (x2:Int):Option (Bool×Bool):=
 (vh F x1).bind fun r8=>
 bif (!r8) then
  vl F x2 x1 true
 else
  (Yv F x2 0 8).bind fun r9=>
  vl F x2 x1 (!r9)
theorem t19 (H:H19 D σ F) (x1:GR) (x2:Int) (s:Nat→V) (hs:zr [(0,gV x1),(1,ji x2)] s) (h:wA F x1 x2=some r):Run D σ (R19 r) (.run A19 []) s:=by
 unfold wA at h
 obtain ⟨h0,h1⟩:=hs
 refine .seq (zw (z3 ?_))
 refine ez [(0,_),(1,_),(2,_)] ⟨za h0 rfl mIE,za h1 rfl mi,ze rfl⟩ ?_
 rintro s ⟨h0,h1,h2⟩
 refine xo (gV x1) (zF h0 rfl) h2 rfl (g0 (jb false) fun h4=>g0 (jb false) fun h5=>gq (.nsq (.seq (.seq (rg (g1 2 (gV x1) (rf (bG 2 x1)) fun h6=>?_))))))
 obtain ⟨r8,Er8,h⟩:=zb h
 refine gcF [Enc.enc (x1:GR)] (zf h6 rfl (Enc.erase_enc (x1:GR)) zA) (H.c26 _ _ Er8) H.g26 (g1 7 (jb (!r8)) (rf (jb r8)) fun h8=>gm h8 fun h9=>z4 h (fun hg4 h=>?_) (fun hg4 h=>?_))
 · iterate 3 refine zR (ct h9 hg4) ?_
   refine g2 9 12 (jb true) (ct h9 hg4) (rf (.tup [])) fun h13=>gq ?_
   exact zcW H x2 x1 true _ ⟨h1,rfl,h4,h5,h13⟩ h
 refine zm (ct h9 hg4) (gm h1 fun h10=>?_)
 obtain ⟨r9,Er9,h⟩:=zb h
 refine zm (ct h9 hg4) (gcF [Enc.enc (x2:Int),Enc.enc (0:Int),Enc.enc (8:Int)] (zf h10 rfl rfl (zf (v:=ji 0) rfl rfl rfl (zf (v:=ji 8) rfl rfl rfl zA))) (H.c40 _ _ _ _ Er9) H.g40 (zm (ct h9 hg4) (g1 11 (jb (!r9)) (rf (jb r9)) fun h12=>g2 9 12 (jb (!r9)) (ct h9 hg4) h12 fun h13=>gq ?_)))
 exact zcW H x2 x1 (!r9) _ ⟨h1,rfl,h4,h5,h13⟩ h
end
def e19 (F:Nat):Ent:=ent 19 (fun (x:(GR×Int×Unit))=>wA F x.1 x.2.1) (fun (r:(Bool×Bool))=>(.tup [Enc.enc (r.1:Bool),Enc.enc (r.2:Bool)])) 0 false []
abbrev C19 (D:List V→Option V) (F:Nat):Prop:=∀ (x0:GR) (x1:Int) r,wA F x0 x1=some r→D [Enc.enc x0,Enc.enc x1]=some (.tup [Enc.enc (r.1:Bool),Enc.enc (r.2:Bool)])
theorem p19 {F:Nat}:C19 (e19 F).den F:=fun x0 x1 _ h=>zU (x0,x1,()) h
theorem o19 (hF:zG Try.prog D σ) (H:H19 D σ F):(e19 F).Ok Try.prog:=okZ (f:=19) Try.func19 fun ⟨x0,x1,_⟩ y hy=>cR hF Try.func19 c19 (t19 H x0 x1 _ ⟨rfl,rfl⟩ hy)
def zu3:AC:=(.cond (.t 22) (rr [jm 23 5,jm 24 7,jv 25 (.bin .shl (jn 1) (.t 24)),jv 26 (.bin .or (.t 23) (.t 25)),jm 5 26]) .skip)
def zry:AC:=(.seq (rr [jv 15 (.fld (.t 2) 0 0),jv 16 (.load .p (.t 15)),jm 17 7,jv 18 (.idx (.t 16) (.t 17) 1),jl 19 18,jm 20 1,jv 21 (.bin .andNot (.t 19) (.t 20)),jv 22 (.bin .neq (.t 21) (jn 0))]) zu3)
def zmW:AC:=(rr [jv 27 (.bin .add (.t 11) (jn 1)),jm 11 27])
def zqB:AC:=(.seq (.block 1 (.seq (rr [jv 13 (.idx (.t 9) (.t 11) 1),jl 14 13,jm 7 14]) zry)) zmW)
def zqq:AC:=(.seq (.cond (.t 12) .skip (.exit 0)) zqB)
def zar:AC:=(.seq (rr [jv 12 (.bin .lss (.t 11) (.t 10))]) zqq)
def zgj:AC:=(.seq (rr [jm 28 5,jm 4 28]) .ret)
def znA:AC:=(.block 0 (.loop zar))
def zq5:AC:=(.seq (.seq (rr [jm 8 1,jx 9 (.call (jf 77) [.t 8]),jk 10 9,jv 11 (.mov (jn 0))]) znA) zgj)
def zus:AC:=(.seq (rr [jv 5 (.mov (jn 0))]) zq5)
def A82:AC:=(.seq (.reg [.clr [2]] [jx 2 (.box (.t 0)),jv 4 (.mov (jn 0))] []) zus)
def zxk:List An:=[⟨0,[.clr [2]],[],[],[]⟩]
theorem c82:cq Try.prog Try.f82 zxk=some A82:=by kernel_rfl
structure H82 (D:Den) (σ:Sig) (F:Nat):Prop where
 c77:C77 (D 77) F
 g77:σ 77=some (0,false)
abbrev R82 (r:Int):(Nat→V)→Prop:=RR Try.prog [.tmp 4] 0 false (Enc.enc (r:Int))
section
variable {r:Int}
def ZZ (F:Nat) (x2:Int) (x1:(S1 LI)) (r3:LI) (x10:Int) (c1:Int→Int→Option Int) (x19:Int):Option Int:=
 c1 x19 (w64 (x10 + 1))
theorem zdC (H:H82 D σ F) (x2:Int) (x1:(S1 LI)) (r3:LI) (x10:Int) (c1:Int→Int→Option Int) (Hc1:∀ (x9:Int) (x10:Int) (s:Nat→V),zr [(1,ji x2),(2,.ref (.bx 2) 0 [] (.agg [eL x1.a])),(4,ji 0),(5,ji x9),(9,eL r3),(10,ji (r3.length:Int)),(11,ji x10)] s→c1 x9 x10=some r→Run D σ (R82 r) (.run zar [.lp zar,.bk 0,.sq zgj]) s) (x19:Int) (s:Nat→V) (hs:zr [(1,ji x2),(2,.ref (.bx 2) 0 [] (.agg [eL x1.a])),(4,ji 0),(5,ji x19),(9,eL r3),(10,ji (r3.length:Int)),(11,ji x10)] s) (h:ZZ F x2 x1 r3 x10 c1 x19=some r):Run D σ (R82 r) (.nrm [.bk 1,.sq zmW,.lp zar,.bk 0,.sq zgj]) s:=by
 unfold ZZ at h
 obtain ⟨h1,h2,h4,h5,h9,h10,h11⟩:=hs
 refine .nbk (.nsq (rg (g1 11 (ji (w64 (x10 + 1))) h11 fun h27=>gm h27 fun h11=>gq (.nlp ?_))))
 exact Hc1 x19 (w64 (x10 + 1)) _ ⟨h1,h2,h4,h5,h9,h10,h11⟩ h
def xS (F:Nat) (x2:Int) (x1:(S1 LI)) (r3:LI) :Nat→Int→Int→Option Int
 | 0,_,_=>none
 | k + 1,x9,x10=>
   bif decide (x10 < (r3.length:Int)) then
    (idx r3 x10).bind fun v16=>
    (idx x1.a v16).bind fun v17=>
    bif ((yW .i64 v17 x2) != 0) then
     (Xr .i64 1 v16).bind fun q20=>
     ZZ F x2 x1 r3 x10 (xS F x2 x1 r3 k) (ior .i64 x9 q20)
    else
     ZZ F x2 x1 r3 x10 (xS F x2 x1 r3 k) x9
   else
    some x9
theorem zjd (H:H82 D σ F) (x2:Int) (x1:(S1 LI)) (r3:LI) :∀ (k:Nat) (x9:Int) (x10:Int) (s:Nat→V),zr [(1,ji x2),(2,.ref (.bx 2) 0 [] (.agg [eL x1.a])),(4,ji 0),(5,ji x9),(9,eL r3),(10,ji (r3.length:Int)),(11,ji x10)] s→xS F x2 x1 r3 k x9 x10=some r→Run D σ (R82 r) (.run zar [.lp zar,.bk 0,.sq zgj]) s:=by
 intro k
 induction k with
 | zero=>intro x9 x10 s _ h;exact nm h
 | succ k ih=>
   intro x9 x10 s hs h
   rw [xS] at h
   obtain ⟨h1,h2,h4,h5,h9,h10,h11⟩:=hs
   refine .seq (rg (g2 11 10 (jb (decide (x10 < (r3.length:Int)))) h11 h10 fun h12=>gq (.nsq (.seq (zn h12 h (fun h=>?_) (fun h=>?_))))))
   · refine .skip (.nsq (.seq (.block (.seq (rg ?_)))))
     obtain ⟨v16,Ev16,h⟩:=zb h
     refine gv (.ref .sh 0 [] (ji v16)) (yn (t:=.sh) (lo:=0) (xs:=r3) h9 h11 Ev16 rfl rfl) fun h13=>g1 13 (ji v16) h13 fun h14=>gm h14 fun h7=>gq (.nsq (.seq (rg (g1 2 (.ref (.bx 2) 0 [0] (eL x1.a)) h2 fun h15=>g1 15 (eL x1.a) h15 fun h16=>gm h7 fun h17=>?_))))
     obtain ⟨v17,Ev17,h⟩:=zb h
     refine gv (.ref .sh 0 [] (ji v17)) (yn (t:=.sh) (lo:=0) (xs:=x1.a) h16 h17 Ev17 rfl rfl) fun h18=>g1 18 (ji v17) h18 fun h19=>gm h1 fun h20=>g2 19 20 (ji (yW .i64 v17 x2)) h19 h20 fun h21=>g1 21 (jb ((yW .i64 v17 x2) != 0)) h21 fun h22=>gq (.nsq (zn h22 h (fun h=>?_) (fun h=>?_)))
     · refine rg (gm h5 fun h23=>gm h7 fun h24=>?_)
       obtain ⟨q20,Eq20,h⟩:=zb h
       refine gv (ji q20) (uo rfl h24 Eq20) fun h25=>g2 23 25 (ji (ior .i64 x9 q20)) h23 h25 fun h26=>gm h26 fun h5=>gq ?_
       exact zdC H x2 x1 r3 x10 (xS F x2 x1 r3 k) ih (ior .i64 x9 q20) _ ⟨h1,h2,h4,h5,h9,h10,h11⟩ h
     refine .skip ?_
     exact zdC H x2 x1 r3 x10 (xS F x2 x1 r3 k) ih x9 _ ⟨h1,h2,h4,h5,h9,h10,h11⟩ h
   refine .exit (.esq (.elp (.ebk (.nsq (.seq (rg (gm h5 fun h28=>gm h28 fun h4=>gq (.nsq (.ret ?_)))))))))
   obtain rfl:=oi h
   exact rrA (zo h4) rfl
def Z5 (F:Nat) (x1:(S1 LI)) (x2:Int):Option Int:=
 (XN F x2).bind fun r3=>
 xS F x2 x1 r3 F 0 0
theorem t82 (H:H82 D σ F) (x1:(S1 LI)) (x2:Int) (s:Nat→V) (hs:zr [(0,.agg [eL x1.a]),(1,ji x2)] s) (h:Z5 F x1 x2=some r):Run D σ (R82 r) (.run A82 []) s:=by
 unfold Z5 at h
 obtain ⟨h0,h1⟩:=hs
 refine .seq (zw (z3 ?_))
 refine ez [(0,_),(1,_),(2,_)] ⟨za h0 rfl (zW (zh me zB)),za h1 rfl mi,ze rfl⟩ ?_
 rintro s ⟨h0,h1,h2⟩
 refine xo (.agg [eL x1.a]) (zF h0 rfl) h2 rfl (g0 (ji 0) fun h4=>gq (.nsq (.seq (rg (g0 (ji 0) fun h5=>gq (.nsq (.seq (.seq (rg (gm h1 fun h8=>?_))))))))))
 obtain ⟨r3,Er3,h⟩:=zb h
 refine gcF [Enc.enc (x2:Int)] (zf h8 rfl rfl zA) (H.c77 _ _ Er3) H.g77 (gl r3 rfl fun h10=>g0 (ji 0) fun h11=>gq (.nsq (.block (.loop ?_))))
 exact zjd H x2 x1 r3 F 0 0 _ ⟨h1,rfl,h4,h5,rfl,h10,h11⟩ h
end
def e82 (F:Nat):Ent:=ent 82 (fun (x:((S1 LI)×Int×Unit))=>Z5 F x.1 x.2.1) (fun (r:Int)=>(Enc.enc (r:Int))) 0 false []
abbrev C82 (D:List V→Option V) (F:Nat):Prop:=∀ (x0:(S1 LI)) (x1:Int) r,Z5 F x0 x1=some r→D [Enc.enc x0,Enc.enc x1]=some (Enc.enc (r:Int))
theorem p82 {F:Nat}:C82 (e82 F).den F:=fun x0 x1 _ h=>zU (x0,x1,()) h
theorem o82 (hF:zG Try.prog D σ) (H:H82 D σ F):(e82 F).Ok Try.prog:=okZ (f:=82) Try.func82 fun ⟨x0,x1,_⟩ y hy=>cR hF Try.func82 c82 (t82 H x0 x1 _ ⟨rfl,rfl⟩ hy)
end Go.Zq
