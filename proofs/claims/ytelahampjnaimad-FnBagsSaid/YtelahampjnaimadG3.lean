/- Functions of the program as typed functions, and that the machine runs as they say (part 3). No further condition. -/
import Derived.Test.YtelahampjnaimadK4
import Derived.Test.YtelahampjnaimadProg
import Derived.Test.YtelahampjnaimadChecked
import Derived.KernelRfl
import Derived.Test.YtelahampjnaimadG2
set_option linter.unusedVariables false
set_option linter.unusedSimpArgs false
namespace Go.Zq
open Go.Proofs
variable {D:Den} {σ:Sig} {F:Nat}
def zqY:AC:=(.cond (.t 14) (.seq (.reg [.clr [15]] [jx 15 (.lit (.sl .nl .s 0 []) 0 []),jm 4 15,jv 5 (.mov kf)] [.home 15 4]) .ret) .skip)
def zq3:AC:=(.seq (rr [jv 16 (.load (.ag [.s,.p]) (.t 2)),jm 17 1,jx 18 (.call (jf 27) [.t 16,.t 17]),jm 4 18,jv 5 (.mov kt)]) .ret)
def zuJ:AC:=(.seq (.seq (rr [jv 6 (.load (.ag [.s,.p]) (.t 2)),jx 7 (.call (jf 25) [.t 6]),jv 8 (.un .not (.t 7)),jm 9 8,jg 10 9 false (.load (.ag [.s,.p]) (.t 2)),jg 11 9 false (.mov (.t 1)),.mk (some 12) (some (9,false)) false (.call (jf 26) [.t 10,.t 11]),jg 13 9 false (.un .not (.t 12)),jv 14 (.pick (.t 9) kt (.t 13))]) zqY) zq3)
def A7:AC:=(.seq (.reg [.clr [2]] [jx 2 (.box (.t 0)),jv 4 (.mov (.k (.sl .nl .p 0 []))),jv 5 (.mov kf)] []) zuJ)
def an7:List An:=[⟨0,[.clr [2]],[],[],[]⟩,⟨2,[.clr [15]],[],[],[.home 15 4]⟩]
theorem c7:cq Try.prog Try.f7 an7=some A7:=by kernel_rfl
structure H7 (D:Den) (σ:Sig) (F:Nat):Prop where
 c25:C25 (D 25) F
 g25:σ 25=some (0,false)
 c26:C26 (D 26) F
 g26:σ 26=some (0,false)
 c27:C27 (D 27) F
 g27:σ 27=some (0,true)
abbrev R7 (r:((List LI)×Bool)):(Nat→V)→Prop:=RR Try.prog [.tmp 4,.tmp 5] 0 true (.tup [Enc.enc (r.1:(List LI)),Enc.enc (r.2:Bool)])
section
variable {r:((List LI)×Bool)}
def vu (F:Nat) (x2:LI) (x1:GR)  (x5:Bool):Option ((List LI)×Bool):=
 bif x5 then
  some ([],false)
 else
  (ZK F x1 x2).bind fun r6=>
  some (r6,true)
theorem zeb (H:H7 D σ F) (x2:LI) (x1:GR)  (x5:Bool) (s:Nat→V) (hs:zr [(1,eL x2),(2,bG 2 x1),(4,.sl .nl (Enc.shp LI) 0 []),(5,jb false),(14,jb x5)] s) (h:vu F x2 x1  x5=some r):Run D σ (R7 r) (.nrm [.sq zqY,.sq zq3]) s:=by
 unfold vu at h
 obtain ⟨h1,h2,h4,h5,h14⟩:=hs
 refine .nsq (zk h14 h (fun h=>?_) (fun h=>?_))
 · refine .seq (zC (ye ?_))
   refine ez [(1,_),(2,_),(4,_),(5,_),(15,_)] ⟨za h1 rfl me,za h2 rfl (zi rfl mIE),za h4 rfl rfl,za h5 rfl mb,ze rfl⟩ ?_
   rintro s ⟨h1,h2,h4,h5,h15⟩
   refine wm [] [] trivial rfl rfl h15 (gm (rf (zm (.at 15 []) (.of ([]:List LI)))) fun h4=>g0 (jb false) fun h5=>yS (yF (r:=15) (x:=4) (v:=_) h4 rfl (fun s5 hz5=>?_)))
   refine ez [(1,eL x2),(2,bG 2 x1),(4,zm (.at 4 []) (.of ([]:List LI))),(5,jb false)] ⟨hz5 1 _ _ h1 me,hz5 2 _ _ h2 (zi rfl mIE),hz5 4 _ _ h4 (zp (r:=15) (p:=[]) rfl rfl),hz5 5 _ _ h5 mb⟩ ?_
   rintro s ⟨h1,h2,h4,h5⟩
   refine .nsq (.ret ?_)
   obtain rfl:=oi h
   exact rrB (zl h4) (zl h5) (ZC (Zh (yG (ui (o:=.of [])) (yG (w7 (x:=(false:Bool))) vt))))
 refine .skip (.nsq (.seq (rg (g1 2 (gV x1) h2 fun h16=>gm h1 fun h17=>?_))))
 obtain ⟨r6,Er6,h⟩:=zb h
 refine Wj (m:=0) (al:=true) (r:=Enc.enc (r6:(List LI))) [Enc.enc (x1:GR),eL x2] (zg h16 rfl (Enc.erase_enc (x1:GR)) (zg h17 rfl (Enc.erase_enc (x2:LI)) zF)) (H.c27 _ _ _ Er6) H.g27 (We (vn (v:=gV x1) h16 rfl rfl (vn (v:=eL x2) h17 rfl rfl Wd))) rfl rfl rfl (gm (rf (Enc.enc (r6:List LI))) fun h4=>g0 (jb true) fun h5=>gq (.nsq (.ret ?_)))
 obtain rfl:=oi h
 exact rrB (zl h4) (zl h5) (ZC (Zh (yG (w7 (x:=(r6:(List LI)))) (yG (w7 (x:=(true:Bool))) vt))))
def wC (F:Nat) (x1:GR) (x2:LI):Option ((List LI)×Bool):=
 (uG F x1).bind fun r7=>
 bif (!r7) then
  vu F x2 x1 true
 else
  (vI F x1 x2).bind fun r8=>
  vu F x2 x1 (!r8)
theorem t7 (H:H7 D σ F) (x1:GR) (x2:LI) (s:Nat→V) (hs:zr [(0,gV x1),(1,eL x2)] s) (h:wC F x1 x2=some r):Run D σ (R7 r) (.run A7 []) s:=by
 unfold wC at h
 obtain ⟨h0,h1⟩:=hs
 refine .seq (zC (ye ?_))
 refine ez [(0,_),(1,_),(2,_)] ⟨za h0 rfl mIE,za h1 rfl me,ze rfl⟩ ?_
 rintro s ⟨h0,h1,h2⟩
 refine wa (gV x1) (zI h0 rfl) h2 rfl (g0 (.sl .nl (Enc.shp LI) 0 []) fun h4=>g0 (jb false) fun h5=>gq (.nsq (.seq (.seq (rg (g1 2 (gV x1) (rf (bG 2 x1)) fun h6=>?_))))))
 obtain ⟨r7,Er7,h⟩:=zb h
 refine gcF [Enc.enc (x1:GR)] (zg h6 rfl (Enc.erase_enc (x1:GR)) zF) (H.c25 _ _ Er7) H.g25 (g1 7 (jb (!r7)) (rf (jb r7)) fun h8=>gm h8 fun h9=>z6 h (fun hg4 h=>?_) (fun hg4 h=>?_))
 · iterate 4 refine yJ (ct h9 hg4) ?_
   refine g2 9 13 (jb true) (ct h9 hg4) (rf (.tup [])) fun h14=>gq ?_
   exact zeb H x2 x1 true _ ⟨h1,rfl,h4,h5,h14⟩ h
 refine zo (ct h9 hg4) (g1 2 (gV x1) (rf (bG 2 x1)) fun h10=>zo (ct h9 hg4) (gm h1 fun h11=>?_))
 obtain ⟨r8,Er8,h⟩:=zb h
 refine zo (ct h9 hg4) (gcF [Enc.enc (x1:GR),eL x2] (zg h10 rfl (Enc.erase_enc (x1:GR)) (zg h11 rfl (Enc.erase_enc (x2:LI)) zF)) (H.c26 _ _ _ Er8) H.g26 (zo (ct h9 hg4) (g1 12 (jb (!r8)) (rf (jb r8)) fun h13=>g2 9 13 (jb (!r8)) (ct h9 hg4) h13 fun h14=>gq ?_)))
 exact zeb H x2 x1 (!r8) _ ⟨h1,rfl,h4,h5,h14⟩ h
end
def e7 (F:Nat):Ent:=ent 7 (fun (x:(GR×LI×Unit))=>wC F x.1 x.2.1) (fun (r:((List LI)×Bool))=>(.tup [Enc.enc (r.1:(List LI)),Enc.enc (r.2:Bool)])) 0 true []
abbrev C7 (D:List V→Option V) (F:Nat):Prop:=∀ (x0:GR) (x1:LI) r,wC F x0 x1=some r→D [Enc.enc x0,Enc.enc x1]=some (.tup [Enc.enc (r.1:(List LI)),Enc.enc (r.2:Bool)])
theorem p7 {F:Nat}:C7 (e7 F).den F:=fun x0 x1 _ h=>zR (x0,x1,()) h
theorem o7 (hF:zw Try.prog D σ) (H:H7 D σ F):(e7 F).Ok Try.prog:=okZ (f:=7) Try.func7 fun ⟨x0,x1,_⟩ y hy=>cR hF Try.func7 c7 (t7 H x0 x1 _ ⟨rfl,rfl⟩ hy)
def zrK:AC:=(.cond (.t 14) .skip (.exit 0))
def zsP:AC:=(.cond (.t 25) (.seq (rr [jv 4 (.mov kf)]) .ret) .skip)
def zoq:AC:=(rr [jm 15 5,jv 16 (.bin .add (.t 15) (jn 1)),jm 5 16])
def zsH:AC:=(.seq (.block 1 (.seq (rr [jm 17 0,jm 18 5,jv 19 (.idx (.t 17) (.t 18) 1),jl 20 19,jm 21 1,jm 22 5,jv 23 (.idx (.t 21) (.t 22) 1),jl 24 23,jv 25 (.bin .neq (.t 20) (.t 24))]) zsP)) zoq)
def zhO:AC:=(.seq (.seq (rr [jm 11 5,jm 12 0,jk 13 12,jv 14 (.bin .lss (.t 11) (.t 13))]) zrK) zsH)
def zkZ:AC:=(.seq (rr [jv 4 (.mov kt)]) .ret)
def zrS:AC:=(.cond (.t 10) (.seq (rr [jv 4 (.mov kf)]) .ret) .skip)
def znF:AC:=(.block 0 (.loop zhO))
def zs0:AC:=(.seq (.seq (rr [jv 5 (.mov (jn 0))]) znF) zkZ)
def zpA:AC:=(.seq (.seq (rr [jm 6 0,jk 7 6,jm 8 1,jk 9 8,jv 10 (.bin .neq (.t 7) (.t 9))]) zrS) zs0)
def A14:AC:=(.seq (rr [jv 4 (.mov kf)]) zpA)
def zuG:List An:=[]
theorem c14:cq Try.prog Try.f14 zuG=some A14:=by kernel_rfl
structure H14 (D:Den) (σ:Sig) (F:Nat):Prop where
 mk ::
abbrev R14 (r:Bool):(Nat→V)→Prop:=RR Try.prog [.tmp 4] 0 false (Enc.enc (r:Bool))
section
variable {r:Bool}
def ZQ (F:Nat) (x1:LI) (x2:LI) :Nat→Int→Option Bool
 | 0,_=>none
 | k + 1,x5=>
   bif decide (x5 < (x1.length:Int)) then
    (idx x1 x5).bind fun v8=>
    (idx x2 x5).bind fun v9=>
    bif (v8 != v9) then
     some false
    else
     (ZQ F x1 x2 k) (w64 (x5 + 1))
   else
    some true
theorem zip (H:H14 D σ F) (x1:LI) (x2:LI) :∀ (k:Nat) (x5:Int) (s:Nat→V),zr [(0,eL x1),(1,eL x2),(4,jb false),(5,ji x5)] s→ZQ F x1 x2 k x5=some r→Run D σ (R14 r) (.run zhO [.lp zhO,.bk 0,.sq zkZ]) s:=by
 intro k
 induction k with
 | zero=>intro x5 s _ h;exact nm h
 | succ k ih=>
   intro x5 s hs h
   rw [ZQ] at h
   obtain ⟨h0,h1,h4,h5⟩:=hs
   refine .seq (.seq (rg (gm h5 fun h11=>gm h0 fun h12=>gl x1 h12 fun h13=>g2 11 13 (jb (decide (x5 < (x1.length:Int)))) h11 h13 fun h14=>gq (.nsq (zk h14 h (fun h=>?_) (fun h=>?_))))))
   · refine .skip (.nsq (.seq (.block (.seq (rg (gm h0 fun h17=>gm h5 fun h18=>?_))))))
     obtain ⟨v8,Ev8,h⟩:=zb h
     refine gv (.ref .sh 0 [] (ji v8)) (yn (t:=.sh) (lo:=0) (xs:=x1) h17 h18 Ev8 rfl rfl) fun h19=>g1 19 (ji v8) h19 fun h20=>gm h1 fun h21=>gm h5 fun h22=>?_
     obtain ⟨v9,Ev9,h⟩:=zb h
     refine gv (.ref .sh 0 [] (ji v9)) (yn (t:=.sh) (lo:=0) (xs:=x2) h21 h22 Ev9 rfl rfl) fun h23=>g1 23 (ji v9) h23 fun h24=>g2 20 24 (jb (v8 != v9)) h20 h24 fun h25=>gq (.nsq (zk h25 h (fun h=>?_) (fun h=>?_)))
     · refine .seq (rg (g0 (jb false) fun h4=>gq (.nsq (.ret ?_))))
       obtain rfl:=oi h
       exact rrA (zl h4) rfl
     refine .skip (.nbk (.nsq (rg (gm h5 fun h15=>g1 15 (ji (w64 (x5 + 1))) h15 fun h16=>gm h16 fun h5=>gq (.nlp ?_)))))
     exact ih (w64 (x5 + 1)) _ ⟨h0,h1,h4,h5⟩ h
   refine .exit (.esq (.elp (.ebk (.nsq (.seq (rg (g0 (jb true) fun h4=>gq (.nsq (.ret ?_)))))))))
   obtain rfl:=oi h
   exact rrA (zl h4) rfl
def YB (F:Nat) (x1:LI) (x2:LI):Option Bool:=
 bif ((x1.length:Int) != (x2.length:Int)) then
  some false
 else
  ZQ F x1 x2 F 0
theorem t14 (H:H14 D σ F) (x1:LI) (x2:LI) (s:Nat→V) (hs:zr [(0,eL x1),(1,eL x2)] s) (h:YB F x1 x2=some r):Run D σ (R14 r) (.run A14 []) s:=by
 unfold YB at h
 obtain ⟨h0,h1⟩:=hs
 refine .seq (rg (g0 (jb false) fun h4=>gq (.nsq (.seq (.seq (rg (gm h0 fun h6=>gl x1 h6 fun h7=>gm h1 fun h8=>gl x2 h8 fun h9=>g2 7 9 (jb ((x1.length:Int) != (x2.length:Int))) h7 h9 fun h10=>gq (.nsq (zk h10 h (fun h=>?_) (fun h=>?_))))))))))
 · refine .seq (rg (g0 (jb false) fun h4=>gq (.nsq (.ret ?_))))
   obtain rfl:=oi h
   exact rrA (zl h4) rfl
 refine .skip (.nsq (.seq (.seq (rg (g0 (ji 0) fun h5=>gq (.nsq (.block (.loop ?_))))))))
 exact zip H x1 x2 F 0 _ ⟨h0,h1,h4,h5⟩ h
end
def e14 (F:Nat):Ent:=ent 14 (fun (x:(LI×LI×Unit))=>YB F x.1 x.2.1) (fun (r:Bool)=>(Enc.enc (r:Bool))) 0 false []
abbrev C14 (D:List V→Option V) (F:Nat):Prop:=∀ (x0:LI) (x1:LI) r,YB F x0 x1=some r→D [Enc.enc x0,Enc.enc x1]=some (Enc.enc (r:Bool))
theorem p14 {F:Nat}:C14 (e14 F).den F:=fun x0 x1 _ h=>zR (x0,x1,()) h
theorem o14 (hF:zw Try.prog D σ) (H:H14 D σ F):(e14 F).Ok Try.prog:=okZ (f:=14) Try.func14 fun ⟨x0,x1,_⟩ y hy=>cR hF Try.func14 c14 (t14 H x0 x1 _ ⟨rfl,rfl⟩ hy)
def zuo:AC:=(.cond (.t 14) .skip (.exit 0))
def zuA:AC:=(.cond (.t 26) (.seq (rr [jv 4 (.mov kf)]) .ret) .skip)
def ztU:AC:=(rr [jm 15 5,jv 16 (.bin .add (.t 15) (jn 1)),jm 5 16])
def ztV:AC:=(.seq (.block 1 (.seq (rr [jm 17 0,jm 18 5,jv 19 (.idx (.t 17) (.t 18) 1),jv 20 (.load .p (.t 19)),jm 21 1,jm 22 5,jv 23 (.idx (.t 21) (.t 22) 1),jv 24 (.load .p (.t 23)),jx 25 (.call (jf 14) [.t 20,.t 24]),jv 26 (.un .not (.t 25))]) zuA)) ztU)
def znA:AC:=(.seq (.seq (rr [jm 11 5,jm 12 0,jk 13 12,jv 14 (.bin .lss (.t 11) (.t 13))]) zuo) ztV)
def znQ:AC:=(.seq (rr [jv 4 (.mov kt)]) .ret)
def zuq:AC:=(.cond (.t 10) (.seq (rr [jv 4 (.mov kf)]) .ret) .skip)
def zsM:AC:=(.block 0 (.loop znA))
def zuB:AC:=(.seq (.seq (rr [jv 5 (.mov (jn 0))]) zsM) znQ)
def zuN:AC:=(.seq (.seq (rr [jm 6 0,jk 7 6,jm 8 1,jk 9 8,jv 10 (.bin .neq (.t 7) (.t 9))]) zuq) zuB)
def A8:AC:=(.seq (rr [jv 4 (.mov kf)]) zuN)
def an8:List An:=[]
theorem c8:cq Try.prog Try.f8 an8=some A8:=by kernel_rfl
structure H8 (D:Den) (σ:Sig) (F:Nat):Prop where
 c14:C14 (D 14) F
 g14:σ 14=some (0,false)
abbrev R8 (r:Bool):(Nat→V)→Prop:=RR Try.prog [.tmp 4] 0 false (Enc.enc (r:Bool))
section
variable {r:Bool}
def uH (F:Nat) (x1:(List LI)) (x2:(List LI)) :Nat→Int→Option Bool
 | 0,_=>none
 | k + 1,x6=>
   bif decide (x6 < (x1.length:Int)) then
    (idx x1 x6).bind fun v10=>
    (idx x2 x6).bind fun v11=>
    (YB F v10 v11).bind fun r12=>
    bif (!r12) then
     some false
    else
     (uH F x1 x2 k) (w64 (x6 + 1))
   else
    some true
theorem ziV (H:H8 D σ F) (x1:(List LI)) (x2:(List LI)) :∀ (k:Nat) (x6:Int) (s:Nat→V),zr [(0,Enc.enc (x1:List LI)),(1,Enc.enc (x2:List LI)),(4,jb false),(5,ji x6)] s→uH F x1 x2 k x6=some r→Run D σ (R8 r) (.run znA [.lp znA,.bk 0,.sq znQ]) s:=by
 intro k
 induction k with
 | zero=>intro x6 s _ h;exact nm h
 | succ k ih=>
   intro x6 s hs h
   rw [uH] at h
   obtain ⟨h0,h1,h4,h5⟩:=hs
   refine .seq (.seq (rg (gm h5 fun h11=>gm h0 fun h12=>gl x1 h12 fun h13=>g2 11 13 (jb (decide (x6 < (x1.length:Int)))) h11 h13 fun h14=>gq (.nsq (zk h14 h (fun h=>?_) (fun h=>?_))))))
   · refine .skip (.nsq (.seq (.block (.seq (rg (gm h0 fun h17=>gm h5 fun h18=>?_))))))
     obtain ⟨v10,Ev10,h⟩:=zb h
     refine gv (.ref .sh 0 [] (eL v10)) (yn (t:=.sh) (lo:=0) (xs:=x1) h17 h18 Ev10 rfl rfl) fun h19=>g1 19 (eL v10) h19 fun h20=>gm h1 fun h21=>gm h5 fun h22=>?_
     obtain ⟨v11,Ev11,h⟩:=zb h
     refine gv (.ref .sh 0 [] (eL v11)) (yn (t:=.sh) (lo:=0) (xs:=x2) h21 h22 Ev11 rfl rfl) fun h23=>g1 23 (eL v11) h23 fun h24=>?_
     obtain ⟨r12,Er12,h⟩:=zb h
     refine gcF [eL v10,eL v11] (zg h20 rfl (Enc.erase_enc (v10:LI)) (zg h24 rfl (Enc.erase_enc (v11:LI)) zF)) (H.c14 _ _ _ Er12) H.g14 (g1 25 (jb (!r12)) (rf (jb r12)) fun h26=>gq (.nsq (zk h26 h (fun h=>?_) (fun h=>?_))))
     · refine .seq (rg (g0 (jb false) fun h4=>gq (.nsq (.ret ?_))))
       obtain rfl:=oi h
       exact rrA (zl h4) rfl
     refine .skip (.nbk (.nsq (rg (gm h5 fun h15=>g1 15 (ji (w64 (x6 + 1))) h15 fun h16=>gm h16 fun h5=>gq (.nlp ?_)))))
     exact ih (w64 (x6 + 1)) _ ⟨h0,h1,h4,h5⟩ h
   refine .exit (.esq (.elp (.ebk (.nsq (.seq (rg (g0 (jb true) fun h4=>gq (.nsq (.ret ?_)))))))))
   obtain rfl:=oi h
   exact rrA (zl h4) rfl
def YO (F:Nat) (x1:(List LI)) (x2:(List LI)):Option Bool:=
 bif ((x1.length:Int) != (x2.length:Int)) then
  some false
 else
  uH F x1 x2 F 0
theorem t8 (H:H8 D σ F) (x1:(List LI)) (x2:(List LI)) (s:Nat→V) (hs:zr [(0,Enc.enc (x1:List LI)),(1,Enc.enc (x2:List LI))] s) (h:YO F x1 x2=some r):Run D σ (R8 r) (.run A8 []) s:=by
 unfold YO at h
 obtain ⟨h0,h1⟩:=hs
 refine .seq (rg (g0 (jb false) fun h4=>gq (.nsq (.seq (.seq (rg (gm h0 fun h6=>gl x1 h6 fun h7=>gm h1 fun h8=>gl x2 h8 fun h9=>g2 7 9 (jb ((x1.length:Int) != (x2.length:Int))) h7 h9 fun h10=>gq (.nsq (zk h10 h (fun h=>?_) (fun h=>?_))))))))))
 · refine .seq (rg (g0 (jb false) fun h4=>gq (.nsq (.ret ?_))))
   obtain rfl:=oi h
   exact rrA (zl h4) rfl
 refine .skip (.nsq (.seq (.seq (rg (g0 (ji 0) fun h5=>gq (.nsq (.block (.loop ?_))))))))
 exact ziV H x1 x2 F 0 _ ⟨h0,h1,h4,h5⟩ h
end
def e8 (F:Nat):Ent:=ent 8 (fun (x:((List LI)×(List LI)×Unit))=>YO F x.1 x.2.1) (fun (r:Bool)=>(Enc.enc (r:Bool))) 0 false []
abbrev C8 (D:List V→Option V) (F:Nat):Prop:=∀ (x0:(List LI)) (x1:(List LI)) r,YO F x0 x1=some r→D [Enc.enc x0,Enc.enc x1]=some (Enc.enc (r:Bool))
theorem p8 {F:Nat}:C8 (e8 F).den F:=fun x0 x1 _ h=>zR (x0,x1,()) h
theorem o8 (hF:zw Try.prog D σ) (H:H8 D σ F):(e8 F).Ok Try.prog:=okZ (f:=8) Try.func8 fun ⟨x0,x1,_⟩ y hy=>cR hF Try.func8 c8 (t8 H x0 x1 _ ⟨rfl,rfl⟩ hy)
def zlu:AC:=(.cond (.t 14) .skip (.exit 0))
def zlH:AC:=(.cond (.t 24) .skip (.exit 2))
def zjO:AC:=(.cond (.t 31) .skip (.exit 4))
def zkk:AC:=(.cond (.t 43) (.reg [.frz 7] [jm 44 7,jm 45 1,jm 46 8,jv 47 (.idx (.t 45) (.t 46) 1),jl 48 47,jx 49 (.call (jf 45) [.t 44,.t 48]),jm 7 49] []) .skip)
def zdA:AC:=(rr [jm 32 9,jv 33 (.bin .add (.t 32) (jn 1)),jm 9 33])
def zjx:AC:=(.seq (.block 5 (.seq (rr [jv 34 (.load (.ag [.s,.p]) (.t 2)),jm 35 1,jm 36 8,jv 37 (.idx (.t 35) (.t 36) 1),jl 38 37,jm 39 1,jm 40 9,jv 41 (.idx (.t 39) (.t 40) 1),jl 42 41,jx 43 (.call (jf 44) [.t 34,.t 38,.t 42])]) zkk)) zdA)
def U6:AC:=(.seq (.seq (rr [jm 28 9,jm 29 1,jk 30 29,jv 31 (.bin .lss (.t 28) (.t 30))]) zjO) zjx)
def zm3:AC:=(.block 4 (.loop U6))
def LA:AC:=(rr [jm 25 8,jv 26 (.bin .add (.t 25) (jn 1)),jm 8 26])
def zmz:AC:=(.seq (.block 3 (.seq (rr [jm 27 6,jm 9 27]) zm3)) LA)
def Wh:AC:=(.seq (.seq (rr [jm 22 8,jm 23 6,jv 24 (.bin .lss (.t 22) (.t 23))]) zlH) zmz)
def zlD:AC:=(.block 2 (.loop Wh))
def Ui:AC:=(.reg [.clr [52,53]] [jm 50 5,jm 51 7,jx 52 (.lit (.sl .nl .s 0 []) 1 [(0,0,.t 51)]),jx 53 (.app .p (.t 50) (.t 52)),jm 5 53] [.home 53 5])
def zmX:AC:=(.seq (.seq (rr [jv 8 (.mov (jn 0))]) zlD) Ui)
def WX:AC:=(rr [jm 15 6,jv 16 (.bin .add (.t 15) (jn 1)),jm 6 16])
def zl0:AC:=(.seq (.block 1 (.seq (.reg [.clr [21]] [jm 17 1,jm 18 6,jv 19 (.idx (.t 17) (.t 18) 1),jl 20 19,jx 21 (.lit i0 1 [(0,0,.t 20)]),jm 7 21] [.home 21 7,.frz 7]) zmX)) WX)
def ZI:AC:=(.seq (.seq (rr [jm 11 6,jm 12 1,jk 13 12,jv 14 (.bin .lss (.t 11) (.t 13))]) zlu) zl0)
def Yg:AC:=(.seq (.reg [] [jm 54 5,jm 4 54] [.home 5 4]) .ret)
def zjV:AC:=(.block 0 (.loop ZI))
def zji:AC:=(.seq (.seq (rr [jv 6 (.mov (jn 0))]) zjV) Yg)
def zjE:AC:=(.seq (.reg [.clr [10]] [jx 10 (.lit (.sl .nl .s 0 []) 0 []),jm 5 10] [.home 10 5]) zji)
def zrg:AC:=(.seq (.reg [.clr [2]] [jx 2 (.box (.t 0)),jv 4 (.mov (.k (.sl .nl .p 0 [])))] []) zjE)
def zoA:List An:=[⟨0,[.clr [2]],[],[],[]⟩,⟨1,[.clr [10]],[],[],[.home 10 5]⟩,⟨5,[.clr [21]],[],[],[.home 21 7,.frz 7]⟩,⟨13,[.frz 7],[],[],[]⟩,⟨14,[.clr [52,53]],[],[],[.home 53 5]⟩,⟨15,[],[],[],[.home 5 4]⟩]
theorem c27o:cq Try.prog Try.f27 zoA=some zrg:=by kernel_rfl
structure zfk (D:Den) (σ:Sig) (F:Nat):Prop where
 c44:C44 (D 44) F
 g44:σ 44=some (0,false)
 c45:C45 (D 45) F
 g45:σ 45=some (0,true)
abbrev L2 (r:(NL LI)):(Nat→V)→Prop:=RR Try.prog [.tmp 4] 1 true (zm .sh (r:NL LI))
section
variable {r:(NL LI)}
def um (F:Nat) (x2:LI) (x1:GR) (x85:(List LI)) (x86:Int) (x197:Int) (x233:Int) (c1:(List LI)→Int→Option (NL LI)) (c10:LI→Int→Option (NL LI)) (c13:LI→Int→Option (NL LI)) (x247:LI):Option (NL LI):=
 c13 x247 (w64 (x233 + 1))
theorem Nj (H:zfk D σ F) (x2:LI) (x1:GR) (x85:(List LI)) (x86:Int) (x197:Int) (x233:Int) (c1:(List LI)→Int→Option (NL LI)) (Hc1:∀ (x85:(List LI)) (x86:Int) (s:Nat→V),zr [(1,eL x2),(2,bG 2 x1),(4,.sl .nl (Enc.shp LI) 0 []),(5,zm (.at 5 []) (.of (x85:List LI))),(6,ji x86)] s→c1 x85 x86=some r→Run D σ (L2 r) (.run ZI [.lp ZI,.bk 0,.sq Yg]) s) (c10:LI→Int→Option (NL LI)) (Hc10:∀ (x196:LI) (x197:Int) (s:Nat→V),zr [(1,eL x2),(2,bG 2 x1),(4,.sl .nl (Enc.shp LI) 0 []),(5,zm (.at 5 []) (.of (x85:List LI))),(6,ji x86),(7,eL x196),(8,ji x197)] s→c10 x196 x197=some r→Run D σ (L2 r) (.run Wh [.lp Wh,.bk 2,.sq Ui,.bk 1,.sq WX,.lp ZI,.bk 0,.sq Yg]) s) (c13:LI→Int→Option (NL LI)) (Hc13:∀ (x232:LI) (x233:Int) (s:Nat→V),zr [(1,eL x2),(2,bG 2 x1),(4,.sl .nl (Enc.shp LI) 0 []),(5,zm (.at 5 []) (.of (x85:List LI))),(6,ji x86),(7,eL x232),(8,ji x197),(9,ji x233)] s→c13 x232 x233=some r→Run D σ (L2 r) (.run U6 [.lp U6,.bk 4,.bk 3,.sq LA,.lp Wh,.bk 2,.sq Ui,.bk 1,.sq WX,.lp ZI,.bk 0,.sq Yg]) s) (x247:LI) (s:Nat→V) (hs:zr [(1,eL x2),(2,bG 2 x1),(4,.sl .nl (Enc.shp LI) 0 []),(5,zm (.at 5 []) (.of (x85:List LI))),(6,ji x86),(7,eL x247),(8,ji x197),(9,ji x233)] s) (h:um F x2 x1 x85 x86 x197 x233 c1 c10 c13 x247=some r):Run D σ (L2 r) (.nrm [.bk 5,.sq zdA,.lp U6,.bk 4,.bk 3,.sq LA,.lp Wh,.bk 2,.sq Ui,.bk 1,.sq WX,.lp ZI,.bk 0,.sq Yg]) s:=by
 unfold um at h
 obtain ⟨h1,h2,h4,h5,h6,h7,h8,h9⟩:=hs
 refine .nbk (.nsq (rg (gm h9 fun h32=>g1 32 (ji (w64 (x233 + 1))) h32 fun h33=>gm h33 fun h9=>gq (.nlp ?_))))
 exact Hc13 x247 (w64 (x233 + 1)) _ ⟨h1,h2,h4,h5,h6,h7,h8,h9⟩ h
def xM (F:Nat) (x2:LI) (x1:GR) (x85:(List LI)) (x86:Int) (x197:Int) (c1:(List LI)→Int→Option (NL LI)) (c10:LI→Int→Option (NL LI)):Nat→LI→Int→Option (NL LI)
 | 0,_,_=>none
 | k + 1,x232,x233=>
   bif decide (x233 < (x2.length:Int)) then
    (idx x2 x197).bind fun v242=>
    (idx x2 x233).bind fun v243=>
    (uV F x1 v242 v243).bind fun r244=>
    bif r244 then
     (idx x2 x197).bind fun v248=>
     (ZH F x232 v248).bind fun r249=>
     um F x2 x1 x85 x86 x197 x233 c1 c10 (xM F x2 x1 x85 x86 x197 c1 c10 k) r249
    else
     um F x2 x1 x85 x86 x197 x233 c1 c10 (xM F x2 x1 x85 x86 x197 c1 c10 k) x232
   else
    c10 x232 (w64 (x197 + 1))
theorem zfA (H:zfk D σ F) (x2:LI) (x1:GR) (x85:(List LI)) (x86:Int) (x197:Int) (c1:(List LI)→Int→Option (NL LI)) (Hc1:∀ (x85:(List LI)) (x86:Int) (s:Nat→V),zr [(1,eL x2),(2,bG 2 x1),(4,.sl .nl (Enc.shp LI) 0 []),(5,zm (.at 5 []) (.of (x85:List LI))),(6,ji x86)] s→c1 x85 x86=some r→Run D σ (L2 r) (.run ZI [.lp ZI,.bk 0,.sq Yg]) s) (c10:LI→Int→Option (NL LI)) (Hc10:∀ (x196:LI) (x197:Int) (s:Nat→V),zr [(1,eL x2),(2,bG 2 x1),(4,.sl .nl (Enc.shp LI) 0 []),(5,zm (.at 5 []) (.of (x85:List LI))),(6,ji x86),(7,eL x196),(8,ji x197)] s→c10 x196 x197=some r→Run D σ (L2 r) (.run Wh [.lp Wh,.bk 2,.sq Ui,.bk 1,.sq WX,.lp ZI,.bk 0,.sq Yg]) s):∀ (k:Nat) (x232:LI) (x233:Int) (s:Nat→V),zr [(1,eL x2),(2,bG 2 x1),(4,.sl .nl (Enc.shp LI) 0 []),(5,zm (.at 5 []) (.of (x85:List LI))),(6,ji x86),(7,eL x232),(8,ji x197),(9,ji x233)] s→xM F x2 x1 x85 x86 x197 c1 c10 k x232 x233=some r→Run D σ (L2 r) (.run U6 [.lp U6,.bk 4,.bk 3,.sq LA,.lp Wh,.bk 2,.sq Ui,.bk 1,.sq WX,.lp ZI,.bk 0,.sq Yg]) s:=by
 intro k
 induction k with
 | zero=>intro x232 x233 s _ h;exact nm h
 | succ k ih=>
   intro x232 x233 s hs h
   rw [xM] at h
   obtain ⟨h1,h2,h4,h5,h6,h7,h8,h9⟩:=hs
   refine .seq (.seq (rg (gm h9 fun h28=>gm h1 fun h29=>gl x2 h29 fun h30=>g2 28 30 (jb (decide (x233 < (x2.length:Int)))) h28 h30 fun h31=>gq (.nsq (zk h31 h (fun h=>?_) (fun h=>?_))))))
   · refine .skip (.nsq (.seq (.block (.seq (rg (g1 2 (gV x1) h2 fun h34=>gm h1 fun h35=>gm h8 fun h36=>?_))))))
     obtain ⟨v242,Ev242,h⟩:=zb h
     refine gv (.ref .sh 0 [] (ji v242)) (yn (t:=.sh) (lo:=0) (xs:=x2) h35 h36 Ev242 rfl rfl) fun h37=>g1 37 (ji v242) h37 fun h38=>gm h1 fun h39=>gm h9 fun h40=>?_
     obtain ⟨v243,Ev243,h⟩:=zb h
     refine gv (.ref .sh 0 [] (ji v243)) (yn (t:=.sh) (lo:=0) (xs:=x2) h39 h40 Ev243 rfl rfl) fun h41=>g1 41 (ji v243) h41 fun h42=>?_
     obtain ⟨r244,Er244,h⟩:=zb h
     refine gcF [Enc.enc (x1:GR),Enc.enc (v242:Int),Enc.enc (v243:Int)] (zg h34 rfl (Enc.erase_enc (x1:GR)) (zg h38 rfl rfl (zg h42 rfl rfl zF))) (H.c44 _ _ _ _ Er244) H.g44 (gq (.nsq (zk rfl h (fun h=>?_) (fun h=>?_))))
     · refine zC (Yb (x:=7) (v:=eL x232) [] (by exact h7) (Enc.toks_enc (x232:LI)) (fun s72 hz72=>?_))
       refine ez [(1,_),(2,_),(4,_),(5,_),(6,_),(7,_),(8,_),(9,_)] ⟨hz72 1 _ _ h1 (wc _),hz72 2 _ _ h2 (wc _),hz72 4 _ _ h4 (wc _),hz72 5 _ _ h5 (wc _),hz72 6 _ _ h6 (wc _),hz72 7 _ _ h7 (wc _),hz72 8 _ _ h8 (wc _),hz72 9 _ _ h9 (wc _)⟩ ?_
       rintro s ⟨h1,h2,h4,h5,h6,h7,h8,h9⟩
       refine gm h7 fun h44=>gm h1 fun h45=>gm h8 fun h46=>?_
       obtain ⟨v248,Ev248,h⟩:=zb h
       refine gv (.ref .sh 0 [] (ji v248)) (yn (t:=.sh) (lo:=0) (xs:=x2) h45 h46 Ev248 rfl rfl) fun h47=>g1 47 (ji v248) h47 fun h48=>?_
       obtain ⟨r249,Er249,h⟩:=zb h
       refine Wj (m:=0) (al:=true) (r:=eL r249) [eL x232,Enc.enc (v248:Int)] (zg h44 rfl (Enc.erase_enc (x232:LI)) (zg h48 rfl rfl zF)) (H.c45 _ _ _ Er249) H.g45 (We (vn (v:=eL x232) h44 rfl rfl (vn (v:=ji v248) h48 rfl rfl Wd))) rfl rfl rfl (gm (rf (eL r249)) fun h7=>gq ?_)
       exact Nj H x2 x1 x85 x86 x197 x233 c1 Hc1 c10 Hc10 (xM F x2 x1 x85 x86 x197 c1 c10 k) ih r249 _ ⟨h1,h2,h4,h5,h6,h7,h8,h9⟩ h
     refine .skip ?_
     exact Nj H x2 x1 x85 x86 x197 x233 c1 Hc1 c10 Hc10 (xM F x2 x1 x85 x86 x197 c1 c10 k) ih x232 _ ⟨h1,h2,h4,h5,h6,h7,h8,h9⟩ h
   refine .exit (.esq (.elp (.ebk (.nbk (.nsq (rg (gm h8 fun h25=>g1 25 (ji (w64 (x197 + 1))) h25 fun h26=>gm h26 fun h8=>gq (.nlp ?_))))))))
   exact Hc10 x232 (w64 (x197 + 1)) _ ⟨h1,h2,h4,h5,h6,h7,h8⟩ h
def wO (F:Nat) (x2:LI) (x1:GR) (x85:(List LI)) (x86:Int) (c1:(List LI)→Int→Option (NL LI)):Nat→LI→Int→Option (NL LI)
 | 0,_,_=>none
 | k + 1,x196,x197=>
   bif decide (x197 < x86) then
    xM F x2 x1 x85 x86 x197 c1 (wO F x2 x1 x85 x86 c1 k) F x196 x86
   else
    (vW x85 [x196]).bind fun ap250=>
    c1 ap250 (w64 (x86 + 1))
theorem zfR (H:zfk D σ F) (x2:LI) (x1:GR) (x85:(List LI)) (x86:Int) (c1:(List LI)→Int→Option (NL LI)) (Hc1:∀ (x85:(List LI)) (x86:Int) (s:Nat→V),zr [(1,eL x2),(2,bG 2 x1),(4,.sl .nl (Enc.shp LI) 0 []),(5,zm (.at 5 []) (.of (x85:List LI))),(6,ji x86)] s→c1 x85 x86=some r→Run D σ (L2 r) (.run ZI [.lp ZI,.bk 0,.sq Yg]) s):∀ (k:Nat) (x196:LI) (x197:Int) (s:Nat→V),zr [(1,eL x2),(2,bG 2 x1),(4,.sl .nl (Enc.shp LI) 0 []),(5,zm (.at 5 []) (.of (x85:List LI))),(6,ji x86),(7,eL x196),(8,ji x197)] s→wO F x2 x1 x85 x86 c1 k x196 x197=some r→Run D σ (L2 r) (.run Wh [.lp Wh,.bk 2,.sq Ui,.bk 1,.sq WX,.lp ZI,.bk 0,.sq Yg]) s:=by
 intro k
 induction k with
 | zero=>intro x196 x197 s _ h;exact nm h
 | succ k ih=>
   intro x196 x197 s hs h
   rw [wO] at h
   obtain ⟨h1,h2,h4,h5,h6,h7,h8⟩:=hs
   refine .seq (.seq (rg (gm h8 fun h22=>gm h6 fun h23=>g2 22 23 (jb (decide (x197 < x86))) h22 h23 fun h24=>gq (.nsq (zk h24 h (fun h=>?_) (fun h=>?_))))))
   · refine .skip (.nsq (.seq (.block (.seq (rg (gm h6 fun h27=>gm h27 fun h9=>gq (.nsq (.block (.loop ?_)))))))))
     exact zfA H x2 x1 x85 x86 x197 c1 Hc1 (wO F x2 x1 x85 x86 c1 k) ih F x196 x86 _ ⟨h1,h2,h4,h5,h6,h7,h8,h9⟩ h
   refine .exit (.esq (.elp (.ebk (.nsq (zC (ye ?_))))))
   refine ez [(1,_),(2,_),(4,_),(5,_),(6,_),(7,_),(52,_),(53,_)] ⟨za h1 rfl me,za h2 rfl (zi rfl mIE),za h4 rfl rfl,za h5 rfl (zp (r:=5) (p:=[]) rfl rfl),za h6 rfl mi,za h7 rfl me,ze rfl,ze rfl⟩ ?_
   rintro s ⟨h1,h2,h4,h5,h6,h7,h52,h53⟩
   refine gm h5 fun h50=>gm h7 fun h51=>wm [(51,eL x196)] [eL x196] h51 rfl rfl h52 ?_
   obtain ⟨ap250,Eap250,h⟩:=zb h
   refine X4 (q:=5) (p:=[]) (o:=.of (x85:List LI)) (ys:=([x196]:List LI)) (t2:=.at 52 []) (lo2:=0) h50 rfl rfl h53 (Ya (o:=.of (x85:List LI)) Eap250 trivial) (fun s74 ha74=>gm (rf (zm (.at 53 []) (.of (ap250:List LI)))) fun h5=>yS (yF (r:=53) (x:=5) (v:=_) h5 rfl (fun s75 hz75=>?_)))
   refine ez [(1,eL x2),(2,bG 2 x1),(4,.sl .nl (Enc.shp LI) 0 []),(5,zm (.at 5 []) (.of (ap250:List LI))),(6,ji x86)] ⟨hz75 1 _ _ (show s74 1=(eL x2) from yc ha74 h1 me) me,hz75 2 _ _ (show s74 2=(bG 2 x1) from yc ha74 h2 (zi rfl mIE)) (zi rfl mIE),hz75 4 _ (.sl .nl (Enc.shp LI) 0 []) (show s74 4=(.sl .nl (Enc.shp LI) 0 []) from yc ha74 h4 rfl) rfl,hz75 5 _ _ h5 (zp (r:=53) (p:=[]) rfl rfl),hz75 6 _ _ (show s74 6=(ji x86) from yc ha74 h6 mi) mi⟩ ?_
   rintro s ⟨h1,h2,h4,h5,h6⟩
   refine .nbk (.nsq (rg (gm h6 fun h15=>g1 15 (ji (w64 (x86 + 1))) h15 fun h16=>gm h16 fun h6=>gq (.nlp ?_))))
   exact Hc1 ap250 (w64 (x86 + 1)) _ ⟨h1,h2,h4,h5,h6⟩ h
def wk (F:Nat) (x2:LI) (x1:GR) :Nat→(List LI)→Int→Option (NL LI)
 | 0,_,_=>none
 | k + 1,x85,x86=>
   bif decide (x86 < (x2.length:Int)) then
    (idx x2 x86).bind fun v169=>
    wO F x2 x1 x85 x86 (wk F x2 x1 k) F [v169] 0
   else
    some (.of x85)
theorem zfY (H:zfk D σ F) (x2:LI) (x1:GR) :∀ (k:Nat) (x85:(List LI)) (x86:Int) (s:Nat→V),zr [(1,eL x2),(2,bG 2 x1),(4,.sl .nl (Enc.shp LI) 0 []),(5,zm (.at 5 []) (.of (x85:List LI))),(6,ji x86)] s→wk F x2 x1 k x85 x86=some r→Run D σ (L2 r) (.run ZI [.lp ZI,.bk 0,.sq Yg]) s:=by
 intro k
 induction k with
 | zero=>intro x85 x86 s _ h;exact nm h
 | succ k ih=>
   intro x85 x86 s hs h
   rw [wk] at h
   obtain ⟨h1,h2,h4,h5,h6⟩:=hs
   refine .seq (.seq (rg (gm h6 fun h11=>gm h1 fun h12=>gl x2 h12 fun h13=>g2 11 13 (jb (decide (x86 < (x2.length:Int)))) h11 h13 fun h14=>gq (.nsq (zk h14 h (fun h=>?_) (fun h=>?_))))))
   · refine .skip (.nsq (.seq (.block (.seq (zC (ye ?_))))))
     refine ez [(1,_),(2,_),(4,_),(5,_),(6,_),(21,_)] ⟨za h1 rfl me,za h2 rfl (zi rfl mIE),za h4 rfl rfl,za h5 rfl (zp (r:=5) (p:=[]) rfl rfl),za h6 rfl mi,ze rfl⟩ ?_
     rintro s ⟨h1,h2,h4,h5,h6,h21⟩
     refine gm h1 fun h17=>gm h6 fun h18=>?_
     obtain ⟨v169,Ev169,h⟩:=zb h
     refine gv (.ref .sh 0 [] (ji v169)) (yn (t:=.sh) (lo:=0) (xs:=x2) h17 h18 Ev169 rfl rfl) fun h19=>g1 19 (ji v169) h19 fun h20=>wm [(20,ji v169)] [Enc.enc (v169:Int)] h20 rfl rfl h21 (gm (rf (oI 21 [] (.of [v169]))) fun h7=>yS (yF (r:=21) (x:=7) (v:=_) h7 rfl (fun s53 hz53=>Yb (x:=7) (v:=oI 7 [] (.of [v169])) [.at 7 []] (by exact (hz53 7 _ _ h7 (zp (r:=21) (p:=[]) rfl rfl))) z2 (fun s54 hz54=>?_))))
     refine ez [(1,eL x2),(2,bG 2 x1),(4,.sl .nl (Enc.shp LI) 0 []),(5,zm (.at 5 []) (.of (x85:List LI))),(6,ji x86),(7,eL [v169])] ⟨hz54 1 (eL x2) (eL x2) (hz53 1 _ _ h1 me) zE,hz54 2 (bG 2 x1) (bG 2 x1) (hz53 2 _ _ h2 (zi rfl mIE)) (yO rfl zIE rfl),hz54 4 (.sl .nl (Enc.shp LI) 0 []) (.sl .nl (Enc.shp LI) 0 []) (hz53 4 _ (.sl .nl (Enc.shp LI) 0 []) h4 rfl) rfl,hz54 5 (zm (.at 5 []) (.of (x85:List LI))) (zm (.at 5 []) (.of (x85:List LI))) (hz53 5 _ _ h5 (zp (r:=5) (p:=[]) rfl rfl)) (L5 rfl rfl),hz54 6 (ji x86) (ji x86) (hz53 6 _ _ h6 mi) rfl,hz54 7 (oI 7 [] (.of [v169])) (eL [v169]) (hz53 7 _ _ h7 (zp (r:=21) (p:=[]) rfl rfl)) w8⟩ ?_
     rintro s ⟨h1,h2,h4,h5,h6,h7⟩
     refine .nsq (.seq (.seq (rg (g0 (ji 0) fun h8=>gq (.nsq (.block (.loop ?_)))))))
     exact zfR H x2 x1 x85 x86 (wk F x2 x1 k) ih F [v169] 0 _ ⟨h1,h2,h4,h5,h6,h7,h8⟩ h
   refine .exit (.esq (.elp (.ebk (.nsq (.seq (rg (gm h5 fun h54=>gm h54 fun h4=>yS (yF (r:=5) (x:=4) (v:=_) h4 rfl (fun s76 hz76=>?_)))))))))
   refine ez [(4,zm (.at 4 []) (.of (x85:List LI)))] (hz76 4 _ _ h4 (zp (r:=5) (p:=[]) rfl rfl)) ?_
   rintro s h4
   refine .nsq (.ret ?_)
   obtain rfl:=oi h
   exact rrA (zl h4) (UI (US (o:=((.of x85):NL LI))) rfl rfl)
def Zn (F:Nat) (x1:GR) (x2:LI):Option (NL LI):=
 wk F x2 x1 F [] 0
theorem zt4 (H:zfk D σ F) (x1:GR) (x2:LI) (s:Nat→V) (hs:zr [(0,gV x1),(1,eL x2)] s) (h:Zn F x1 x2=some r):Run D σ (L2 r) (.run zrg []) s:=by
 unfold Zn at h
 obtain ⟨h0,h1⟩:=hs
 refine .seq (zC (ye ?_))
 refine ez [(0,_),(1,_),(2,_)] ⟨za h0 rfl mIE,za h1 rfl me,ze rfl⟩ ?_
 rintro s ⟨h0,h1,h2⟩
 refine wa (gV x1) (zI h0 rfl) h2 rfl (g0 (.sl .nl (Enc.shp LI) 0 []) fun h4=>gq (.nsq (.seq (zC (ye ?_)))))
 refine ez [(1,_),(2,_),(4,_),(10,_)] ⟨za h1 rfl me,za rfl rfl (zi rfl mIE),za h4 rfl rfl,ze rfl⟩ ?_
 rintro s ⟨h1,h2,h4,h10⟩
 refine wm [] [] trivial rfl rfl h10 (gm (rf (zm (.at 10 []) (.of ([]:List LI)))) fun h5=>yS (yF (r:=10) (x:=5) (v:=_) h5 rfl (fun s3 hz3=>?_)))
 refine ez [(1,eL x2),(2,bG 2 x1),(4,.sl .nl (Enc.shp LI) 0 []),(5,zm (.at 5 []) (.of ([]:List LI)))] ⟨hz3 1 _ _ h1 me,hz3 2 _ _ h2 (zi rfl mIE),hz3 4 _ _ h4 rfl,hz3 5 _ _ h5 (zp (r:=10) (p:=[]) rfl rfl)⟩ ?_
 rintro s ⟨h1,h2,h4,h5⟩
 refine .nsq (.seq (.seq (rg (g0 (ji 0) fun h6=>gq (.nsq (.block (.loop ?_)))))))
 exact zfY H x2 x1 F [] 0 _ ⟨h1,h2,h4,h5,h6⟩ h
end
def zm9 (F:Nat):Ent:=ent 1000000027 (fun (x:(GR×LI×Unit))=>Zn F x.1 x.2.1) (fun (r:(NL LI))=>(zm .sh (r:NL LI))) 1 true []
abbrev zqJ (D:List V→Option V) (F:Nat):Prop:=∀ (x0:GR) (x1:LI) r,Zn F x0 x1=some r→D [Enc.enc x0,Enc.enc x1]=some (zm .sh (r:NL LI))
theorem ztk {F:Nat}:zqJ (zm9 F).den F:=fun x0 x1 _ h=>zR (x0,x1,()) h
theorem zuI (hF:zw Try.prog D σ) (H:zfk D σ F):(zm9 F).Ok Try.prog:=okZ (f:=27) Try.func27 fun ⟨x0,x1,_⟩ y hy=>cR hF Try.func27 c27o (zt4 H x0 x1 _ ⟨rfl,rfl⟩ hy)
def zkJ:AC:=(.cond (.t 16) (.seq (.reg [.clr [18]] [jm 17 0,jx 18 (.litS i0 4 [(0,0,jn (-1)),(1,1,jn 0),(2,2,jn 8),(3,3,jn 4611686018427387904)]),jx 19 (.callT (jf 64) [.t 17,.t 18] [0] []),jm 4 19] []) .ret) .skip)
def zkw:AC:=(.seq (rr [jm 20 0,jv 21 (.fld (.t 3) 0 0),jl 22 21,jx 23 (.callT (jf 47) [.t 20,.t 22] [0] []),jm 4 23]) .ret)
def zs1:AC:=(.seq (.seq (rr [jv 5 (.fld (.t 3) 0 0),jl 6 5,jv 7 (.bin .lss (.t 6) (jn 1)),jm 8 7,jg 9 8 false (.fld (.t 3) 0 0),jg 10 8 false (.load .s (.t 9)),jg 11 8 false (.bin .gtr (.t 10) (jn 8)),jv 12 (.pick (.t 8) kt (.t 11)),jm 13 12,jg 14 13 false (.mov (.t 0)),.mk (some 15) (some (13,false)) false (.callT (jf 63) [.t 14,jn 24] [0] []),jv 16 (.pick (.t 13) kt (.t 15))]) zkJ) zkw)
def A48:AC:=(.seq (.reg [.clr [3]] [jx 3 (.box (.t 1)),jv 4 (.mov (jn 0))] []) zs1)
def ztl:List An:=[⟨0,[.clr [3]],[],[],[]⟩,⟨1,[],[],[11000000],[]⟩,⟨2,[.clr [18]],[],[3000000,6001],[]⟩,⟨3,[],[],[4000000],[]⟩]
theorem c48:cq Try.prog Try.f48 ztl=some A48:=by kernel_rfl
structure H48 (D:Den) (σ:Sig) (F:Nat):Prop where
 c63:C63 (D 63) F
 g63:σ 63=some (vG,false)
 c64:C64 (D 64) F
 g64:σ 64=some (vG,false)
 c47:C47 (D 47) F
 g47:σ 47=some (vG,false)
abbrev R48 (r:(Int×CU)):(Nat→V)→Prop:=RT Try.prog [.tmp 4] (Enc.enc (r.1:Int)) [cuV zG r.2]
section
variable {r:(Int×CU)}
def wM (F:Nat) (x2:GR)  (x4:LB) (x5:Int) (x6:Int) (x7:Bool):Option (Int×CU):=
 bif x7 then
  (yW F (cu x4 x5 x6) [(-1),0,8,4611686018427387904]).bind fun r9=>
  some (r9.1,r9.2)
 else
  (yf F (cu x4 x5 x6) x2.1).bind fun r10=>
  some (r10.1,r10.2)
theorem Mn (H:H48 D σ F) (x2:GR)  (x4:LB) (x5:Int) (x6:Int) (x7:Bool) (s:Nat→V) (hs:zr [(0,.ref (.bx zG) 0 [] (.agg [eB x4,ji x5,.int .u64 x6])),(3,bG 3 x2),(4,ji 0),(16,jb x7)] s) (h:wM F x2  x4 x5 x6 x7=some r):Run D σ (R48 r) (.nrm [.sq zkJ,.sq zkw]) s:=by
 unfold wM at h
 obtain ⟨h0,h3,h4,h16⟩:=hs
 refine .nsq (zk h16 h (fun h=>?_) (fun h=>?_))
 · refine .seq (zC (ye ?_))
   refine ez [(0,_),(3,_),(4,_),(18,_)] ⟨za h0 rfl (zi rfl xY),za h3 rfl (zi rfl mIE),za h4 rfl mi,ze rfl⟩ ?_
   rintro s ⟨h0,h3,h4,h18⟩
   refine gm h0 fun h17=>Jv [] ([(-1),0,8,4611686018427387904]:LI) trivial rfl rfl rfl h18 (fun s7 hd_7 hl_7=>?_)
   obtain ⟨r9,Er9,h⟩:=zb h
   refine wS (r:=zG) (b:=0) (x:=((S3.mk x4 x5 (Kd.mk x6:Kd .u64)):CU)) (x':=r9.2) (vs:=[Enc.enc ([(-1),0,8,4611686018427387904]:LI)]) (res:=Enc.enc (r9.1:Int)) (show s7 0=(.ref (.bx zG) 0 [] (.agg [eB x4,ji x5,.int .u64 x6])) from (hl_7 0 (by decide)).trans h0) (by exact (zB (v:=cuV zG ((S3.mk x4 x5 (Kd.mk x6:Kd .u64)):CU)) (show s7 17=(.ref (.bx zG) 0 [] (.agg [eB x4,ji x5,.int .u64 x6])) from (hl_7 17 (by decide)).trans h17) rfl (zB (v:=Enc.enc ([(-1),0,8,4611686018427387904]:LI)) (show s7 18=(eL [(-1),0,8,4611686018427387904]) from hd_7) rfl yp))) (yd te yk) fm1 (H.c64 _ _ _ Er9) H.g64 te rfl (fun s8 hb8 ha8=>?_)
   refine gm (rf (ji r9.1)) fun h4=>gz [(0,_),(3,bG 3 x2),(4,_)] ⟨(show s8 0=(bC r9.2) from hb8 0 (show s7 0=(.ref (.bx zG) 0 [] (.agg [eB x4,ji x5,.int .u64 x6])) from (hl_7 0 (by decide)).trans h0)),(show s8 3=(bG 3 x2) from ha8 3 _ _ (show s7 3=(bG 3 x2) from (hl_7 3 (by decide)).trans h3) rfl (zi rfl mIE)),h4⟩ ?_
   rintro s ⟨h0,h3,h4⟩
   refine .nsq (.ret ?_)
   obtain rfl:=oi h
   exact rt1 (t:=0) (zl h4) h0
 refine .skip (.nsq (.seq (rg (gm h0 fun h20=>g1 3 (.ref (.bx 3) 0 [0] (ji x2.1)) h3 fun h21=>g1 21 (ji x2.1) h21 fun h22=>?_))))
 obtain ⟨r10,Er10,h⟩:=zb h
 refine wS (r:=zG) (b:=0) (x:=((S3.mk x4 x5 (Kd.mk x6:Kd .u64)):CU)) (x':=r10.2) (vs:=[Enc.enc (x2.1:Int)]) (res:=Enc.enc (r10.1:Int)) h0 (by exact (zB (v:=cuV zG ((S3.mk x4 x5 (Kd.mk x6:Kd .u64)):CU)) h20 rfl (zB (v:=Enc.enc (x2.1:Int)) h22 rfl yp))) (yd te yk) fm1 (H.c47 _ _ _ Er10) H.g47 te rfl (fun s9 hb9 ha9=>gm (rf (ji r10.1)) fun h4=>gz [(0,_),(4,_)] ⟨(show s9 0=(bC r10.2) from hb9 0 h0),h4⟩ ?_)
 rintro s ⟨h0,h4⟩
 refine .nsq (.ret ?_)
 obtain rfl:=oi h
 exact rt1 (t:=0) (zl h4) h0
def vq (F:Nat) (x1:CC) (x2:GR):Option (Int×CU):=
 bif decide (x2.1 < 1) then
  wM F x2 x1.v.a x1.v.b x1.v.c.v true
 else
  bif decide (x2.1 > 8) then
   wM F x2 x1.v.a x1.v.b x1.v.c.v true
  else
   (xR F (Cu.mk x1.v) 24).bind fun r11=>
   wM F x2 r11.2.a r11.2.b r11.2.c.v r11.1
theorem t48 (H:H48 D σ F) (x1:CC) (x2:GR) (s:Nat→V) (hs:zr [(0,bC x1.v),(1,gV x2)] s) (h:vq F x1 x2=some r):Run D σ (R48 r) (.run A48 []) s:=by
 unfold vq at h
 obtain ⟨h0,h1⟩:=hs
 refine .seq (zC (ye ?_))
 refine ez [(0,_),(1,_),(3,_)] ⟨za h0 rfl (zi rfl xY),za h1 rfl mIE,ze rfl⟩ ?_
 rintro s ⟨h0,h1,h3⟩
 refine wa (gV x2) (zI h1 rfl) h3 rfl (g0 (ji 0) fun h4=>gq (.nsq (.seq (.seq (rg (g1 3 (.ref (.bx 3) 0 [0] (ji x2.1)) (rf (bG 3 x2)) fun h5=>g1 5 (ji x2.1) h5 fun h6=>g1 6 (jb (decide (x2.1 < 1))) h6 fun h7=>gm h7 fun h8=>z6 h (fun hg4 h=>?_) (fun hg4 h=>?_)))))))
 · iterate 3 refine yJ (ct h8 hg4) ?_
   refine g2 8 11 (jb true) (ct h8 hg4) (rf (.tup [])) fun h12=>gm h12 fun h13=>yJ h13 (yJ h13 (g2 13 15 (jb true) h13 (rf (.tup [])) fun h16=>gq ?_))
   exact Mn H x2 x1.v.a x1.v.b x1.v.c.v true _ ⟨h0,rfl,h4,h16⟩ h
 refine zo (ct h8 hg4) (g1 3 (.ref (.bx 3) 0 [0] (ji x2.1)) (rf (bG 3 x2)) fun h9=>zo (ct h8 hg4) (g1 9 (ji x2.1) h9 fun h10=>zo (ct h8 hg4) (g1 10 (jb (decide (x2.1 > 8))) h10 fun h11=>g2 8 11 (jb (decide (x2.1 > 8))) (ct h8 hg4) h11 fun h12=>gm h12 fun h13=>z6 h (fun hg9 h=>?_) (fun hg9 h=>?_))))
 · iterate 2 refine yJ (ct h13 hg9) ?_
   refine g2 13 15 (jb true) (ct h13 hg9) (rf (.tup [])) fun h16=>gq ?_
   exact Mn H x2 x1.v.a x1.v.b x1.v.c.v true _ ⟨h0,rfl,h4,h16⟩ h
 refine zo (ct h13 hg9) (gm h0 fun h14=>?_)
 obtain ⟨r11,Er11,h⟩:=zb h
 refine zo (ct h13 hg9) (wS (r:=zG) (b:=0) (x:=x1.v) (x':=r11.2) (vs:=[Enc.enc (24:Int)]) (res:=Enc.enc (r11.1:Bool)) h0 (by exact (zB (v:=cuV zG x1.v) h14 rfl (zB (v:=Enc.enc (24:Int)) rfl rfl yp))) (yd te yk) fm1 (H.c63 _ _ _ Er11) H.g63 te rfl (fun s10 hb10 ha10=>g2 13 15 (jb r11.1) (show s10 13=(jb false) from ha10 13 _ _ (ct h13 hg9) rfl mb) (rf (jb r11.1)) fun h16=>gz [(0,_),(3,bG 3 x2),(4,ji 0),(16,_)] ⟨(show s10 0=(bC r11.2) from hb10 0 h0),(show s10 3=(bG 3 x2) from ha10 3 (bG 3 x2) _ rfl rfl (zi rfl mIE)),(show s10 4=(ji 0) from ha10 4 _ _ h4 rfl mi),h16⟩ ?_))
 rintro s ⟨h0,h3,h4,h16⟩
 exact Mn H x2 r11.2.a r11.2.b r11.2.c.v r11.1 _ ⟨h0,h3,h4,h16⟩ h
end
def e48 (F:Nat):Ent:=ent 48 (fun (x:(CC×GR×Unit))=>vq F x.1 x.2.1) (fun (r:(Int×CU))=>(.tup [Enc.enc (r.1:Int),.tup [cuV zG r.2]])) vG false []
abbrev C48 (D:List V→Option V) (F:Nat):Prop:=∀ (x0:CC) (x1:GR) r,vq F x0 x1=some r→D [Arg.arg x0,Enc.enc x1]=some (.tup [Enc.enc (r.1:Int),.tup [cuV zG r.2]])
theorem p48 {F:Nat}:C48 (e48 F).den F:=fun x0 x1 _ h=>zR (x0,x1,()) h
theorem o48 (hF:zw Try.prog D σ) (H:H48 D σ F):(e48 F).Ok Try.prog:=okZ (f:=48) Try.func48 fun ⟨x0,x1,_⟩ y hy=>cT hF Try.func48 c48 (t48 H x0 x1 _ ⟨rfl,rfl⟩ hy)
def zpF:AC:=(.seq (.reg [.clr [3,5]] [jx 3 (.lit i0 0 []),jm 4 0,jx 5 (.app .s (.t 3) (.t 4)),jm 2 5] [.home 5 2]) .ret)
def A49:AC:=(.seq (rr [jv 2 (.mov (.k (.sl .nl .s 0 [])))]) zpF)
def zt6:List An:=[⟨1,[.clr [3,5]],[],[],[.home 5 2]⟩]
theorem c49:cq Try.prog Try.f49 zt6=some A49:=by kernel_rfl
structure H49 (D:Den) (σ:Sig) (F:Nat):Prop where
 mk ::
abbrev R49 (r:LI):(Nat→V)→Prop:=RR Try.prog [.tmp 2] 0 false (eL r)
section
variable {r:LI}
def W9 (F:Nat) (x1:LI):Option LI:=
 (vW [] x1).bind fun ap2=>
 some ap2
theorem t49 (H:H49 D σ F) (x1:LI) (s:Nat→V) (hs:zr [(0,eL x1)] s) (h:W9 F x1=some r):Run D σ (R49 r) (.run A49 []) s:=by
 unfold W9 at h
 have h0:=hs
 refine .seq (rg (g0 nI fun h2=>gq (.nsq (.seq (zC (ye ?_))))))
 refine ez [(0,_),(2,_),(3,_),(5,_)] ⟨za h0 rfl me,za h2 rfl rfl,ze rfl,ze rfl⟩ ?_
 rintro s ⟨h0,h2,h3,h5⟩
 refine wm [] [] trivial rfl rfl h3 (gm h0 fun h4=>?_)
 obtain ⟨ap2,Eap2,h⟩:=zb h
 refine X4 (q:=3) (p:=[]) (o:=.of ([]:LI)) (ys:=(x1:LI)) (t2:=.sh) (lo2:=0) rfl h4 rfl h5 (Ya (o:=.of ([]:LI)) Eap2 trivial) (fun s2 ha2=>gm (rf (oI 5 [] (.of ap2))) fun h2=>yS (yF (r:=5) (x:=2) (v:=_) h2 rfl (fun s3 hz3=>?_)))
 refine ez [(2,oI 2 [] (.of ap2))] (hz3 2 _ _ h2 (zp (r:=5) (p:=[]) rfl rfl)) ?_
 rintro s h2
 refine .nsq (.ret ?_)
 obtain rfl:=oi h
 exact rrA (zl h2) (ZA (ui (o:=.of ap2)) (uo rfl))
end
def e49 (F:Nat):Ent:=ent 49 (fun (x:(LI×Unit))=>W9 F x.1) (fun (r:LI)=>(eL r)) 0 false []
abbrev C49 (D:List V→Option V) (F:Nat):Prop:=∀ (x0:LI) r,W9 F x0=some r→D [Enc.enc x0]=some (eL r)
theorem p49 {F:Nat}:C49 (e49 F).den F:=fun x0 _ h=>zR (x0,()) h
theorem o49 (hF:zw Try.prog D σ) (H:H49 D σ F):(e49 F).Ok Try.prog:=okZ (f:=49) Try.func49 fun ⟨x0,_⟩ y hy=>cR hF Try.func49 c49 (t49 H x0 _ rfl hy)
def zqe:AC:=(.cond (.t 94) .skip (.exit 1))
def zqF:AC:=(.block 2 (.reg [.clr [96,97,98]] [jm 95 5,jx 96 (.litS i0 0 []),jx 97 (.lit (.sl .nl .s 0 []) 1 [(0,0,.t 96)]),jx 98 (.app .p (.t 95) (.t 97)),jm 5 98] [.home 98 5]))
def zhv:AC:=(.seq (.seq (rr [jm 91 5,jk 92 91,jm 93 8,jv 94 (.bin .lss (.t 92) (.t 93))]) zqe) zqF)
def zkr:AC:=(.seq (.reg [] [jm 99 5,jm 4 99] [.home 5 4,.frz 4]) .ret)
def znp:AC:=(.cond (.t 39) (rr [jm 40 5,jm 41 7,jm 42 5,jm 43 7,jv 44 (.idx (.t 42) (.t 43) 1),jv 45 (.load .p (.t 44)),jv 46 (.slice (.t 45) (some (jn 1)) none 1),jv 47 (.idx (.t 40) (.t 41) 1),jz (.store .p (.t 47) (.t 46))]) .skip)
def znB:AC:=(.block 1 (.loop zhv))
def zmS:AC:=(.cond (.t 86) (.seq (rr [jm 88 0,jx 89 (.callT (jf 47) [.t 88,jn 2] [0] []),jv 90 (.bin .add (jn 16) (.t 89)),jm 8 90]) znB) .skip)
def zmq:AC:=(.cond (.t 71) (.reg [.clr [73,74,76,84,85]] [jx 73 (.litS i0 0 []),jy 74 (.lit (.sl .nl .s 0 []) 1 [(0,0,.t 73)]),jm 75 5,jy 76 (.appS .p (.t 74) (.t 75)),jm 77 5,jm 78 5,jk 79 78,jv 80 (.bin .sub (.t 79) (jn 1)),jv 81 (.idx (.t 77) (.t 80) 1),jv 82 (.load .p (.t 81)),jx 83 (.call (jf 49) [.t 82]),jx 84 (.lit (.sl .nl .s 0 []) 1 [(0,0,.t 83)]),jx 85 (.appS .p (.t 76) (.t 84)),jm 5 85] [.home 85 5]) (.seq (rr [jv 87 (.bin .eql (.t 31) (jn 4)),jm 86 87]) zmS))
def zmf:AC:=(.cond (.t 61) (.reg [.clr [70]] [jm 63 5,jm 64 7,jv 65 (.slice (.t 63) none (some (.t 64)) 1),jm 66 5,jm 67 7,jv 68 (.bin .add (.t 67) (jn 1)),jv 69 (.slice (.t 66) (some (.t 68)) none 1),jx 70 (.app .p (.t 65) (.t 69)),jm 5 70] [.home 70 5]) (.seq (rr [jv 72 (.bin .eql (.t 31) (jn 3)),jm 71 72]) zmq))
def zmA:AC:=(.cond (.t 48) (rr [jm 50 5,jm 51 7,jm 52 5,jm 53 7,jx 54 (.vN (.idx (.t 52) (.t 53) 1) [0]),jx 55 (.vN (.load .p (.t 54)) [0]),jm 56 0,jx 57 (.vN (.load (.ag [.s,.p]) (.t 3)) [0]),jx 58 (.callT (jf 48) [.t 56,.t 57] [0] []),jx 59 (.call (jf 45) [.t 55,.t 58]),jv 60 (.idx (.t 50) (.t 51) 1),jz (.store .p (.t 60) (.t 59))]) (.seq (rr [jv 62 (.bin .eql (.t 31) (jn 2)),jm 61 62]) zmf))
def zsj:AC:=(.cond (.t 32) (.seq (rr [jm 34 5,jm 35 7,jv 36 (.idx (.t 34) (.t 35) 1),jv 37 (.load .p (.t 36)),jk 38 37,jv 39 (.bin .gtr (.t 38) (jn 0))]) znp) (.seq (rr [jv 49 (.bin .eql (.t 31) (jn 1)),jm 48 49]) zmA))
def zo3:AC:=(.block 0 (.seq (rr [jv 33 (.bin .eql (.t 31) (jn 0)),jm 32 33]) zsj))
def zn6:AC:=(.seq (rr [jm 30 0,jx 31 (.callT (jf 47) [.t 30,jn 10] [0] [])]) zo3)
def zpk:AC:=(.cond (.t 25) (.seq (rr [jm 26 0,jm 27 5,jk 28 27,jx 29 (.callT (jf 47) [.t 26,.t 28] [0] []),jm 7 29]) zn6) .skip)
def zib:AC:=(.seq (.seq (rr [jm 23 5,jk 24 23,jv 25 (.bin .gtr (.t 24) (jn 0))]) zpk) zkr)
def zgx:AC:=(.cond (.t 19) (.reg [.clr [22]] [jv 20 (.load (.ag [.s,.p]) (.t 3)),jm 21 6,jx 22 (.callO (jf 27) [.t 20,.t 21]),jm 5 22] [.home 22 5]) .skip)
def zmn:AC:=(.seq (rr [jv 13 (.load (.ag [.s,.p]) (.t 3)),jx 14 (.call (jf 25) [.t 13]),jm 15 14,jg 16 15 true (.load (.ag [.s,.p]) (.t 3)),jg 17 15 true (.mov (.t 6)),.mk (some 18) (some (15,true)) false (.call (jf 26) [.t 16,.t 17]),jv 19 (.pick (.t 15) (.t 18) kf)]) zgx)
def zlG:AC:=(.seq (.seq (rr [jm 10 0,jv 11 (.load (.ag [.s,.p]) (.t 3)),jx 12 (.callT (jf 36) [.t 10,.t 11] [0] []),jm 6 12]) zmn) zib)
def zlI:AC:=(.seq (.reg [.clr [9]] [jx 9 (.lit (.sl .nl .s 0 []) 0 []),jm 5 9] [.home 9 5]) zlG)
def A29:AC:=(.seq (.reg [.clr [3]] [jx 3 (.box (.t 1)),jv 4 (.mov (.k (.sl .nl .p 0 [])))] []) zlI)
def ztY:List An:=[⟨0,[.clr [3]],[],[],[]⟩,⟨1,[.clr [9]],[],[],[.home 9 5]⟩,⟨2,[],[],[3000000],[]⟩,⟨4,[.clr [22]],[],[1002],[.home 22 5]⟩,⟨6,[],[],[4000000],[]⟩,⟨7,[],[],[2000000],[]⟩,⟨12,[],[],[9000000,5000000,6000000,8000000],[]⟩,⟨14,[.clr [70]],[],[],[.home 70 5]⟩,⟨16,[.clr [73,74,76,84,85]],[1,3],[3,12,6000],[.home 85 5]⟩,⟨18,[],[],[2000000],[]⟩,⟨20,[.clr [96,97,98]],[],[6001],[.home 98 5]⟩,⟨21,[],[],[],[.home 5 4,.frz 4]⟩]
theorem c29:cq Try.prog Try.f29 ztY=some A29:=by kernel_rfl
structure H29 (D:Den) (σ:Sig) (F:Nat):Prop where
 c36:C36 (D 36) F
 g36:σ 36=some (vG,false)
 c25:C25 (D 25) F
 g25:σ 25=some (0,false)
 c26:C26 (D 26) F
 g26:σ 26=some (0,false)
 c27o:zqJ (D 1000000027) F
 g27o:σ 1000000027=some (1,true)
 c47:C47 (D 47) F
 g47:σ 47=some (vG,false)
 c48:C48 (D 48) F
 g48:σ 48=some (vG,false)
 c45:C45 (D 45) F
 g45:σ 45=some (0,true)
 c49:C49 (D 49) F
 g49:σ 49=some (0,false)
abbrev R29 (r:((List LI)×CU)):(Nat→V)→Prop:=RT Try.prog [.tmp 4] (Enc.enc (r.1:(List LI))) [cuV zG r.2]
section
variable {r:((List LI)×CU)}
def wN (F:Nat) (r27:(Int×CU)) :Nat→(List LI)→Option ((List LI)×CU)
 | 0,_=>none
 | k + 1,x29=>
   bif decide ((x29.length:Int) < (w64 (16 + r27.1))) then
    (vW x29 ([[]])).bind fun ap31=>
    (wN F r27 k) ap31
   else
    some (x29,r27.2)
theorem zgj (H:H29 D σ F) (r27:(Int×CU)) :∀ (k:Nat) (x29:(List LI)) (s:Nat→V),zr [(0,bC r27.2),(4,.sl .nl (Enc.shp LI) 0 []),(5,zm (.at 5 []) (.of (x29:List LI))),(8,ji (w64 (16 + r27.1)))] s→wN F r27 k x29=some r→Run D σ (R29 r) (.run zhv [.lp zhv,.bk 1,.bk 0,.sq zkr]) s:=by
 intro k
 induction k with
 | zero=>intro x29 s _ h;exact nm h
 | succ k ih=>
   intro x29 s hs h
   rw [wN] at h
   obtain ⟨h0,h4,h5,h8⟩:=hs
   refine .seq (.seq (rg (gm h5 fun h91=>gv (ji (x29.length:Int)) (WV (o:=.of x29) h91) fun h92=>gm h8 fun h93=>g2 92 93 (jb (decide ((x29.length:Int) < (w64 (16 + r27.1))))) h92 h93 fun h94=>gq (.nsq (zk h94 h (fun h=>?_) (fun h=>?_))))))
   · refine .skip (.nsq (.block (zC (ye ?_))))
     refine ez [(0,_),(4,_),(5,_),(8,_),(96,_),(97,_),(98,_)] ⟨za h0 rfl (zi rfl xY),za h4 rfl rfl,za h5 rfl (zp (r:=5) (p:=[]) rfl rfl),za h8 rfl mi,ze rfl,ze rfl,ze rfl⟩ ?_
     rintro s ⟨h0,h4,h5,h8,h96,h97,h98⟩
     refine gm h5 fun h95=>Jv [] ([]:LI) trivial rfl rfl rfl h96 (fun s36 hd_36 hl_36=>wm [(96,eL [])] [Enc.enc ([]:LI)] (show s36 96=(eL []) from hd_36) rfl rfl (show s36 97 = .gone from (hl_36 97 (by decide)).trans h97) ?_)
     obtain ⟨ap31,Eap31,h⟩:=zb h
     refine X4 (q:=5) (p:=[]) (o:=.of (x29:List LI)) (ys:=([[]]:List LI)) (t2:=.at 97 []) (lo2:=0) (show s36 95=(zm (.at 5 []) (.of (x29:List LI))) from (hl_36 95 (by decide)).trans h95) rfl rfl (show s36 98 = .gone from (hl_36 98 (by decide)).trans h98) (Ya (o:=.of (x29:List LI)) Eap31 trivial) (fun s37 ha37=>gm (rf (zm (.at 98 []) (.of (ap31:List LI)))) fun h5=>yS (yF (r:=98) (x:=5) (v:=_) h5 rfl (fun s38 hz38=>?_)))
     refine ez [(0,bC r27.2),(4,.sl .nl (Enc.shp LI) 0 []),(5,zm (.at 5 []) (.of (ap31:List LI))),(8,ji (w64 (16 + r27.1)))] ⟨hz38 0 _ _ (show s37 0=(bC r27.2) from yc ha37 (show s36 0=(bC r27.2) from (hl_36 0 (by decide)).trans h0) (zi rfl xY)) (zi rfl xY),hz38 4 _ (.sl .nl (Enc.shp LI) 0 []) (show s37 4=(.sl .nl (Enc.shp LI) 0 []) from yc ha37 (show s36 4=(.sl .nl (Enc.shp LI) 0 []) from (hl_36 4 (by decide)).trans h4) rfl) rfl,hz38 5 _ _ h5 (zp (r:=98) (p:=[]) rfl rfl),hz38 8 _ _ (show s37 8=(ji (w64 (16 + r27.1))) from yc ha37 (show s36 8=(ji (w64 (16 + r27.1))) from (hl_36 8 (by decide)).trans h8) mi) mi⟩ ?_
     rintro s ⟨h0,h4,h5,h8⟩
     refine .nbk (.nlp ?_)
     exact ih ap31 _ ⟨h0,h4,h5,h8⟩ h
   refine .exit (.esq (.elp (.ebk (.nbk (.nsq (.seq (rg (gm h5 fun h99=>gm h99 fun h4=>yS (yF (r:=5) (x:=4) (v:=_) h4 rfl (fun s39 hz39=>Yb (x:=4) (v:=zm (.at 4 []) (.of (x29:List LI))) [.at 4 []] (by exact (hz39 4 _ _ h4 (zp (r:=5) (p:=[]) rfl rfl))) z2 (fun s40 hz40=>?_)))))))))))
   refine ez [(0,bC r27.2),(4,Enc.enc (x29:List LI))] ⟨hz40 0 (bC r27.2) (bC r27.2) (hz39 0 _ _ h0 (zi rfl xY)) (yO rfl Ju rfl),hz40 4 (zm (.at 4 []) (.of (x29:List LI))) (Enc.enc (x29:List LI)) (hz39 4 _ _ h4 (zp (r:=5) (p:=[]) rfl rfl)) w8⟩ ?_
   rintro s ⟨h0,h4⟩
   refine .nsq (.ret ?_)
   obtain rfl:=oi h
   exact rt1 (t:=0) (zl h4) h0
def vl (F:Nat) (r3:(LI×CU)) (x2:GR)  (x9:(List LI)):Option ((List LI)×CU):=
 bif decide ((x9.length:Int) > 0) then
  (yf F (Cu.mk r3.2) (x9.length:Int)).bind fun r10=>
  (yf F (Cu.mk r10.2) 10).bind fun r11=>
  bif (r11.1 == 0) then
   (idx x9 r10.1).bind fun v12=>
   bif decide ((v12.length:Int) > 0) then
    (idx x9 r10.1).bind fun v13=>
    (sub v13 1 (v13.length:Int)).bind fun sub14=>
    (idx x9 r10.1).bind fun v15=>
    some (x9.set r10.1.toNat sub14,r11.2)
   else
    some (x9,r11.2)
  else
   bif (r11.1 == 1) then
    (idx x9 r10.1).bind fun v16=>
    (vq F (Cu.mk r11.2) x2).bind fun r17=>
    (ZH F v16 r17.1).bind fun r18=>
    (idx x9 r10.1).bind fun v19=>
    some (x9.set r10.1.toNat r18,r17.2)
   else
    bif (r11.1 == 2) then
     (sub x9 0 r10.1).bind fun sub20=>
     (sub x9 (w64 (r10.1 + 1)) (x9.length:Int)).bind fun sub21=>
     (vW sub20 sub21).bind fun ap22=>
     some (ap22,r11.2)
    else
     bif (r11.1 == 3) then
      (vW ([[]]) x9).bind fun ap23=>
      (idx x9 (w64 ((x9.length:Int) - 1))).bind fun v24=>
      (W9 F v24).bind fun r25=>
      (vW ap23 [r25]).bind fun ap26=>
      some (ap26,r11.2)
     else
      bif (r11.1 == 4) then
       (yf F (Cu.mk r11.2) 2).bind fun r27=>
       wN F r27 F x9
      else
       some (x9,r11.2)
 else
  some (x9,r3.2)
theorem zb7 (H:H29 D σ F) (r3:(LI×CU)) (x2:GR)  (x9:(List LI)) (s:Nat→V) (hs:zr [(0,bC r3.2),(3,bG 3 x2),(4,.sl .nl (Enc.shp LI) 0 []),(5,zm (.at 5 []) (.of (x9:List LI)))] s) (h:vl F r3 x2  x9=some r):Run D σ (R29 r) (.nrm [.sq zib]) s:=by
 unfold vl at h
 obtain ⟨h0,h3,h4,h5⟩:=hs
 refine .nsq (.seq (.seq (rg (gm h5 fun h23=>gv (ji (x9.length:Int)) (WV (o:=.of x9) h23) fun h24=>g1 24 (jb (decide ((x9.length:Int) > 0))) h24 fun h25=>gq (.nsq (zk h25 h (fun h=>?_) (fun h=>?_)))))))
 · refine .seq (rg (gm h0 fun h26=>gm h5 fun h27=>gv (ji (x9.length:Int)) (WV (o:=.of x9) h27) fun h28=>?_))
   obtain ⟨r10,Er10,h⟩:=zb h
   refine wS (r:=zG) (b:=0) (x:=r3.2) (x':=r10.2) (vs:=[Enc.enc ((x9.length:Int):Int)]) (res:=Enc.enc (r10.1:Int)) h0 (by exact (zB (v:=cuV zG r3.2) h26 rfl (zB (v:=Enc.enc ((x9.length:Int):Int)) h28 rfl yp))) (yd te yk) fm1 (H.c47 _ _ _ Er10) H.g47 te rfl (fun s7 hb7 ha7=>gm (rf (ji r10.1)) fun h7=>?_)
   refine gz [(0,_),(3,bG 3 x2),(4,.sl .nl (Enc.shp LI) 0 []),(5,zm (.at 5 []) (.of (x9:List LI))),(7,_)] ⟨(show s7 0=(bC r10.2) from hb7 0 h0),(show s7 3=(bG 3 x2) from ha7 3 _ _ h3 rfl (zi rfl mIE)),(show s7 4=(.sl .nl (Enc.shp LI) 0 []) from ha7 4 _ _ h4 rfl rfl),(show s7 5=(zm (.at 5 []) (.of (x9:List LI))) from ha7 5 _ _ h5 rfl (zp (r:=5) (p:=[]) rfl rfl)),h7⟩ ?_
   rintro s ⟨h0,h3,h4,h5,h7⟩
   refine .nsq (.seq (rg (gm h0 fun h30=>?_)))
   obtain ⟨r11,Er11,h⟩:=zb h
   refine wS (r:=zG) (b:=0) (x:=r10.2) (x':=r11.2) (vs:=[Enc.enc (10:Int)]) (res:=Enc.enc (r11.1:Int)) h0 (by exact (zB (v:=cuV zG r10.2) h30 rfl (zB (v:=Enc.enc (10:Int)) rfl rfl yp))) (yd te yk) fm1 (H.c47 _ _ _ Er11) H.g47 te rfl (fun s8 hb8 ha8=>?_)
   refine gz [(0,_),(3,bG 3 x2),(4,.sl .nl (Enc.shp LI) 0 []),(5,zm (.at 5 []) (.of (x9:List LI))),(7,ji r10.1),(31,ji r11.1)] ⟨(show s8 0=(bC r11.2) from hb8 0 h0),(show s8 3=(bG 3 x2) from ha8 3 _ _ h3 rfl (zi rfl mIE)),(show s8 4=(.sl .nl (Enc.shp LI) 0 []) from ha8 4 _ _ h4 rfl rfl),(show s8 5=(zm (.at 5 []) (.of (x9:List LI))) from ha8 5 _ _ h5 rfl (zp (r:=5) (p:=[]) rfl rfl)),(show s8 7=(ji r10.1) from ha8 7 _ _ h7 rfl mi),rfl⟩ ?_
   rintro s ⟨h0,h3,h4,h5,h7,h31⟩
   refine .nsq (.block (.seq (rg (g1 31 (jb (r11.1 == 0)) h31 fun h33=>gm h33 fun h32=>gq (.nsq (zk h32 h (fun h=>?_) (fun h=>?_)))))))
   · refine .seq (rg (gm h5 fun h34=>gm h7 fun h35=>?_))
     obtain ⟨v12,Ev12,h⟩:=zb h
     refine gv (.ref (.at 5 []) r10.1.toNat [] (eL v12)) (vP (o:=.of x9) h34 h35 Ev12 rfl) fun h36=>g1 36 (eL v12) h36 fun h37=>gl v12 h37 fun h38=>g1 38 (jb (decide ((v12.length:Int) > 0))) h38 fun h39=>gq (.nsq (zk h39 h (fun h=>?_) (fun h=>?_)))
     · refine rg (gm h5 fun h40=>gm h7 fun h41=>gm h5 fun h42=>gm h7 fun h43=>?_)
       obtain ⟨v13,Ev13,h⟩:=zb h
       refine gv (.ref (.at 5 []) r10.1.toNat [] (eL v13)) (vP (o:=.of x9) h42 h43 Ev13 rfl) fun h44=>g1 44 (eL v13) h44 fun h45=>?_
       obtain ⟨sub14,Esub14,h⟩:=zb h
       refine gv (eL sub14) (Uu (xs:=v13) h45 (Zs rfl) (Ze) Esub14 rfl) fun h46=>?_
       obtain ⟨v15,Ev15,h⟩:=zb h
       refine gv (.ref (.at 5 []) r10.1.toNat [] (eL v15)) (vP (o:=.of x9) h40 h41 Ev15 rfl) fun h47=>yo (eL sub14) (zI h47 rfl) (zI h46 rfl) (wo (by first | rfl | simp [V.toks,V.tokss,Enc.toks_enc,ym])) (gz [(0,bC r11.2),(4,.sl .nl (Enc.shp LI) 0 []),(5,_)] ⟨zd h0 (zO rfl rfl Ws),zd h4 rfl,zd h5 W5⟩ ?_)
       rintro s ⟨h0,h4,h5⟩
       refine .nbk (.nsq (.seq (rg (gm h5 fun h99=>gm h99 fun h4=>yS (yF (r:=5) (x:=4) (v:=_) h4 rfl (fun s9 hz9=>Yb (x:=4) (v:=zm (.at 4 []) (.of (x9.set r10.1.toNat sub14:List LI))) [.at 4 []] (by exact (hz9 4 _ _ h4 (zp (r:=5) (p:=[]) rfl rfl))) z2 (fun s10 hz10=>?_)))))))
       refine ez [(0,bC r11.2),(4,Enc.enc (x9.set r10.1.toNat sub14:List LI))] ⟨hz10 0 (bC r11.2) (bC r11.2) (hz9 0 _ _ h0 (zi rfl xY)) (yO rfl Ju rfl),hz10 4 (zm (.at 4 []) (.of (x9.set r10.1.toNat sub14:List LI))) (Enc.enc (x9.set r10.1.toNat sub14:List LI)) (hz9 4 _ _ h4 (zp (r:=5) (p:=[]) rfl rfl)) w8⟩ ?_
       rintro s ⟨h0,h4⟩
       refine .nsq (.ret ?_)
       obtain rfl:=oi h
       exact rt1 (t:=0) (zl h4) h0
     refine .skip (.nbk (.nsq (.seq (rg (gm h5 fun h99=>gm h99 fun h4=>yS (yF (r:=5) (x:=4) (v:=_) h4 rfl (fun s11 hz11=>Yb (x:=4) (v:=zm (.at 4 []) (.of (x9:List LI))) [.at 4 []] (by exact (hz11 4 _ _ h4 (zp (r:=5) (p:=[]) rfl rfl))) z2 (fun s12 hz12=>?_))))))))
     refine ez [(0,bC r11.2),(4,Enc.enc (x9:List LI))] ⟨hz12 0 (bC r11.2) (bC r11.2) (hz11 0 _ _ h0 (zi rfl xY)) (yO rfl Ju rfl),hz12 4 (zm (.at 4 []) (.of (x9:List LI))) (Enc.enc (x9:List LI)) (hz11 4 _ _ h4 (zp (r:=5) (p:=[]) rfl rfl)) w8⟩ ?_
     rintro s ⟨h0,h4⟩
     refine .nsq (.ret ?_)
     obtain rfl:=oi h
     exact rt1 (t:=0) (zl h4) h0
   refine .seq (rg (g1 31 (jb (r11.1 == 1)) h31 fun h49=>gm h49 fun h48=>gq (.nsq (zk h48 h (fun h=>?_) (fun h=>?_)))))
   · refine rg (gm h5 fun h50=>gm h7 fun h51=>gm h5 fun h52=>gm h7 fun h53=>?_)
     obtain ⟨v16,Ev16,h⟩:=zb h
     refine Jg (r:=zG) (b:=0) (x:=r11.2) (.ref (.at 5 []) r10.1.toNat [] (eL v16)) h0 (vP (o:=.of x9) h52 h53 Ev16 rfl) [(52,zm (.at 5 []) (.of (x9:List LI))),(53,ji r10.1)] ⟨h52,h53⟩ rfl (by simp [V.live,V.lives,wj,uw (α:=LI) (fun _=>rfl),V.toks,V.tokss,z2,ZE,Enc.toks_enc,zG,w9]) (by simp [V.toks,V.tokss,z2,Enc.toks_enc,zG,w9]) ?_
     refine Jg (r:=zG) (b:=0) (x:=r11.2) (eL v16) h0 (uz [(54,.ref (.at 5 []) r10.1.toNat [] (eL v16))] rfl rfl rfl) [(54,.ref (.at 5 []) r10.1.toNat [] (eL v16))] rfl rfl (by simp [V.live,V.lives,wj,V.toks,V.tokss,z2,Enc.toks_enc,zG,w9]) (by simp [V.toks,V.tokss,z2,Enc.toks_enc,zG,w9]) (gm h0 fun h56=>Jg (r:=zG) (b:=0) (x:=r11.2) (gV x2) h0 (uz [(3,bG 3 x2)] h3 rfl rfl) [(3,bG 3 x2)] h3 rfl (by simp [V.live,V.lives,wj,V.toks,V.tokss,z2,Enc.toks_enc,zG,w9]) (by simp [V.toks,V.tokss,z2,Enc.toks_enc,zG,w9]) ?_)
     obtain ⟨r17,Er17,h⟩:=zb h
     refine wS (r:=zG) (b:=0) (x:=r11.2) (x':=r17.2) (vs:=[Enc.enc (x2:GR)]) (res:=Enc.enc (r17.1:Int)) h0 (by exact (zB (v:=cuV zG r11.2) h56 rfl (zB (v:=Enc.enc (x2:GR)) rfl rfl yp))) (yd te yk) fm1 (H.c48 _ _ _ Er17) H.g48 te rfl (fun s13 hb13 ha13=>?_)
     obtain ⟨r18,Er18,h⟩:=zb h
     refine Wj (m:=0) (al:=true) (r:=eL r18) [eL v16,Enc.enc (r17.1:Int)] (zg (v:=eL v16) (show s13 55=(eL v16) from ha13 55 (eL v16) _ rfl rfl me) rfl (Enc.erase_enc (v16:LI)) (zg (v:=ji r17.1) rfl rfl rfl zF)) (H.c45 _ _ _ Er18) H.g45 (We (vn (v:=eL v16) (show s13 55=(eL v16) from ha13 55 (eL v16) _ rfl rfl me) rfl rfl (vn (v:=ji r17.1) rfl rfl rfl Wd))) rfl rfl rfl ?_
     obtain ⟨v19,Ev19,h⟩:=zb h
     refine gv (.ref (.at 5 []) r10.1.toNat [] (eL v19)) (vP (o:=.of x9) (show s13 50=(zm (.at 5 []) (.of (x9:List LI))) from ha13 50 _ _ h50 rfl (zp (r:=5) (p:=[]) rfl rfl)) (show s13 51=(ji r10.1) from ha13 51 _ _ h51 rfl mi) Ev19 rfl) fun h60=>yo (eL r18) (zI h60 rfl) (zI rfl rfl) (wo (by first | rfl | simp [V.toks,V.tokss,Enc.toks_enc,ym])) ?_
     refine gz [(0,bC r17.2),(4,.sl .nl (Enc.shp LI) 0 []),(5,zm (.at 5 []) (.of (x9.set r10.1.toNat r18:List LI)))] ⟨zd (show s13 0=(bC r17.2) from hb13 0 h0) (zO rfl rfl Ws),zd (show s13 4=(.sl .nl (Enc.shp LI) 0 []) from ha13 4 _ _ h4 rfl rfl) rfl,zd (show s13 5=(zm (.at 5 []) (.of (x9:List LI))) from ha13 5 _ _ h5 rfl (zp (r:=5) (p:=[]) rfl rfl)) W5⟩ ?_
     rintro s ⟨h0,h4,h5⟩
     refine .nbk (.nsq (.seq (rg (gm h5 fun h99=>gm h99 fun h4=>yS (yF (r:=5) (x:=4) (v:=_) h4 rfl (fun s14 hz14=>Yb (x:=4) (v:=zm (.at 4 []) (.of (x9.set r10.1.toNat r18:List LI))) [.at 4 []] (by exact (hz14 4 _ _ h4 (zp (r:=5) (p:=[]) rfl rfl))) z2 (fun s15 hz15=>?_)))))))
     refine ez [(0,bC r17.2),(4,Enc.enc (x9.set r10.1.toNat r18:List LI))] ⟨hz15 0 (bC r17.2) (bC r17.2) (hz14 0 _ _ h0 (zi rfl xY)) (yO rfl Ju rfl),hz15 4 (zm (.at 4 []) (.of (x9.set r10.1.toNat r18:List LI))) (Enc.enc (x9.set r10.1.toNat r18:List LI)) (hz14 4 _ _ h4 (zp (r:=5) (p:=[]) rfl rfl)) w8⟩ ?_
     rintro s ⟨h0,h4⟩
     refine .nsq (.ret ?_)
     obtain rfl:=oi h
     exact rt1 (t:=0) (zl h4) h0
   refine .seq (rg (g1 31 (jb (r11.1 == 2)) h31 fun h62=>gm h62 fun h61=>gq (.nsq (zk h61 h (fun h=>?_) (fun h=>?_)))))
   · refine zC (ye ?_)
     refine ez [(0,_),(4,_),(5,_),(7,_),(70,_)] ⟨za h0 rfl (zi rfl xY),za h4 rfl rfl,za h5 rfl (zp (r:=5) (p:=[]) rfl rfl),za h7 rfl mi,ze rfl⟩ ?_
     rintro s ⟨h0,h4,h5,h7,h70⟩
     refine gm h5 fun h63=>gm h7 fun h64=>?_
     obtain ⟨sub20,Esub20,h⟩:=zb h
     refine gv (.sl (.at 5 []) (Enc.shp LI) (Int.toNat 0) ((sub20:List LI).map Enc.enc)) (UZ (xs:=x9) h63 (Ze) (Zs h64) Esub20 rfl) fun h65=>gm h5 fun h66=>gm h7 fun h67=>g1 67 (ji (w64 (r10.1 + 1))) h67 fun h68=>?_
     obtain ⟨sub21,Esub21,h⟩:=zb h
     refine gv (.sl (.at 5 []) (Enc.shp LI) (Int.toNat (w64 (r10.1 + 1))) ((sub21:List LI).map Enc.enc)) (UZ (xs:=x9) h66 (Zs h68) (Ze) Esub21 rfl) fun h69=>?_
     obtain ⟨ap22,Eap22,h⟩:=zb h
     refine X4 (q:=5) (p:=[]) (o:=.of (sub20:List LI)) (ys:=(sub21:List LI)) (t2:=.at 5 []) (lo2:=Int.toNat (w64 (r10.1 + 1))) (by exact h65) h69 rfl h70 (Ya (o:=.of (sub20:List LI)) Eap22 trivial) (fun s17 ha17=>gm (rf (zm (.at 70 []) (.of (ap22:List LI)))) fun h5=>yS (yF (r:=70) (x:=5) (v:=_) h5 rfl (fun s18 hz18=>?_)))
     refine ez [(0,bC r11.2),(4,.sl .nl (Enc.shp LI) 0 []),(5,zm (.at 5 []) (.of (ap22:List LI)))] ⟨hz18 0 _ _ (show s17 0=(bC r11.2) from yc ha17 h0 (zi rfl xY)) (zi rfl xY),hz18 4 _ (.sl .nl (Enc.shp LI) 0 []) (show s17 4=(.sl .nl (Enc.shp LI) 0 []) from yc ha17 h4 rfl) rfl,hz18 5 _ _ h5 (zp (r:=70) (p:=[]) rfl rfl)⟩ ?_
     rintro s ⟨h0,h4,h5⟩
     refine .nbk (.nsq (.seq (rg (gm h5 fun h99=>gm h99 fun h4=>yS (yF (r:=5) (x:=4) (v:=_) h4 rfl (fun s19 hz19=>Yb (x:=4) (v:=zm (.at 4 []) (.of (ap22:List LI))) [.at 4 []] (by exact (hz19 4 _ _ h4 (zp (r:=5) (p:=[]) rfl rfl))) z2 (fun s20 hz20=>?_)))))))
     refine ez [(0,bC r11.2),(4,Enc.enc (ap22:List LI))] ⟨hz20 0 (bC r11.2) (bC r11.2) (hz19 0 _ _ h0 (zi rfl xY)) (yO rfl Ju rfl),hz20 4 (zm (.at 4 []) (.of (ap22:List LI))) (Enc.enc (ap22:List LI)) (hz19 4 _ _ h4 (zp (r:=5) (p:=[]) rfl rfl)) w8⟩ ?_
     rintro s ⟨h0,h4⟩
     refine .nsq (.ret ?_)
     obtain rfl:=oi h
     exact rt1 (t:=0) (zl h4) h0
   refine .seq (rg (g1 31 (jb (r11.1 == 3)) h31 fun h72=>gm h72 fun h71=>gq (.nsq (zk h71 h (fun h=>?_) (fun h=>?_)))))
   · refine zC (ye ?_)
     refine ez [(0,_),(4,_),(5,_),(73,_),(74,_),(76,_),(84,_),(85,_)] ⟨za h0 rfl (zi rfl xY),za h4 rfl rfl,za h5 rfl (zp (r:=5) (p:=[]) rfl rfl),ze rfl,ze rfl,ze rfl,ze rfl,ze rfl⟩ ?_
     rintro s ⟨h0,h4,h5,h73,h74,h76,h84,h85⟩
     refine Jv [] ([]:LI) trivial rfl rfl rfl h73 (fun s22 hd_22 hl_22=>Lu [(73,eL [])] [Enc.enc ([]:LI)] (show s22 73=(eL []) from hd_22) rfl rfl (show s22 74 = .gone from (hl_22 74 (by decide)).trans h74) (gm (show s22 5=(zm (.at 5 []) (.of (x9:List LI))) from (hl_22 5 (by decide)).trans h5) fun h75=>?_))
     obtain ⟨ap23,Eap23,h⟩:=zb h
     refine XU (p:=[]) (xs:=[[]]) (ys:=(x9:List LI)) (t2:=.at 5 []) (lo2:=0) rfl h75 rfl (show s22 76 = .gone from (hl_22 76 (by decide)).trans h76) rfl Eap23 (gm (show s22 5=(zm (.at 5 []) (.of (x9:List LI))) from (hl_22 5 (by decide)).trans h5) fun h77=>gm (show s22 5=(zm (.at 5 []) (.of (x9:List LI))) from (hl_22 5 (by decide)).trans h5) fun h78=>gv (ji (x9.length:Int)) (WV (o:=.of x9) h78) fun h79=>g1 79 (ji (w64 ((x9.length:Int) - 1))) h79 fun h80=>?_)
     obtain ⟨v24,Ev24,h⟩:=zb h
     refine gv (.ref (.at 5 []) ((w64 ((x9.length:Int) - 1)).toNat) [] (eL v24)) (vP (o:=.of x9) h77 h80 Ev24 rfl) fun h81=>g1 81 (eL v24) h81 fun h82=>?_
     obtain ⟨r25,Er25,h⟩:=zb h
     refine gcF [eL v24] (zg h82 rfl (Enc.erase_enc (v24:LI)) zF) (H.c49 _ _ Er25) H.g49 (wm [(83,eL r25)] [eL r25] rfl rfl rfl (show s22 84 = .gone from (hl_22 84 (by decide)).trans h84) ?_)
     obtain ⟨ap26,Eap26,h⟩:=zb h
     refine XU (p:=[]) (xs:=ap23) (ys:=([r25]:List LI)) (t2:=.at 84 []) (lo2:=0) rfl rfl rfl (show s22 85 = .gone from (hl_22 85 (by decide)).trans h85) rfl Eap26 (gm (rf (zm (.at 85 []) (.of (ap26:List LI)))) fun h5=>yS (yF (r:=85) (x:=5) (v:=_) h5 rfl (fun s23 hz23=>?_)))
     refine ez [(0,bC r11.2),(4,.sl .nl (Enc.shp LI) 0 []),(5,zm (.at 5 []) (.of (ap26:List LI)))] ⟨hz23 0 _ _ (show s22 0=(bC r11.2) from (hl_22 0 (by decide)).trans h0) (zi rfl xY),hz23 4 _ (.sl .nl (Enc.shp LI) 0 []) (show s22 4=(.sl .nl (Enc.shp LI) 0 []) from (hl_22 4 (by decide)).trans h4) rfl,hz23 5 _ _ h5 (zp (r:=85) (p:=[]) rfl rfl)⟩ ?_
     rintro s ⟨h0,h4,h5⟩
     refine .nbk (.nsq (.seq (rg (gm h5 fun h99=>gm h99 fun h4=>yS (yF (r:=5) (x:=4) (v:=_) h4 rfl (fun s24 hz24=>Yb (x:=4) (v:=zm (.at 4 []) (.of (ap26:List LI))) [.at 4 []] (by exact (hz24 4 _ _ h4 (zp (r:=5) (p:=[]) rfl rfl))) z2 (fun s25 hz25=>?_)))))))
     refine ez [(0,bC r11.2),(4,Enc.enc (ap26:List LI))] ⟨hz25 0 (bC r11.2) (bC r11.2) (hz24 0 _ _ h0 (zi rfl xY)) (yO rfl Ju rfl),hz25 4 (zm (.at 4 []) (.of (ap26:List LI))) (Enc.enc (ap26:List LI)) (hz24 4 _ _ h4 (zp (r:=5) (p:=[]) rfl rfl)) w8⟩ ?_
     rintro s ⟨h0,h4⟩
     refine .nsq (.ret ?_)
     obtain rfl:=oi h
     exact rt1 (t:=0) (zl h4) h0
   refine .seq (rg (g1 31 (jb (r11.1 == 4)) h31 fun h87=>gm h87 fun h86=>gq (.nsq (zk h86 h (fun h=>?_) (fun h=>?_)))))
   · refine .seq (rg (gm h0 fun h88=>?_))
     obtain ⟨r27,Er27,h⟩:=zb h
     refine wS (r:=zG) (b:=0) (x:=r11.2) (x':=r27.2) (vs:=[Enc.enc (2:Int)]) (res:=Enc.enc (r27.1:Int)) h0 (by exact (zB (v:=cuV zG r11.2) h88 rfl (zB (v:=Enc.enc (2:Int)) rfl rfl yp))) (yd te yk) fm1 (H.c47 _ _ _ Er27) H.g47 te rfl (fun s26 hb26 ha26=>g1 89 (ji (w64 (16 + r27.1))) (rf (ji r27.1)) fun h90=>?_)
     refine gm h90 fun h8=>gz [(0,_),(4,.sl .nl (Enc.shp LI) 0 []),(5,zm (.at 5 []) (.of (x9:List LI))),(8,_)] ⟨(show s26 0=(bC r27.2) from hb26 0 h0),(show s26 4=(.sl .nl (Enc.shp LI) 0 []) from ha26 4 _ _ h4 rfl rfl),(show s26 5=(zm (.at 5 []) (.of (x9:List LI))) from ha26 5 _ _ h5 rfl (zp (r:=5) (p:=[]) rfl rfl)),h8⟩ ?_
     rintro s ⟨h0,h4,h5,h8⟩
     refine .nsq (.block (.loop ?_))
     exact zgj H r27 F x9 _ ⟨h0,h4,h5,h8⟩ h
   refine .skip (.nbk (.nsq (.seq (rg (gm h5 fun h99=>gm h99 fun h4=>yS (yF (r:=5) (x:=4) (v:=_) h4 rfl (fun s41 hz41=>Yb (x:=4) (v:=zm (.at 4 []) (.of (x9:List LI))) [.at 4 []] (by exact (hz41 4 _ _ h4 (zp (r:=5) (p:=[]) rfl rfl))) z2 (fun s42 hz42=>?_))))))))
   refine ez [(0,bC r11.2),(4,Enc.enc (x9:List LI))] ⟨hz42 0 (bC r11.2) (bC r11.2) (hz41 0 _ _ h0 (zi rfl xY)) (yO rfl Ju rfl),hz42 4 (zm (.at 4 []) (.of (x9:List LI))) (Enc.enc (x9:List LI)) (hz41 4 _ _ h4 (zp (r:=5) (p:=[]) rfl rfl)) w8⟩ ?_
   rintro s ⟨h0,h4⟩
   refine .nsq (.ret ?_)
   obtain rfl:=oi h
   exact rt1 (t:=0) (zl h4) h0
 refine .skip (.nsq (.seq (rg (gm h5 fun h99=>gm h99 fun h4=>yS (yF (r:=5) (x:=4) (v:=_) h4 rfl (fun s43 hz43=>Yb (x:=4) (v:=zm (.at 4 []) (.of (x9:List LI))) [.at 4 []] (by exact (hz43 4 _ _ h4 (zp (r:=5) (p:=[]) rfl rfl))) z2 (fun s44 hz44=>?_)))))))
 refine ez [(0,bC r3.2),(4,Enc.enc (x9:List LI))] ⟨hz44 0 (bC r3.2) (bC r3.2) (hz43 0 _ _ h0 (zi rfl xY)) (yO rfl Ju rfl),hz44 4 (zm (.at 4 []) (.of (x9:List LI))) (Enc.enc (x9:List LI)) (hz43 4 _ _ h4 (zp (r:=5) (p:=[]) rfl rfl)) w8⟩ ?_
 rintro s ⟨h0,h4⟩
 refine .nsq (.ret ?_)
 obtain rfl:=oi h
 exact rt1 (t:=0) (zl h4) h0
def vd (F:Nat) (r3:(LI×CU)) (x2:GR)  (x6:Bool):Option ((List LI)×CU):=
 bif x6 then
  (Zn F x2 r3.1).bind fun r32=>
  (zgJ r32).bind fun li33=>
  vl F r3 x2 li33
 else
  vl F r3 x2 []
theorem zb6 (H:H29 D σ F) (r3:(LI×CU)) (x2:GR)  (x6:Bool) (s:Nat→V) (hs:zr [(0,bC r3.2),(3,bG 3 x2),(4,.sl .nl (Enc.shp LI) 0 []),(5,zm (.at 5 []) (.of ([]:List LI))),(6,eL r3.1),(19,jb x6)] s) (h:vd F r3 x2  x6=some r):Run D σ (R29 r) (.nrm [.sq zgx,.sq zib]) s:=by
 unfold vd at h
 obtain ⟨h0,h3,h4,h5,h6,h19⟩:=hs
 refine .nsq (zk h19 h (fun h=>?_) (fun h=>?_))
 · refine zC (ye ?_)
   refine ez [(0,_),(3,_),(4,_),(5,_),(6,_),(22,_)] ⟨za h0 rfl (zi rfl xY),za h3 rfl (zi rfl mIE),za h4 rfl rfl,za h5 rfl (zp (r:=5) (p:=[]) rfl rfl),za h6 rfl me,ze rfl⟩ ?_
   rintro s ⟨h0,h3,h4,h5,h6,h22⟩
   refine g1 3 (gV x2) h3 fun h20=>gm h6 fun h21=>?_
   obtain ⟨r32,Er32,h⟩:=zb h
   refine X8 (m:=1) (al:=true) (r:=zm .sh (r32:NL LI)) (v:=zm (.at 22 []) (r32:NL LI)) (kk:=1000000027) [Enc.enc (x2:GR),eL r3.1] (zg h20 rfl (Enc.erase_enc (x2:GR)) (zg h21 rfl (Enc.erase_enc (r3.1:LI)) zF)) (H.c27o _ _ _ Er32) H.g27o (We (vn (v:=gV x2) h20 rfl rfl (vn (v:=eL r3.1) h21 rfl rfl Wd))) Z6 YU Z9 h22 ?_
   obtain ⟨li33,Eli33,h⟩:=zb h
   refine gm (zfe Eli33 rfl) fun h5=>yS (yF (r:=22) (x:=5) (v:=_) h5 rfl (fun s46 hz46=>?_))
   refine ez [(0,bC r3.2),(3,bG 3 x2),(4,.sl .nl (Enc.shp LI) 0 []),(5,zm (.at 5 []) (.of (li33:List LI)))] ⟨hz46 0 _ _ h0 (zi rfl xY),hz46 3 _ _ h3 (zi rfl mIE),hz46 4 _ _ h4 rfl,hz46 5 _ _ h5 (zp (r:=22) (p:=[]) rfl rfl)⟩ ?_
   rintro s ⟨h0,h3,h4,h5⟩
   exact zb7 H r3 x2 li33 _ ⟨h0,h3,h4,h5⟩ h
 refine .skip ?_
 exact zb7 H r3 x2 [] _ ⟨h0,h3,h4,h5⟩ h
def vo (F:Nat) (x1:CC) (x2:GR):Option ((List LI)×CU):=
 (wF F (Cu.mk x1.v) x2).bind fun r3=>
 (uG F x2).bind fun r34=>
 bif r34 then
  (vI F x2 r3.1).bind fun r35=>
  vd F r3 x2 r35
 else
  vd F r3 x2 false
theorem t29 (H:H29 D σ F) (x1:CC) (x2:GR) (s:Nat→V) (hs:zr [(0,bC x1.v),(1,gV x2)] s) (h:vo F x1 x2=some r):Run D σ (R29 r) (.run A29 []) s:=by
 unfold vo at h
 obtain ⟨h0,h1⟩:=hs
 refine .seq (zC (ye ?_))
 refine ez [(0,_),(1,_),(3,_)] ⟨za h0 rfl (zi rfl xY),za h1 rfl mIE,ze rfl⟩ ?_
 rintro s ⟨h0,h1,h3⟩
 refine wa (gV x2) (zI h1 rfl) h3 rfl (g0 (.sl .nl (Enc.shp LI) 0 []) fun h4=>gq (.nsq (.seq (zC (ye ?_)))))
 refine ez [(0,_),(3,_),(4,_),(9,_)] ⟨za h0 rfl (zi rfl xY),za rfl rfl (zi rfl mIE),za h4 rfl rfl,ze rfl⟩ ?_
 rintro s ⟨h0,h3,h4,h9⟩
 refine wm [] [] trivial rfl rfl h9 (gm (rf (zm (.at 9 []) (.of ([]:List LI)))) fun h5=>yS (yF (r:=9) (x:=5) (v:=_) h5 rfl (fun s3 hz3=>?_)))
 refine ez [(0,bC x1.v),(3,bG 3 x2),(4,.sl .nl (Enc.shp LI) 0 []),(5,zm (.at 5 []) (.of ([]:List LI)))] ⟨hz3 0 _ _ h0 (zi rfl xY),hz3 3 _ _ h3 (zi rfl mIE),hz3 4 _ _ h4 rfl,hz3 5 _ _ h5 (zp (r:=9) (p:=[]) rfl rfl)⟩ ?_
 rintro s ⟨h0,h3,h4,h5⟩
 refine .nsq (.seq (.seq (rg (gm h0 fun h10=>g1 3 (gV x2) h3 fun h11=>?_))))
 obtain ⟨r3,Er3,h⟩:=zb h
 refine wS (r:=zG) (b:=0) (x:=x1.v) (x':=r3.2) (vs:=[Enc.enc (x2:GR)]) (res:=eL r3.1) h0 (by exact (zB (v:=cuV zG x1.v) h10 rfl (zB (v:=Enc.enc (x2:GR)) h11 rfl yp))) (yd te yk) fm1 (H.c36 _ _ _ Er3) H.g36 te rfl (fun s4 hb4 ha4=>gm (rf (eL r3.1)) fun h6=>?_)
 refine gz [(0,_),(3,bG 3 x2),(4,.sl .nl (Enc.shp LI) 0 []),(5,zm (.at 5 []) (.of ([]:List LI))),(6,_)] ⟨(show s4 0=(bC r3.2) from hb4 0 h0),(show s4 3=(bG 3 x2) from ha4 3 _ _ h3 rfl (zi rfl mIE)),(show s4 4=(.sl .nl (Enc.shp LI) 0 []) from ha4 4 _ _ h4 rfl rfl),(show s4 5=(zm (.at 5 []) (.of ([]:List LI))) from ha4 5 _ _ h5 rfl (zp (r:=5) (p:=[]) rfl rfl)),h6⟩ ?_
 rintro s ⟨h0,h3,h4,h5,h6⟩
 refine .nsq (.seq (rg (g1 3 (gV x2) h3 fun h13=>?_)))
 obtain ⟨r34,Er34,h⟩:=zb h
 refine gcF [Enc.enc (x2:GR)] (zg h13 rfl (Enc.erase_enc (x2:GR)) zF) (H.c25 _ _ Er34) H.g25 (gm (rf (jb r34)) fun h15=>z6 h (fun hg3 h=>?_) (fun hg3 h=>?_))
 · refine zo (ct h15 hg3) (g1 3 (gV x2) h3 fun h16=>zo (ct h15 hg3) (gm h6 fun h17=>?_))
   obtain ⟨r35,Er35,h⟩:=zb h
   refine zo (ct h15 hg3) (gcF [Enc.enc (x2:GR),eL r3.1] (zg h16 rfl (Enc.erase_enc (x2:GR)) (zg h17 rfl (Enc.erase_enc (r3.1:LI)) zF)) (H.c26 _ _ _ Er35) H.g26 (g2 15 18 (jb r35) (ct h15 hg3) (rf (jb r35)) fun h19=>gq ?_))
   exact zb6 H r3 x2 r35 _ ⟨h0,h3,h4,h5,h6,h19⟩ h
 iterate 3 refine yJ (ct h15 hg3) ?_
 refine g2 15 18 (jb false) (ct h15 hg3) (rf (.tup [])) fun h19=>gq ?_
 exact zb6 H r3 x2 false _ ⟨h0,h3,h4,h5,h6,h19⟩ h
end
def e29 (F:Nat):Ent:=ent 29 (fun (x:(CC×GR×Unit))=>vo F x.1 x.2.1) (fun (r:((List LI)×CU))=>(.tup [Enc.enc (r.1:(List LI)),.tup [cuV zG r.2]])) vG false []
abbrev C29 (D:List V→Option V) (F:Nat):Prop:=∀ (x0:CC) (x1:GR) r,vo F x0 x1=some r→D [Arg.arg x0,Enc.enc x1]=some (.tup [Enc.enc (r.1:(List LI)),.tup [cuV zG r.2]])
theorem p29 {F:Nat}:C29 (e29 F).den F:=fun x0 x1 _ h=>zR (x0,x1,()) h
theorem o29 (hF:zw Try.prog D σ) (H:H29 D σ F):(e29 F).Ok Try.prog:=okZ (f:=29) Try.func29 fun ⟨x0,x1,_⟩ y hy=>cT hF Try.func29 c29 (t29 H x0 x1 _ ⟨rfl,rfl⟩ hy)
def zuz:AC:=(.seq (rr [jx 11 (.vN (.load (.ag [.s,.p]) (.t 5)) [4]),jm 12 4,jx 13 (.vN (.load (.ag [.s,.p]) (.t 5)) [4]),jx 14 (.callT (jf 29) [.t 12,.t 13] [4] []),jz (.store (.ag [.s,.p]) (.t 2) (.t 11)),jm 3 14]) .ret)
def zum:AC:=(.seq (.reg [.clr [5]] [jm 9 4,jx 10 (.callT (jf 28) [.t 9] [4] []),jx 5 (.alloc (.agg [i0,.sl .nl (.ag [.s,.s]) 0 []])),jz (.store (.ag [.s,.p]) (.t 5) (.t 10))] []) zuz)
def zt0:AC:=(.seq (.reg [.clr [8]] [jm 6 0,jv 7 (.bld (.agg [.sl .nl .s 0 [],i0,.int .u64 (.ofNat 0)]) [(0,0,.t 6)]),jx 8 (.box (.t 7)),jm 4 8] []) zum)
def A9:AC:=(.seq (.reg [.clr [2]] [jx 2 (.alloc (.agg [i0,.sl .nl (.ag [.s,.s]) 0 []])),jv 3 (.mov (.k (.sl .nl .p 0 [])))] []) zt0)
def an9:List An:=[⟨0,[.clr [2]],[],[],[]⟩,⟨1,[.clr [8]],[],[],[]⟩,⟨2,[.clr [5]],[],[2000004],[]⟩,⟨3,[],[],[4000004,1000004,3000004],[]⟩]
theorem c9:cq Try.prog Try.f9 an9=some A9:=by kernel_rfl
structure H9 (D:Den) (σ:Sig) (F:Nat):Prop where
 c28:C28 (D 28) F
 g28:σ 28=some (vG,false)
 c29:C29 (D 29) F
 g29:σ 29=some (vG,false)
abbrev R9 (r:(GR×(List LI))):(Nat→V)→Prop:=RR Try.prog [.cell 2 26,.tmp 3] 0 true (.tup [Enc.enc (r.1:GR),Enc.enc (r.2:(List LI))])
section
variable {r:(GR×(List LI))}
def yP (F:Nat) (x1:LB):Option (GR×(List LI)):=
 (xS F (cu x1 0 0)).bind fun r2=>
 (vo F (Cu.mk r2.2) r2.1).bind fun r3=>
 some (r2.1,r3.1)
theorem t9 (H:H9 D σ F) (x1:LB) (s:Nat→V) (hs:zr [(0,eB x1)] s) (h:yP F x1=some r):Run D σ (R9 r) (.run A9 []) s:=by
 unfold yP at h
 have h0:=hs
 refine .seq (zC (ye ?_))
 refine ez [(0,_),(2,_)] ⟨za h0 rfl me,ze rfl⟩ ?_
 rintro s ⟨h0,h2⟩
 refine xN h2 (g0 (.sl .nl (Enc.shp LI) 0 []) fun h3=>gq (.nsq (.seq (zC (ye ?_)))))
 refine ez [(0,_),(2,_),(3,_),(8,_)] ⟨za h0 rfl me,za rfl rfl (zi rfl (mIx rfl)),za h3 rfl rfl,ze rfl⟩ ?_
 rintro s ⟨h0,h2,h3,h8⟩
 refine gm h0 fun h6=>g1 6 (.agg [eB x1,ji 0,.int .u64 0]) h6 fun h7=>wa (.agg [eB x1,ji 0,.int .u64 0]) (zI h7 rfl) h8 rfl (gm (rf (.ref (.bx 8) 0 [] (.agg [eB x1,ji 0,.int .u64 0]))) fun h4=>gq (.nsq (.seq (zC (ye ?_)))))
 refine ez [(2,_),(3,_),(4,_),(5,_)] ⟨za h2 rfl (zi rfl (mIx rfl)),za h3 rfl rfl,za h4 rfl (zi rfl xY),ze rfl⟩ ?_
 rintro s ⟨h2,h3,h4,h5⟩
 refine gm h4 fun h9=>?_
 obtain ⟨r2,Er2,h⟩:=zb h
 refine wS (r:=8) (b:=4) (x:=((S3.mk x1 0 (Kd.mk 0:Kd .u64)):CU)) (x':=r2.2) (vs:=[]) (res:=Enc.enc (r2.1:GR)) h4 (by exact (zB (v:=cuV 8 ((S3.mk x1 0 (Kd.mk 0:Kd .u64)):CU)) h9 rfl yp)) yk (fun f=>zH) (H.c28 _ _ Er2) H.g28 te rfl (fun s4 hb4 ha4=>xN (show s4 5 = .gone from ha4 5 _ _ h5 rfl rfl) (yo (gV r2.1) (zI rfl rfl) (zI rfl rfl) (wo (by first | rfl | simp [V.toks,V.tokss,Enc.toks_enc,ym])) ?_))
 refine gz [(2,bZ 2),(3,.sl .nl (Enc.shp LI) 0 []),(4,.ref (.bx 8) 0 [] (cV r2.2)),(5,bG 5 r2.1)] ⟨zd (show s4 2=(bZ 2) from ha4 2 _ _ h2 rfl (zi rfl (mIx rfl))) (zO rfl rfl (yN (zx rfl (zx rfl rfl)))),zd (show s4 3=(.sl .nl (Enc.shp LI) 0 []) from ha4 3 _ _ h3 rfl rfl) rfl,zd (show s4 4=(.ref (.bx 8) 0 [] (cV r2.2)) from hb4 4 h4) (zO rfl rfl Ws),zd rfl rfl⟩ ?_
 rintro s ⟨h2,h3,h4,h5⟩
 refine .nsq (.seq (rg (Jg (r:=8) (b:=4) (x:=r2.2) (gV r2.1) h4 (uz [(5,bG 5 r2.1)] h5 rfl rfl) [(5,bG 5 r2.1)] h5 rfl (by simp [V.live,V.lives,wj,V.toks,V.tokss,z2,Enc.toks_enc,zG,w9]) (by simp [V.toks,V.tokss,z2,Enc.toks_enc,zG,w9]) (gm h4 fun h12=>Jg (r:=8) (b:=4) (x:=r2.2) (gV r2.1) h4 (uz [(5,bG 5 r2.1)] h5 rfl rfl) [(5,bG 5 r2.1)] h5 rfl (by simp [V.live,V.lives,wj,V.toks,V.tokss,z2,Enc.toks_enc,zG,w9]) (by simp [V.toks,V.tokss,z2,Enc.toks_enc,zG,w9]) ?_))))
 obtain ⟨r3,Er3,h⟩:=zb h
 refine wS (r:=8) (b:=4) (x:=r2.2) (x':=r3.2) (vs:=[Enc.enc (r2.1:GR)]) (res:=Enc.enc (r3.1:(List LI))) h4 (by exact (zB (v:=cuV 8 r2.2) h12 rfl (zB (v:=Enc.enc (r2.1:GR)) rfl rfl yp))) (yd te yk) fm1 (H.c29 _ _ _ Er3) H.g29 te rfl (fun s5 hb5 ha5=>yo (gV r2.1) (zI (show s5 2=(bZ 2) from ha5 2 _ _ h2 rfl (zi rfl (mIx rfl))) rfl) (zI (show s5 11=(gV r2.1) from ha5 11 (gV r2.1) _ rfl rfl mIE) rfl) (wo (by first | rfl | simp [V.toks,V.tokss,Enc.toks_enc,ym])) (gm (zd rfl uE) fun h3=>?_))
 refine gz [(2,bG 2 r2.1),(3,_)] ⟨zd (show s5 2=(bZ 2) from ha5 2 _ _ h2 rfl (zi rfl (mIx rfl))) rfl,h3⟩ ?_
 rintro s ⟨h2,h3⟩
 refine .nsq (.ret ?_)
 obtain rfl:=oi h
 exact rrB (vE h2 (by kernel_rfl)) (zl h3) (ZC (Zh (yG (w7 (x:=(r2.1:GR))) (yG (w7 (x:=(r3.1:(List LI)))) vt))))
end
def e9 (F:Nat):Ent:=ent 9 (fun (x:(LB×Unit))=>yP F x.1) (fun (r:(GR×(List LI)))=>(.tup [Enc.enc (r.1:GR),Enc.enc (r.2:(List LI))])) 0 true []
abbrev C9 (D:List V→Option V) (F:Nat):Prop:=∀ (x0:LB) r,yP F x0=some r→D [Enc.enc x0]=some (.tup [Enc.enc (r.1:GR),Enc.enc (r.2:(List LI))])
theorem p9 {F:Nat}:C9 (e9 F).den F:=fun x0 _ h=>zR (x0,()) h
theorem o9 (hF:zw Try.prog D σ) (H:H9 D σ F):(e9 F).Ok Try.prog:=okZ (f:=9) Try.func9 fun ⟨x0,_⟩ y hy=>cR hF Try.func9 c9 (t9 H x0 _ rfl hy)
def zsb:AC:=(.seq (rr [jv 5 (.load (.ag [.s,.p]) (.t 2)),jx 6 (.call (jf 20) [.t 5]),jm 7 6,jg 8 7 true (.mov (.t 1)),jg 9 7 true (.fld (.t 2) 0 0),jg 10 7 true (.load .s (.t 9)),jg 11 7 true (.bin .sub (.t 10) (jn 1)),.mk (some 12) (some (7,true)) false (.call (jf 39) [.t 8,jn 0,.t 11]),jv 13 (.pick (.t 7) (.t 12) kf),jm 4 13]) .ret)
def A74:AC:=(.seq (.reg [.clr [2]] [jx 2 (.box (.t 0)),jv 4 (.mov kf)] []) zsb)
def zut:List An:=[⟨0,[.clr [2]],[],[],[]⟩]
theorem c74:cq Try.prog Try.f74 zut=some A74:=by kernel_rfl
structure H74 (D:Den) (σ:Sig) (F:Nat):Prop where
 c20:C20 (D 20) F
 g20:σ 20=some (0,false)
 c39:C39 (D 39) F
 g39:σ 39=some (0,false)
abbrev R74 (r:Bool):(Nat→V)→Prop:=RR Try.prog [.tmp 4] 0 false (Enc.enc (r:Bool))
section
variable {r:Bool}
def Yz (F:Nat) (x1:GR) (x2:LI):Option Bool:=
 (wW F x1).bind fun r3=>
 bif r3 then
  (vp F x2 0 (w64 (x1.1 - 1))).bind fun r4=>
  some r4
 else
  some false
theorem t74 (H:H74 D σ F) (x1:GR) (x2:LI) (s:Nat→V) (hs:zr [(0,gV x1),(1,eL x2)] s) (h:Yz F x1 x2=some r):Run D σ (R74 r) (.run A74 []) s:=by
 unfold Yz at h
 obtain ⟨h0,h1⟩:=hs
 refine .seq (zC (ye ?_))
 refine ez [(0,_),(1,_),(2,_)] ⟨za h0 rfl mIE,za h1 rfl me,ze rfl⟩ ?_
 rintro s ⟨h0,h1,h2⟩
 refine wa (gV x1) (zI h0 rfl) h2 rfl (g0 (jb false) fun h4=>gq (.nsq (.seq (rg (g1 2 (gV x1) (rf (bG 2 x1)) fun h5=>?_)))))
 obtain ⟨r3,Er3,h⟩:=zb h
 refine gcF [Enc.enc (x1:GR)] (zg h5 rfl (Enc.erase_enc (x1:GR)) zF) (H.c20 _ _ Er3) H.g20 (gm (rf (jb r3)) fun h7=>z6 h (fun hg3 h=>?_) (fun hg3 h=>?_))
 · refine zo (ct h7 hg3) (gm h1 fun h8=>zo (ct h7 hg3) (g1 2 (.ref (.bx 2) 0 [0] (ji x1.1)) (rf (bG 2 x1)) fun h9=>zo (ct h7 hg3) (g1 9 (ji x1.1) h9 fun h10=>zo (ct h7 hg3) (g1 10 (ji (w64 (x1.1 - 1))) h10 fun h11=>?_))))
   obtain ⟨r4,Er4,h⟩:=zb h
   refine zo (ct h7 hg3) (gcF [eL x2,Enc.enc (0:Int),Enc.enc (w64 (x1.1 - 1):Int)] (zg h8 rfl (Enc.erase_enc (x2:LI)) (zg (v:=ji 0) rfl rfl rfl (zg h11 rfl rfl zF))) (H.c39 _ _ _ _ Er4) H.g39 (g2 7 12 (jb r4) (ct h7 hg3) (rf (jb r4)) fun h13=>gm h13 fun h4=>gq (.nsq (.ret ?_))))
   obtain rfl:=oi h
   exact rrA (zl h4) rfl
 iterate 5 refine yJ (ct h7 hg3) ?_
 refine g2 7 12 (jb false) (ct h7 hg3) (rf (.tup [])) fun h13=>gm h13 fun h4=>gq (.nsq (.ret ?_))
 obtain rfl:=oi h
 exact rrA (zl h4) rfl
end
def e74 (F:Nat):Ent:=ent 74 (fun (x:(GR×LI×Unit))=>Yz F x.1 x.2.1) (fun (r:Bool)=>(Enc.enc (r:Bool))) 0 false []
abbrev C74 (D:List V→Option V) (F:Nat):Prop:=∀ (x0:GR) (x1:LI) r,Yz F x0 x1=some r→D [Enc.enc x0,Enc.enc x1]=some (Enc.enc (r:Bool))
theorem p74 {F:Nat}:C74 (e74 F).den F:=fun x0 x1 _ h=>zR (x0,x1,()) h
theorem o74 (hF:zw Try.prog D σ) (H:H74 D σ F):(e74 F).Ok Try.prog:=okZ (f:=74) Try.func74 fun ⟨x0,x1,_⟩ y hy=>cR hF Try.func74 c74 (t74 H x0 x1 _ ⟨rfl,rfl⟩ hy)
def zrA:AC:=(.cond (.t 7) .skip (.exit 0))
def zod:AC:=(.cond (.t 19) (.seq (rr [jv 2 (.mov kf)]) .ret) .skip)
def zql:AC:=(rr [jm 8 3,jv 9 (.bin .add (.t 8) (jn 1)),jm 3 9])
def zpO:AC:=(.seq (.block 1 (.seq (rr [jm 10 0,jm 11 3,jv 12 (.bin .sub (.t 11) (jn 1)),jv 13 (.idx (.t 10) (.t 12) 1),jl 14 13,jm 15 0,jm 16 3,jv 17 (.idx (.t 15) (.t 16) 1),jl 18 17,jv 19 (.bin .geq (.t 14) (.t 18))]) zod)) zql)
def zhR:AC:=(.seq (.seq (rr [jm 4 3,jm 5 0,jk 6 5,jv 7 (.bin .lss (.t 4) (.t 6))]) zrA) zpO)
def zli:AC:=(.seq (rr [jv 2 (.mov kt)]) .ret)
def zro:AC:=(.block 0 (.loop zhR))
def zr6:AC:=(.seq (.seq (rr [jv 3 (.mov (jn 1))]) zro) zli)
def A75:AC:=(.seq (rr [jv 2 (.mov kf)]) zr6)
def ztO:List An:=[]
theorem c75:cq Try.prog Try.f75 ztO=some A75:=by kernel_rfl
structure H75 (D:Den) (σ:Sig) (F:Nat):Prop where
 mk ::
abbrev R75 (r:Bool):(Nat→V)→Prop:=RR Try.prog [.tmp 2] 0 false (Enc.enc (r:Bool))
section
variable {r:Bool}
def xw (F:Nat) (x1:LI) :Nat→Int→Option Bool
 | 0,_=>none
 | k + 1,x4=>
   bif decide (x4 < (x1.length:Int)) then
    (idx x1 (w64 (x4 - 1))).bind fun v7=>
    (idx x1 x4).bind fun v8=>
    bif decide (v7≥v8) then
     some false
    else
     (xw F x1 k) (w64 (x4 + 1))
   else
    some true
theorem zhy (H:H75 D σ F) (x1:LI) :∀ (k:Nat) (x4:Int) (s:Nat→V),zr [(0,eL x1),(2,jb false),(3,ji x4)] s→xw F x1 k x4=some r→Run D σ (R75 r) (.run zhR [.lp zhR,.bk 0,.sq zli]) s:=by
 intro k
 induction k with
 | zero=>intro x4 s _ h;exact nm h
 | succ k ih=>
   intro x4 s hs h
   rw [xw] at h
   obtain ⟨h0,h2,h3⟩:=hs
   refine .seq (.seq (rg (gm h3 fun h4=>gm h0 fun h5=>gl x1 h5 fun h6=>g2 4 6 (jb (decide (x4 < (x1.length:Int)))) h4 h6 fun h7=>gq (.nsq (zk h7 h (fun h=>?_) (fun h=>?_))))))
   · refine .skip (.nsq (.seq (.block (.seq (rg (gm h0 fun h10=>gm h3 fun h11=>g1 11 (ji (w64 (x4 - 1))) h11 fun h12=>?_))))))
     obtain ⟨v7,Ev7,h⟩:=zb h
     refine gv (.ref .sh 0 [] (ji v7)) (yn (t:=.sh) (lo:=0) (xs:=x1) h10 h12 Ev7 rfl rfl) fun h13=>g1 13 (ji v7) h13 fun h14=>gm h0 fun h15=>gm h3 fun h16=>?_
     obtain ⟨v8,Ev8,h⟩:=zb h
     refine gv (.ref .sh 0 [] (ji v8)) (yn (t:=.sh) (lo:=0) (xs:=x1) h15 h16 Ev8 rfl rfl) fun h17=>g1 17 (ji v8) h17 fun h18=>g2 14 18 (jb (decide (v7≥v8))) h14 h18 fun h19=>gq (.nsq (zk h19 h (fun h=>?_) (fun h=>?_)))
     · refine .seq (rg (g0 (jb false) fun h2=>gq (.nsq (.ret ?_))))
       obtain rfl:=oi h
       exact rrA (zl h2) rfl
     refine .skip (.nbk (.nsq (rg (gm h3 fun h8=>g1 8 (ji (w64 (x4 + 1))) h8 fun h9=>gm h9 fun h3=>gq (.nlp ?_)))))
     exact ih (w64 (x4 + 1)) _ ⟨h0,h2,h3⟩ h
   refine .exit (.esq (.elp (.ebk (.nsq (.seq (rg (g0 (jb true) fun h2=>gq (.nsq (.ret ?_)))))))))
   obtain rfl:=oi h
   exact rrA (zl h2) rfl
def Zv (F:Nat) (x1:LI):Option Bool:=
 xw F x1 F 1
theorem t75 (H:H75 D σ F) (x1:LI) (s:Nat→V) (hs:zr [(0,eL x1)] s) (h:Zv F x1=some r):Run D σ (R75 r) (.run A75 []) s:=by
 unfold Zv at h
 have h0:=hs
 refine .seq (rg (g0 (jb false) fun h2=>gq (.nsq (.seq (.seq (rg (g0 (ji 1) fun h3=>gq (.nsq (.block (.loop ?_))))))))))
 exact zhy H x1 F 1 _ ⟨h0,h2,h3⟩ h
end
def e75 (F:Nat):Ent:=ent 75 (fun (x:(LI×Unit))=>Zv F x.1) (fun (r:Bool)=>(Enc.enc (r:Bool))) 0 false []
abbrev C75 (D:List V→Option V) (F:Nat):Prop:=∀ (x0:LI) r,Zv F x0=some r→D [Enc.enc x0]=some (Enc.enc (r:Bool))
theorem p75 {F:Nat}:C75 (e75 F).den F:=fun x0 _ h=>zR (x0,()) h
theorem o75 (hF:zw Try.prog D σ) (H:H75 D σ F):(e75 F).Ok Try.prog:=okZ (f:=75) Try.func75 fun ⟨x0,_⟩ y hy=>cR hF Try.func75 c75 (t75 H x0 _ rfl hy)
def zq7:AC:=(.seq (rr [jv 5 (.load (.ag [.s,.p]) (.t 2)),jm 6 1,jx 7 (.call (jf 74) [.t 5,.t 6]),jm 8 7,jg 9 8 true (.mov (.t 1)),.mk (some 10) (some (8,true)) false (.call (jf 75) [.t 9]),jv 11 (.pick (.t 8) (.t 10) kf),jm 4 11]) .ret)
def A52:AC:=(.seq (.reg [.clr [2]] [jx 2 (.box (.t 0)),jv 4 (.mov kf)] []) zq7)
def zth:List An:=[⟨0,[.clr [2]],[],[],[]⟩]
theorem c52:cq Try.prog Try.f52 zth=some A52:=by kernel_rfl
structure H52 (D:Den) (σ:Sig) (F:Nat):Prop where
 c74:C74 (D 74) F
 g74:σ 74=some (0,false)
 c75:C75 (D 75) F
 g75:σ 75=some (0,false)
abbrev R52 (r:Bool):(Nat→V)→Prop:=RR Try.prog [.tmp 4] 0 false (Enc.enc (r:Bool))
section
variable {r:Bool}
def W8 (F:Nat) (x1:GR) (x2:LI):Option Bool:=
 (Yz F x1 x2).bind fun r3=>
 bif r3 then
  (Zv F x2).bind fun r4=>
  some r4
 else
  some false
theorem t52 (H:H52 D σ F) (x1:GR) (x2:LI) (s:Nat→V) (hs:zr [(0,gV x1),(1,eL x2)] s) (h:W8 F x1 x2=some r):Run D σ (R52 r) (.run A52 []) s:=by
 unfold W8 at h
 obtain ⟨h0,h1⟩:=hs
 refine .seq (zC (ye ?_))
 refine ez [(0,_),(1,_),(2,_)] ⟨za h0 rfl mIE,za h1 rfl me,ze rfl⟩ ?_
 rintro s ⟨h0,h1,h2⟩
 refine wa (gV x1) (zI h0 rfl) h2 rfl (g0 (jb false) fun h4=>gq (.nsq (.seq (rg (g1 2 (gV x1) (rf (bG 2 x1)) fun h5=>gm h1 fun h6=>?_)))))
 obtain ⟨r3,Er3,h⟩:=zb h
 refine gcF [Enc.enc (x1:GR),eL x2] (zg h5 rfl (Enc.erase_enc (x1:GR)) (zg h6 rfl (Enc.erase_enc (x2:LI)) zF)) (H.c74 _ _ _ Er3) H.g74 (gm (rf (jb r3)) fun h8=>z6 h (fun hg4 h=>?_) (fun hg4 h=>?_))
 · refine zo (ct h8 hg4) (gm h1 fun h9=>?_)
   obtain ⟨r4,Er4,h⟩:=zb h
   refine zo (ct h8 hg4) (gcF [eL x2] (zg h9 rfl (Enc.erase_enc (x2:LI)) zF) (H.c75 _ _ Er4) H.g75 (g2 8 10 (jb r4) (ct h8 hg4) (rf (jb r4)) fun h11=>gm h11 fun h4=>gq (.nsq (.ret ?_))))
   obtain rfl:=oi h
   exact rrA (zl h4) rfl
 iterate 2 refine yJ (ct h8 hg4) ?_
 refine g2 8 10 (jb false) (ct h8 hg4) (rf (.tup [])) fun h11=>gm h11 fun h4=>gq (.nsq (.ret ?_))
 obtain rfl:=oi h
 exact rrA (zl h4) rfl
end
def e52 (F:Nat):Ent:=ent 52 (fun (x:(GR×LI×Unit))=>W8 F x.1 x.2.1) (fun (r:Bool)=>(Enc.enc (r:Bool))) 0 false []
abbrev C52 (D:List V→Option V) (F:Nat):Prop:=∀ (x0:GR) (x1:LI) r,W8 F x0 x1=some r→D [Enc.enc x0,Enc.enc x1]=some (Enc.enc (r:Bool))
theorem p52 {F:Nat}:C52 (e52 F).den F:=fun x0 x1 _ h=>zR (x0,x1,()) h
theorem o52 (hF:zw Try.prog D σ) (H:H52 D σ F):(e52 F).Ok Try.prog:=okZ (f:=52) Try.func52 fun ⟨x0,x1,_⟩ y hy=>cR hF Try.func52 c52 (t52 H x0 x1 _ ⟨rfl,rfl⟩ hy)
def zof:AC:=(.seq (rr [jv 4 (.load (.ag [.s,.p]) (.t 1)),jm 5 0,jx 6 (.call (jf 52) [.t 4,.t 5]),jv 7 (.un .not (.t 6)),jm 3 7]) .ret)
def A51:AC:=(.seq (rr [jv 3 (.mov kf)]) zof)
def ztq:List An:=[]
theorem c51:cq Try.prog Try.f51 ztq=some A51:=by kernel_rfl
structure H51 (D:Den) (σ:Sig) (F:Nat):Prop where
 c52:C52 (D 52) F
 g52:σ 52=some (0,false)
abbrev R51 (r:Bool):(Nat→V)→Prop:=RR Try.prog [.tmp 3] 0 false (Enc.enc (r:Bool))
section
variable {r:Bool}
def xo (F:Nat) (x1:LI) (rf_2:(Rf GR)):Option Bool:=
 (W8 F rf_2.v x1).bind fun r3=>
 some (!r3)
theorem t51 (H:H51 D σ F) (x1:LI) (rf_2:(Rf GR)) (s:Nat→V) (hs:zr [(0,eL x1),(1,.ref .sh 0 [] (gV rf_2.v))] s) (h:xo F x1 rf_2=some r):Run D σ (R51 r) (.run A51 []) s:=by
 unfold xo at h
 obtain ⟨h0,h1⟩:=hs
 refine .seq (rg (g0 (jb false) fun h3=>gq (.nsq (.seq (rg (g1 1 (gV rf_2.v) h1 fun h4=>gm h0 fun h5=>?_))))))
 obtain ⟨r3,Er3,h⟩:=zb h
 refine gcF [Enc.enc (rf_2.v:GR),eL x1] (zg h4 rfl (Enc.erase_enc (rf_2.v:GR)) (zg h5 rfl (Enc.erase_enc (x1:LI)) zF)) (H.c52 _ _ _ Er3) H.g52 (g1 6 (jb (!r3)) (rf (jb r3)) fun h7=>gm h7 fun h3=>gq (.nsq (.ret ?_)))
 obtain rfl:=oi h
 exact rrA (zl h3) rfl
end
def e51 (F:Nat):Ent:=ent 51 (fun (x:(LI×(Rf GR)×Unit))=>xo F x.1 x.2.1) (fun (r:Bool)=>(Enc.enc (r:Bool))) 0 false []
abbrev C51 (D:List V→Option V) (F:Nat):Prop:=∀ (x0:LI) (x1:(Rf GR)) r,xo F x0 x1=some r→D [Enc.enc x0,Arg.arg x1]=some (Enc.enc (r:Bool))
theorem p51 {F:Nat}:C51 (e51 F).den F:=fun x0 x1 _ h=>zR (x0,x1,()) h
theorem o51 (hF:zw Try.prog D σ) (H:H51 D σ F):(e51 F).Ok Try.prog:=okZ (f:=51) Try.func51 fun ⟨x0,x1,_⟩ y hy=>cR hF Try.func51 c51 (t51 H x0 x1 _ ⟨rfl,rfl⟩ hy)
def zjN:AC:=(.cond (.t 16) (.seq (rr [jm 17 5,jm 4 17]) .ret) .skip)
def zi9:AC:=(.seq (rr [jm 11 1,jm 12 0,jm 13 5,jv 14 (.idx (.t 12) (.t 13) 1),jv 15 (.load .p (.t 14)),jx 16 (.call (.t 11) [.t 15])]) zjN)
def zjv:AC:=(rr [jv 18 (.bin .add (.t 8) (jn 1)),jm 8 18])
def zj7:AC:=(.seq (.block 1 (.seq (rr [jm 10 8,jm 5 10]) zi9)) zjv)
def zjZ:AC:=(.seq (.cond (.t 9) .skip (.exit 0)) zj7)
def zas:AC:=(.seq (rr [jv 9 (.bin .lss (.t 8) (.t 7))]) zjZ)
def zd7:AC:=(.seq (rr [jv 4 (.mov (jn (-1)))]) .ret)
def zjz:AC:=(.block 0 (.loop zas))
def zj5:AC:=(.seq (.seq (rr [jm 6 0,jk 7 6,jv 8 (.mov (jn 0))]) zjz) zd7)
def zk2:AC:=(.seq (rr [jv 4 (.mov (jn 0))]) zj5)
def zne:List An:=[]
theorem c73s1:cq Try.prog Try.f73 zne=some zk2:=by kernel_rfl
structure zhF (D:Den) (σ:Sig) (F:Nat):Prop where
 c51:C51 (D 51) F
 g51:σ 51=some (0,false)
abbrev zkq (r:Int):(Nat→V)→Prop:=RR Try.prog [.tmp 4] 0 false (Enc.enc (r:Int))
section
variable {r:Int}
def zQ (F:Nat) (x1:(List LI)) (x2:(Cl 51 Unit ((Rf GR)×Unit))) :Nat→Int→Option Int
 | 0,_=>none
 | k + 1,x5=>
   bif decide (x5 < (x1.length:Int)) then
    (idx x1 x5).bind fun v8=>
    (xo F v8 x2.env.1).bind fun r9=>
    bif r9 then
     some x5
    else
     (zQ F x1 x2 k) (w64 (x5 + 1))
   else
    some (-1)
theorem zcM (H:zhF D σ F) (x1:(List LI)) (x2:(Cl 51 Unit ((Rf GR)×Unit))) :∀ (k:Nat) (x5:Int) (s:Nat→V),zr [(0,Enc.enc (x1:List LI)),(1,.fn 51 [] [.ref .sh 0 [] (gV x2.env.1.v)]),(4,ji 0),(7,ji (x1.length:Int)),(8,ji x5)] s→zQ F x1 x2 k x5=some r→Run D σ (zkq r) (.run zas [.lp zas,.bk 0,.sq zd7]) s:=by
 intro k
 induction k with
 | zero=>intro x5 s _ h;exact nm h
 | succ k ih=>
   intro x5 s hs h
   rw [zQ] at h
   obtain ⟨h0,h1,h4,h7,h8⟩:=hs
   refine .seq (rg (g2 8 7 (jb (decide (x5 < (x1.length:Int)))) h8 h7 fun h9=>gq (.nsq (.seq (zk h9 h (fun h=>?_) (fun h=>?_))))))
   · refine .skip (.nsq (.seq (.block (.seq (rg (gm h8 fun h10=>gm h10 fun h5=>gq (.nsq (.seq (rg (gm h1 fun h11=>gm h0 fun h12=>gm h5 fun h13=>?_))))))))))
     obtain ⟨v8,Ev8,h⟩:=zb h
     refine gv (.ref .sh 0 [] (eL v8)) (yn (t:=.sh) (lo:=0) (xs:=x1) h12 h13 Ev8 rfl rfl) fun h14=>g1 14 (eL v8) h14 fun h15=>?_
     obtain ⟨r9,Er9,h⟩:=zb h
     refine LD (m:=0) (al:=false) (r:=Enc.enc (r9:Bool)) (fs:=[]) (env:=[.ref .sh 0 [] (gV x2.env.1.v)]) (us:=[]) (ws:=[Arg.arg (x2.env.1:(Rf GR))]) h11 yL (xP (Za (Enc.erase_enc (x2.env.1.v:GR))) yL) rfl [eL v8] (zg h15 rfl (Enc.erase_enc (v8:LI)) zF) (H.c51 _ _ _ Er9) H.g51 rfl rfl rfl rfl (gq (.nsq (zk rfl h (fun h=>?_) (fun h=>?_))))
     · refine .seq (rg (gm h5 fun h17=>gm h17 fun h4=>gq (.nsq (.ret ?_))))
       obtain rfl:=oi h
       exact rrA (zl h4) rfl
     refine .skip (.nbk (.nsq (rg (g1 8 (ji (w64 (x5 + 1))) h8 fun h18=>gm h18 fun h8=>gq (.nlp ?_)))))
     exact ih (w64 (x5 + 1)) _ ⟨h0,h1,h4,h7,h8⟩ h
   refine .exit (.esq (.elp (.ebk (.nsq (.seq (rg (g0 (ji (-1)) fun h4=>gq (.nsq (.ret ?_)))))))))
   obtain rfl:=oi h
   exact rrA (zl h4) rfl
def z5 (F:Nat) (x1:(List LI)) (x2:(Cl 51 Unit ((Rf GR)×Unit))):Option Int:=
 zQ F x1 x2 F 0
theorem zrZ (H:zhF D σ F) (x1:(List LI)) (x2:(Cl 51 Unit ((Rf GR)×Unit))) (s:Nat→V) (hs:zr [(0,Enc.enc (x1:List LI)),(1,.fn 51 [] [.ref .sh 0 [] (gV x2.env.1.v)])] s) (h:z5 F x1 x2=some r):Run D σ (zkq r) (.run zk2 []) s:=by
 unfold z5 at h
 obtain ⟨h0,h1⟩:=hs
 refine .seq (rg (g0 (ji 0) fun h4=>gq (.nsq (.seq (.seq (rg (gm h0 fun h6=>gl x1 h6 fun h7=>g0 (ji 0) fun h8=>gq (.nsq (.block (.loop ?_))))))))))
 exact zcM H x1 x2 F 0 _ ⟨h0,h1,h4,h7,h8⟩ h
end
def zii (F:Nat):Ent:=ent 73 (fun (x:((List LI)×(Cl 51 Unit ((Rf GR)×Unit))×Unit))=>z5 F x.1 x.2.1) (fun (r:Int)=>(Enc.enc (r:Int))) 0 false [(1,51)]
abbrev zln (D:List V→Option V) (F:Nat):Prop:=∀ (x0:(List LI)) (x1:(Cl 51 Unit ((Rf GR)×Unit))) r,z5 F x0 x1=some r→D [Enc.enc x0,Arg.arg x1]=some (Enc.enc (r:Int))
theorem zqx {F:Nat}:zln (zii F).den F:=fun x0 x1 _ h=>zR (x0,x1,()) h
theorem zoF (hF:zw Try.prog D σ) (H:zhF D σ F):(zii F).Ok Try.prog:=okZ (f:=73) Try.func73 fun ⟨x0,x1,_⟩ y hy=>cR hF Try.func73 c73s1 (zrZ H x0 x1 _ ⟨rfl,rfl⟩ hy)
def zjG:AC:=(.seq (rr [jm 5 0,jm 6 1,jx 7 (.call (jf 73) [.t 5,.t 6]),jv 8 (.bin .geq (.t 7) (jn 0)),jm 4 8]) .ret)
def zk0:AC:=(.seq (rr [jv 4 (.mov kf)]) zjG)
def zlE:List An:=[]
theorem c50s1:cq Try.prog Try.f50 zlE=some zk0:=by kernel_rfl
structure zkz (D:Den) (σ:Sig) (F:Nat):Prop where
 c73s1:zln (D 73) F
 g73s1:σ 73=some (0,false)
abbrev zrC (r:Bool):(Nat→V)→Prop:=RR Try.prog [.tmp 4] 0 false (Enc.enc (r:Bool))
section
variable {r:Bool}
def zY (F:Nat) (x1:(List LI)) (x2:(Cl 51 Unit ((Rf GR)×Unit))):Option Bool:=
 (z5 F x1 x2).bind fun r3=>
 some (decide (r3≥0))
theorem zn5 (H:zkz D σ F) (x1:(List LI)) (x2:(Cl 51 Unit ((Rf GR)×Unit))) (s:Nat→V) (hs:zr [(0,Enc.enc (x1:List LI)),(1,.fn 51 [] [.ref .sh 0 [] (gV x2.env.1.v)])] s) (h:zY F x1 x2=some r):Run D σ (zrC r) (.run zk0 []) s:=by
 unfold zY at h
 obtain ⟨h0,h1⟩:=hs
 refine .seq (rg (g0 (jb false) fun h4=>gq (.nsq (.seq (rg (gm h0 fun h5=>gm h1 fun h6=>?_))))))
 obtain ⟨r3,Er3,h⟩:=zb h
 refine gcF [Enc.enc (x1:(List LI)),Arg.arg (x2:(Cl 51 Unit ((Rf GR)×Unit)))] (zg h5 rfl (Enc.erase_enc (x1:(List LI))) (zg h6 rfl (Xx yL (xP (Za (Enc.erase_enc (x2.env.1.v:GR))) yL)) zF)) (H.c73s1 _ _ _ Er3) H.g73s1 (g1 7 (jb (decide (r3≥0))) (rf (ji r3)) fun h8=>gm h8 fun h4=>gq (.nsq (.ret ?_)))
 obtain rfl:=oi h
 exact rrA (zl h4) rfl
end
def ziw (F:Nat):Ent:=ent 50 (fun (x:((List LI)×(Cl 51 Unit ((Rf GR)×Unit))×Unit))=>zY F x.1 x.2.1) (fun (r:Bool)=>(Enc.enc (r:Bool))) 0 false [(1,51)]
abbrev zkE (D:List V→Option V) (F:Nat):Prop:=∀ (x0:(List LI)) (x1:(Cl 51 Unit ((Rf GR)×Unit))) r,zY F x0 x1=some r→D [Enc.enc x0,Arg.arg x1]=some (Enc.enc (r:Bool))
theorem zrT {F:Nat}:zkE (ziw F).den F:=fun x0 x1 _ h=>zR (x0,x1,()) h
theorem zpf (hF:zw Try.prog D σ) (H:zkz D σ F):(ziw F).Ok Try.prog:=okZ (f:=50) Try.func50 fun ⟨x0,x1,_⟩ y hy=>cR hF Try.func50 c50s1 (zn5 H x0 x1 _ ⟨rfl,rfl⟩ hy)
def zrG:AC:=(.cond (.t 16) (.seq (rr [jm 17 5,jm 4 17]) .ret) .skip)
def zqv:AC:=(.seq (rr [jm 11 1,jm 12 0,jm 13 5,jv 14 (.idx (.t 12) (.t 13) 1),jl 15 14,jv 16 (.bin .eql (.t 11) (.t 15))]) zrG)
def znT:AC:=(rr [jv 18 (.bin .add (.t 8) (jn 1)),jm 8 18])
def zn7:AC:=(.seq (.block 1 (.seq (rr [jm 10 8,jm 5 10]) zqv)) znT)
def zqG:AC:=(.seq (.cond (.t 9) .skip (.exit 0)) zn7)
def zf3:AC:=(.seq (rr [jv 9 (.bin .lss (.t 8) (.t 7))]) zqG)
def zkV:AC:=(.seq (rr [jv 4 (.mov (jn (-1)))]) .ret)
def zpx:AC:=(.block 0 (.loop zf3))
def zoJ:AC:=(.seq (.seq (rr [jm 6 0,jk 7 6,jv 8 (.mov (jn 0))]) zpx) zkV)
def A59:AC:=(.seq (rr [jv 4 (.mov (jn 0))]) zoJ)
def zt2:List An:=[]
theorem c59:cq Try.prog Try.f59 zt2=some A59:=by kernel_rfl
structure H59 (D:Den) (σ:Sig) (F:Nat):Prop where
 mk ::
abbrev R59 (r:Int):(Nat→V)→Prop:=RR Try.prog [.tmp 4] 0 false (Enc.enc (r:Int))
section
variable {r:Int}
def wL (F:Nat) (x1:LI) (x2:Int) :Nat→Int→Option Int
 | 0,_=>none
 | k + 1,x4=>
   bif decide (x4 < (x1.length:Int)) then
    (idx x1 x4).bind fun v6=>
    bif (x2 == v6) then
     some x4
    else
     (wL F x1 x2 k) (w64 (x4 + 1))
   else
    some (-1)
theorem zgZ (H:H59 D σ F) (x1:LI) (x2:Int) :∀ (k:Nat) (x4:Int) (s:Nat→V),zr [(0,eL x1),(1,ji x2),(4,ji 0),(7,ji (x1.length:Int)),(8,ji x4)] s→wL F x1 x2 k x4=some r→Run D σ (R59 r) (.run zf3 [.lp zf3,.bk 0,.sq zkV]) s:=by
 intro k
 induction k with
 | zero=>intro x4 s _ h;exact nm h
 | succ k ih=>
   intro x4 s hs h
   rw [wL] at h
   obtain ⟨h0,h1,h4,h7,h8⟩:=hs
   refine .seq (rg (g2 8 7 (jb (decide (x4 < (x1.length:Int)))) h8 h7 fun h9=>gq (.nsq (.seq (zk h9 h (fun h=>?_) (fun h=>?_))))))
   · refine .skip (.nsq (.seq (.block (.seq (rg (gm h8 fun h10=>gm h10 fun h5=>gq (.nsq (.seq (rg (gm h1 fun h11=>gm h0 fun h12=>gm h5 fun h13=>?_))))))))))
     obtain ⟨v6,Ev6,h⟩:=zb h
     refine gv (.ref .sh 0 [] (ji v6)) (yn (t:=.sh) (lo:=0) (xs:=x1) h12 h13 Ev6 rfl rfl) fun h14=>g1 14 (ji v6) h14 fun h15=>g2 11 15 (jb (x2 == v6)) h11 h15 fun h16=>gq (.nsq (zk h16 h (fun h=>?_) (fun h=>?_)))
     · refine .seq (rg (gm h5 fun h17=>gm h17 fun h4=>gq (.nsq (.ret ?_))))
       obtain rfl:=oi h
       exact rrA (zl h4) rfl
     refine .skip (.nbk (.nsq (rg (g1 8 (ji (w64 (x4 + 1))) h8 fun h18=>gm h18 fun h8=>gq (.nlp ?_)))))
     exact ih (w64 (x4 + 1)) _ ⟨h0,h1,h4,h7,h8⟩ h
   refine .exit (.esq (.elp (.ebk (.nsq (.seq (rg (g0 (ji (-1)) fun h4=>gq (.nsq (.ret ?_)))))))))
   obtain rfl:=oi h
   exact rrA (zl h4) rfl
def Zc (F:Nat) (x1:LI) (x2:Int):Option Int:=
 wL F x1 x2 F 0
theorem t59 (H:H59 D σ F) (x1:LI) (x2:Int) (s:Nat→V) (hs:zr [(0,eL x1),(1,ji x2)] s) (h:Zc F x1 x2=some r):Run D σ (R59 r) (.run A59 []) s:=by
 unfold Zc at h
 obtain ⟨h0,h1⟩:=hs
 refine .seq (rg (g0 (ji 0) fun h4=>gq (.nsq (.seq (.seq (rg (gm h0 fun h6=>gl x1 h6 fun h7=>g0 (ji 0) fun h8=>gq (.nsq (.block (.loop ?_))))))))))
 exact zgZ H x1 x2 F 0 _ ⟨h0,h1,h4,h7,h8⟩ h
end
def e59 (F:Nat):Ent:=ent 59 (fun (x:(LI×Int×Unit))=>Zc F x.1 x.2.1) (fun (r:Int)=>(Enc.enc (r:Int))) 0 false []
abbrev C59 (D:List V→Option V) (F:Nat):Prop:=∀ (x0:LI) (x1:Int) r,Zc F x0 x1=some r→D [Enc.enc x0,Enc.enc x1]=some (Enc.enc (r:Int))
theorem p59 {F:Nat}:C59 (e59 F).den F:=fun x0 x1 _ h=>zR (x0,x1,()) h
theorem o59 (hF:zw Try.prog D σ) (H:H59 D σ F):(e59 F).Ok Try.prog:=okZ (f:=59) Try.func59 fun ⟨x0,x1,_⟩ y hy=>cR hF Try.func59 c59 (t59 H x0 x1 _ ⟨rfl,rfl⟩ hy)
def zqc:AC:=(.seq (rr [jm 5 0,jm 6 1,jx 7 (.call (jf 59) [.t 5,.t 6]),jv 8 (.bin .geq (.t 7) (jn 0)),jm 4 8]) .ret)
def A32:AC:=(.seq (rr [jv 4 (.mov kf)]) zqc)
def zub:List An:=[]
theorem c32:cq Try.prog Try.f32 zub=some A32:=by kernel_rfl
structure H32 (D:Den) (σ:Sig) (F:Nat):Prop where
 c59:C59 (D 59) F
 g59:σ 59=some (0,false)
abbrev R32 (r:Bool):(Nat→V)→Prop:=RR Try.prog [.tmp 4] 0 false (Enc.enc (r:Bool))
section
variable {r:Bool}
def y3 (F:Nat) (x1:LI) (x2:Int):Option Bool:=
 (Zc F x1 x2).bind fun r3=>
 some (decide (r3≥0))
theorem t32 (H:H32 D σ F) (x1:LI) (x2:Int) (s:Nat→V) (hs:zr [(0,eL x1),(1,ji x2)] s) (h:y3 F x1 x2=some r):Run D σ (R32 r) (.run A32 []) s:=by
 unfold y3 at h
 obtain ⟨h0,h1⟩:=hs
 refine .seq (rg (g0 (jb false) fun h4=>gq (.nsq (.seq (rg (gm h0 fun h5=>gm h1 fun h6=>?_))))))
 obtain ⟨r3,Er3,h⟩:=zb h
 refine gcF [eL x1,Enc.enc (x2:Int)] (zg h5 rfl (Enc.erase_enc (x1:LI)) (zg h6 rfl rfl zF)) (H.c59 _ _ _ Er3) H.g59 (g1 7 (jb (decide (r3≥0))) (rf (ji r3)) fun h8=>gm h8 fun h4=>gq (.nsq (.ret ?_)))
 obtain rfl:=oi h
 exact rrA (zl h4) rfl
end
def e32 (F:Nat):Ent:=ent 32 (fun (x:(LI×Int×Unit))=>y3 F x.1 x.2.1) (fun (r:Bool)=>(Enc.enc (r:Bool))) 0 false []
abbrev C32 (D:List V→Option V) (F:Nat):Prop:=∀ (x0:LI) (x1:Int) r,y3 F x0 x1=some r→D [Enc.enc x0,Enc.enc x1]=some (Enc.enc (r:Bool))
theorem p32 {F:Nat}:C32 (e32 F).den F:=fun x0 x1 _ h=>zR (x0,x1,()) h
theorem o32 (hF:zw Try.prog D σ) (H:H32 D σ F):(e32 F).Ok Try.prog:=okZ (f:=32) Try.func32 fun ⟨x0,x1,_⟩ y hy=>cR hF Try.func32 c32 (t32 H x0 x1 _ ⟨rfl,rfl⟩ hy)
def zsS:AC:=(.seq (rr [jm 4 0,jv 5 (.idxA (.t 1) (jn 0) 2 1),jl 6 5,jx 7 (.call (jf 32) [.t 4,.t 6]),jm 8 7,jg 9 8 true (.mov (.t 0)),jg 10 8 true (.idxA (.t 1) (jn 1) 2 1),jg 11 8 true (.load .s (.t 10)),.mk (some 12) (some (8,true)) false (.call (jf 32) [.t 9,.t 11]),jv 13 (.pick (.t 8) (.t 12) kf),jm 3 13]) .ret)
def A55:AC:=(.seq (rr [jv 3 (.mov kf)]) zsS)
def ztD:List An:=[]
theorem c55:cq Try.prog Try.f55 ztD=some A55:=by kernel_rfl
structure H55 (D:Den) (σ:Sig) (F:Nat):Prop where
 c32:C32 (D 32) F
 g32:σ 32=some (0,false)
abbrev R55 (r:Bool):(Nat→V)→Prop:=RR Try.prog [.tmp 3] 0 false (Enc.enc (r:Bool))
section
variable {r:Bool}
def xb (F:Nat) (x1:LI) (rf_2:(Rf (Int×Int))):Option Bool:=
 (y3 F x1 rf_2.v.1).bind fun r3=>
 bif r3 then
  (y3 F x1 rf_2.v.2).bind fun r4=>
  some r4
 else
  some false
theorem t55 (H:H55 D σ F) (x1:LI) (rf_2:(Rf (Int×Int))) (s:Nat→V) (hs:zr [(0,eL x1),(1,.ref .sh 0 [] (.agg [ji rf_2.v.1,ji rf_2.v.2]))] s) (h:xb F x1 rf_2=some r):Run D σ (R55 r) (.run A55 []) s:=by
 unfold xb at h
 obtain ⟨h0,h1⟩:=hs
 refine .seq (rg (g0 (jb false) fun h3=>gq (.nsq (.seq (rg (gm h0 fun h4=>g1 1 (.ref .sh 0 [0] (ji rf_2.v.1)) h1 fun h5=>g1 5 (ji rf_2.v.1) h5 fun h6=>?_))))))
 obtain ⟨r3,Er3,h⟩:=zb h
 refine gcF [eL x1,Enc.enc (rf_2.v.1:Int)] (zg h4 rfl (Enc.erase_enc (x1:LI)) (zg h6 rfl rfl zF)) (H.c32 _ _ _ Er3) H.g32 (gm (rf (jb r3)) fun h8=>z6 h (fun hg5 h=>?_) (fun hg5 h=>?_))
 · refine zo (ct h8 hg5) (gm h0 fun h9=>zo (ct h8 hg5) (g1 1 (.ref .sh 0 [1] (ji rf_2.v.2)) h1 fun h10=>zo (ct h8 hg5) (g1 10 (ji rf_2.v.2) h10 fun h11=>?_)))
   obtain ⟨r4,Er4,h⟩:=zb h
   refine zo (ct h8 hg5) (gcF [eL x1,Enc.enc (rf_2.v.2:Int)] (zg h9 rfl (Enc.erase_enc (x1:LI)) (zg h11 rfl rfl zF)) (H.c32 _ _ _ Er4) H.g32 (g2 8 12 (jb r4) (ct h8 hg5) (rf (jb r4)) fun h13=>gm h13 fun h3=>gq (.nsq (.ret ?_))))
   obtain rfl:=oi h
   exact rrA (zl h3) rfl
 iterate 4 refine yJ (ct h8 hg5) ?_
 refine g2 8 12 (jb false) (ct h8 hg5) (rf (.tup [])) fun h13=>gm h13 fun h3=>gq (.nsq (.ret ?_))
 obtain rfl:=oi h
 exact rrA (zl h3) rfl
end
def e55 (F:Nat):Ent:=ent 55 (fun (x:(LI×(Rf (Int×Int))×Unit))=>xb F x.1 x.2.1) (fun (r:Bool)=>(Enc.enc (r:Bool))) 0 false []
abbrev C55 (D:List V→Option V) (F:Nat):Prop:=∀ (x0:LI) (x1:(Rf (Int×Int))) r,xb F x0 x1=some r→D [Enc.enc x0,Arg.arg x1]=some (Enc.enc (r:Bool))
theorem p55 {F:Nat}:C55 (e55 F).den F:=fun x0 x1 _ h=>zR (x0,x1,()) h
theorem o55 (hF:zw Try.prog D σ) (H:H55 D σ F):(e55 F).Ok Try.prog:=okZ (f:=55) Try.func55 fun ⟨x0,x1,_⟩ y hy=>cR hF Try.func55 c55 (t55 H x0 x1 _ ⟨rfl,rfl⟩ hy)
def zj1:AC:=(.cond (.t 16) (.seq (rr [jm 17 5,jm 4 17]) .ret) .skip)
def ziY:AC:=(.seq (rr [jm 11 1,jm 12 0,jm 13 5,jv 14 (.idx (.t 12) (.t 13) 1),jv 15 (.load .p (.t 14)),jx 16 (.call (.t 11) [.t 15])]) zj1)
def zjw:AC:=(rr [jv 18 (.bin .add (.t 8) (jn 1)),jm 8 18])
def zkj:AC:=(.seq (.block 1 (.seq (rr [jm 10 8,jm 5 10]) ziY)) zjw)
def zi2:AC:=(.seq (.cond (.t 9) .skip (.exit 0)) zkj)
def zaC:AC:=(.seq (rr [jv 9 (.bin .lss (.t 8) (.t 7))]) zi2)
def zd6:AC:=(.seq (rr [jv 4 (.mov (jn (-1)))]) .ret)
def zkm:AC:=(.block 0 (.loop zaC))
def zjL:AC:=(.seq (.seq (rr [jm 6 0,jk 7 6,jv 8 (.mov (jn 0))]) zkm) zd6)
def zkM:AC:=(.seq (rr [jv 4 (.mov (jn 0))]) zjL)
def zmH:List An:=[]
theorem c73s2:cq Try.prog Try.f73 zmH=some zkM:=by kernel_rfl
structure zh7 (D:Den) (σ:Sig) (F:Nat):Prop where
 c55:C55 (D 55) F
 g55:σ 55=some (0,false)
abbrev zkG (r:Int):(Nat→V)→Prop:=RR Try.prog [.tmp 4] 0 false (Enc.enc (r:Int))
section
variable {r:Int}
def zP (F:Nat) (x1:(List LI)) (x2:(Cl 55 Unit ((Rf (Int×Int))×Unit))) :Nat→Int→Option Int
 | 0,_=>none
 | k + 1,x5=>
   bif decide (x5 < (x1.length:Int)) then
    (idx x1 x5).bind fun v8=>
    (xb F v8 x2.env.1).bind fun r9=>
    bif r9 then
     some x5
    else
     (zP F x1 x2 k) (w64 (x5 + 1))
   else
    some (-1)
theorem zdc (H:zh7 D σ F) (x1:(List LI)) (x2:(Cl 55 Unit ((Rf (Int×Int))×Unit))) :∀ (k:Nat) (x5:Int) (s:Nat→V),zr [(0,Enc.enc (x1:List LI)),(1,.fn 55 [] [.ref .sh 0 [] (.agg [ji x2.env.1.v.1,ji x2.env.1.v.2])]),(4,ji 0),(7,ji (x1.length:Int)),(8,ji x5)] s→zP F x1 x2 k x5=some r→Run D σ (zkG r) (.run zaC [.lp zaC,.bk 0,.sq zd6]) s:=by
 intro k
 induction k with
 | zero=>intro x5 s _ h;exact nm h
 | succ k ih=>
   intro x5 s hs h
   rw [zP] at h
   obtain ⟨h0,h1,h4,h7,h8⟩:=hs
   refine .seq (rg (g2 8 7 (jb (decide (x5 < (x1.length:Int)))) h8 h7 fun h9=>gq (.nsq (.seq (zk h9 h (fun h=>?_) (fun h=>?_))))))
   · refine .skip (.nsq (.seq (.block (.seq (rg (gm h8 fun h10=>gm h10 fun h5=>gq (.nsq (.seq (rg (gm h1 fun h11=>gm h0 fun h12=>gm h5 fun h13=>?_))))))))))
     obtain ⟨v8,Ev8,h⟩:=zb h
     refine gv (.ref .sh 0 [] (eL v8)) (yn (t:=.sh) (lo:=0) (xs:=x1) h12 h13 Ev8 rfl rfl) fun h14=>g1 14 (eL v8) h14 fun h15=>?_
     obtain ⟨r9,Er9,h⟩:=zb h
     refine LD (m:=0) (al:=false) (r:=Enc.enc (r9:Bool)) (fs:=[]) (env:=[.ref .sh 0 [] (.agg [ji x2.env.1.v.1,ji x2.env.1.v.2])]) (us:=[]) (ws:=[Arg.arg (x2.env.1:(Rf (Int×Int)))]) h11 yL (xP (Za (Enc.erase_enc (x2.env.1.v:(Int×Int)))) yL) rfl [eL v8] (zg h15 rfl (Enc.erase_enc (v8:LI)) zF) (H.c55 _ _ _ Er9) H.g55 rfl rfl rfl rfl (gq (.nsq (zk rfl h (fun h=>?_) (fun h=>?_))))
     · refine .seq (rg (gm h5 fun h17=>gm h17 fun h4=>gq (.nsq (.ret ?_))))
       obtain rfl:=oi h
       exact rrA (zl h4) rfl
     refine .skip (.nbk (.nsq (rg (g1 8 (ji (w64 (x5 + 1))) h8 fun h18=>gm h18 fun h8=>gq (.nlp ?_)))))
     exact ih (w64 (x5 + 1)) _ ⟨h0,h1,h4,h7,h8⟩ h
   refine .exit (.esq (.elp (.ebk (.nsq (.seq (rg (g0 (ji (-1)) fun h4=>gq (.nsq (.ret ?_)))))))))
   obtain rfl:=oi h
   exact rrA (zl h4) rfl
def zZ (F:Nat) (x1:(List LI)) (x2:(Cl 55 Unit ((Rf (Int×Int))×Unit))):Option Int:=
 zP F x1 x2 F 0
theorem zop (H:zh7 D σ F) (x1:(List LI)) (x2:(Cl 55 Unit ((Rf (Int×Int))×Unit))) (s:Nat→V) (hs:zr [(0,Enc.enc (x1:List LI)),(1,.fn 55 [] [.ref .sh 0 [] (.agg [ji x2.env.1.v.1,ji x2.env.1.v.2])])] s) (h:zZ F x1 x2=some r):Run D σ (zkG r) (.run zkM []) s:=by
 unfold zZ at h
 obtain ⟨h0,h1⟩:=hs
 refine .seq (rg (g0 (ji 0) fun h4=>gq (.nsq (.seq (.seq (rg (gm h0 fun h6=>gl x1 h6 fun h7=>g0 (ji 0) fun h8=>gq (.nsq (.block (.loop ?_))))))))))
 exact zdc H x1 x2 F 0 _ ⟨h0,h1,h4,h7,h8⟩ h
end
def ziL (F:Nat):Ent:=ent 73 (fun (x:((List LI)×(Cl 55 Unit ((Rf (Int×Int))×Unit))×Unit))=>zZ F x.1 x.2.1) (fun (r:Int)=>(Enc.enc (r:Int))) 0 false [(1,55)]
abbrev zls (D:List V→Option V) (F:Nat):Prop:=∀ (x0:(List LI)) (x1:(Cl 55 Unit ((Rf (Int×Int))×Unit))) r,zZ F x0 x1=some r→D [Enc.enc x0,Arg.arg x1]=some (Enc.enc (r:Int))
theorem zrW {F:Nat}:zls (ziL F).den F:=fun x0 x1 _ h=>zR (x0,x1,()) h
theorem zoh (hF:zw Try.prog D σ) (H:zh7 D σ F):(ziL F).Ok Try.prog:=okZ (f:=73) Try.func73 fun ⟨x0,x1,_⟩ y hy=>cR hF Try.func73 c73s2 (zop H x0 x1 _ ⟨rfl,rfl⟩ hy)
def ziX:AC:=(.seq (rr [jm 5 0,jm 6 1,jx 7 (.call (jf 73) [.t 5,.t 6]),jv 8 (.bin .geq (.t 7) (jn 0)),jm 4 8]) .ret)
def zkI:AC:=(.seq (rr [jv 4 (.mov kf)]) ziX)
def zms:List An:=[]
theorem c50s2:cq Try.prog Try.f50 zms=some zkI:=by kernel_rfl
structure zll (D:Den) (σ:Sig) (F:Nat):Prop where
 c73s2:zls (D 73) F
 g73s2:σ 73=some (0,false)
abbrev zsx (r:Bool):(Nat→V)→Prop:=RR Try.prog [.tmp 4] 0 false (Enc.enc (r:Bool))
section
variable {r:Bool}
def zU (F:Nat) (x1:(List LI)) (x2:(Cl 55 Unit ((Rf (Int×Int))×Unit))):Option Bool:=
 (zZ F x1 x2).bind fun r3=>
 some (decide (r3≥0))
theorem zpC (H:zll D σ F) (x1:(List LI)) (x2:(Cl 55 Unit ((Rf (Int×Int))×Unit))) (s:Nat→V) (hs:zr [(0,Enc.enc (x1:List LI)),(1,.fn 55 [] [.ref .sh 0 [] (.agg [ji x2.env.1.v.1,ji x2.env.1.v.2])])] s) (h:zU F x1 x2=some r):Run D σ (zsx r) (.run zkI []) s:=by
 unfold zU at h
 obtain ⟨h0,h1⟩:=hs
 refine .seq (rg (g0 (jb false) fun h4=>gq (.nsq (.seq (rg (gm h0 fun h5=>gm h1 fun h6=>?_))))))
 obtain ⟨r3,Er3,h⟩:=zb h
 refine gcF [Enc.enc (x1:(List LI)),Arg.arg (x2:(Cl 55 Unit ((Rf (Int×Int))×Unit)))] (zg h5 rfl (Enc.erase_enc (x1:(List LI))) (zg h6 rfl (Xx yL (xP (Za (Enc.erase_enc (x2.env.1.v:(Int×Int)))) yL)) zF)) (H.c73s2 _ _ _ Er3) H.g73s2 (g1 7 (jb (decide (r3≥0))) (rf (ji r3)) fun h8=>gm h8 fun h4=>gq (.nsq (.ret ?_)))
 obtain rfl:=oi h
 exact rrA (zl h4) rfl
end
def ziG (F:Nat):Ent:=ent 50 (fun (x:((List LI)×(Cl 55 Unit ((Rf (Int×Int))×Unit))×Unit))=>zU F x.1 x.2.1) (fun (r:Bool)=>(Enc.enc (r:Bool))) 0 false [(1,55)]
abbrev zkO (D:List V→Option V) (F:Nat):Prop:=∀ (x0:(List LI)) (x1:(Cl 55 Unit ((Rf (Int×Int))×Unit))) r,zU F x0 x1=some r→D [Enc.enc x0,Arg.arg x1]=some (Enc.enc (r:Bool))
theorem zsz {F:Nat}:zkO (ziG F).den F:=fun x0 x1 _ h=>zR (x0,x1,()) h
theorem zq8 (hF:zw Try.prog D σ) (H:zll D σ F):(ziG F).Ok Try.prog:=okZ (f:=50) Try.func50 fun ⟨x0,x1,_⟩ y hy=>cR hF Try.func50 c50s2 (zpC H x0 x1 _ ⟨rfl,rfl⟩ hy)
def zsB:AC:=(.seq (rr [jv 4 (.load .p (.t 1)),jv 5 (.fn 55 [] [.t 2]),jx 6 (.call (jf 50) [.t 4,.t 5]),jv 7 (.un .not (.t 6)),jm 3 7]) .ret)
def A54:AC:=(.seq (.reg [.clr [2]] [jx 2 (.box (.t 0)),jv 3 (.mov kf)] []) zsB)
def zs2:List An:=[⟨0,[.clr [2]],[],[],[]⟩]
theorem c54:cq Try.prog Try.f54 zs2=some A54:=by kernel_rfl
structure H54 (D:Den) (σ:Sig) (F:Nat):Prop where
 c50s2:zkO (D 50) F
 g50s2:σ 50=some (0,false)
abbrev R54 (r:Bool):(Nat→V)→Prop:=RR Try.prog [.tmp 3] 0 false (Enc.enc (r:Bool))
section
variable {r:Bool}
def xp (F:Nat) (v1:(Int×Int)) (rf_2:(Rf (List LI))):Option Bool:=
 (zU F rf_2.v (Cl.mk () ((Rf.mk v1:(Rf (Int×Int))),()):(Cl 55 Unit ((Rf (Int×Int))×Unit)))).bind fun r3=>
 some (!r3)
theorem t54 (H:H54 D σ F) (v1:(Int×Int)) (rf_2:(Rf (List LI))) (s:Nat→V) (hs:zr [(0,.agg [ji v1.1,ji v1.2]),(1,.ref .sh 0 [] (Enc.enc (rf_2.v:List LI)))] s) (h:xp F v1 rf_2=some r):Run D σ (R54 r) (.run A54 []) s:=by
 unfold xp at h
 obtain ⟨h0,h1⟩:=hs
 refine .seq (zC (ye ?_))
 refine ez [(0,_),(1,_),(2,_)] ⟨za h0 rfl mII,za h1 rfl rfl,ze rfl⟩ ?_
 rintro s ⟨h0,h1,h2⟩
 refine wa (.agg [ji v1.1,ji v1.2]) (zI h0 rfl) h2 rfl (g0 (jb false) fun h3=>gq (.nsq (.seq (rg (g1 1 (Enc.enc (rf_2.v:List LI)) h1 fun h4=>g1 2 (.fn 55 [] [.ref (.bx 2) 0 [] (.agg [ji v1.1,ji v1.2])]) (rf (.ref (.bx 2) 0 [] (.agg [ji v1.1,ji v1.2]))) fun h5=>?_)))))
 obtain ⟨r3,Er3,h⟩:=zb h
 refine gcF [Enc.enc (rf_2.v:(List LI)),Arg.arg ((Cl.mk () ((Rf.mk v1:(Rf (Int×Int))),()):(Cl 55 Unit ((Rf (Int×Int))×Unit))):(Cl 55 Unit ((Rf (Int×Int))×Unit)))] (zg h4 rfl (Enc.erase_enc (rf_2.v:(List LI))) (zg h5 rfl (Xx yL (xP (Za (Enc.erase_enc (v1:(Int×Int)))) yL)) zF)) (H.c50s2 _ _ _ Er3) H.g50s2 (g1 6 (jb (!r3)) (rf (jb r3)) fun h7=>gm h7 fun h3=>gq (.nsq (.ret ?_)))
 obtain rfl:=oi h
 exact rrA (zl h3) rfl
end
def e54 (F:Nat):Ent:=ent 54 (fun (x:((Int×Int)×(Rf (List LI))×Unit))=>xp F x.1 x.2.1) (fun (r:Bool)=>(Enc.enc (r:Bool))) 0 false []
abbrev C54 (D:List V→Option V) (F:Nat):Prop:=∀ (x0:(Int×Int)) (x1:(Rf (List LI))) r,xp F x0 x1=some r→D [Enc.enc x0,Arg.arg x1]=some (Enc.enc (r:Bool))
theorem p54 {F:Nat}:C54 (e54 F).den F:=fun x0 x1 _ h=>zR (x0,x1,()) h
theorem o54 (hF:zw Try.prog D σ) (H:H54 D σ F):(e54 F).Ok Try.prog:=okZ (f:=54) Try.func54 fun ⟨x0,x1,_⟩ y hy=>cR hF Try.func54 c54 (t54 H x0 x1 _ ⟨rfl,rfl⟩ hy)
def zjk:AC:=(.cond (.t 16) (.seq (rr [jm 17 5,jm 4 17]) .ret) .skip)
def zkl:AC:=(.seq (rr [jm 11 1,jm 12 0,jm 13 5,jv 14 (.idx (.t 12) (.t 13) 2),jv 15 (.load (.ag [.s,.s]) (.t 14)),jx 16 (.call (.t 11) [.t 15])]) zjk)
def zj9:AC:=(rr [jv 18 (.bin .add (.t 8) (jn 1)),jm 8 18])
def zkg:AC:=(.seq (.block 1 (.seq (rr [jm 10 8,jm 5 10]) zkl)) zj9)
def zkb:AC:=(.seq (.cond (.t 9) .skip (.exit 0)) zkg)
def Qv:AC:=(.seq (rr [jv 9 (.bin .lss (.t 8) (.t 7))]) zkb)
def zeS:AC:=(.seq (rr [jv 4 (.mov (jn (-1)))]) .ret)
def ziQ:AC:=(.block 0 (.loop Qv))
def zka:AC:=(.seq (.seq (rr [jm 6 0,jk 7 6,jv 8 (.mov (jn 0))]) ziQ) zeS)
def zle:AC:=(.seq (rr [jv 4 (.mov (jn 0))]) zka)
def znw:List An:=[]
theorem c76s1:cq Try.prog Try.f76 znw=some zle:=by kernel_rfl
structure zh6 (D:Den) (σ:Sig) (F:Nat):Prop where
 c54:C54 (D 54) F
 g54:σ 54=some (0,false)
abbrev zla (r:Int):(Nat→V)→Prop:=RR Try.prog [.tmp 4] 0 false (Enc.enc (r:Int))
section
variable {r:Int}
def zM (F:Nat) (x1:TP) (x2:(Cl 54 Unit ((Rf (List LI))×Unit))) :Nat→Int→Option Int
 | 0,_=>none
 | k + 1,x5=>
   bif decide (x5 < (x1.length:Int)) then
    (idx x1 x5).bind fun v8=>
    (xp F v8 x2.env.1).bind fun r9=>
    bif r9 then
     some x5
    else
     (zM F x1 x2 k) (w64 (x5 + 1))
   else
    some (-1)
theorem zc5 (H:zh6 D σ F) (x1:TP) (x2:(Cl 54 Unit ((Rf (List LI))×Unit))) :∀ (k:Nat) (x5:Int) (s:Nat→V),zr [(0,eP x1),(1,.fn 54 [] [.ref .sh 0 [] (Enc.enc (x2.env.1.v:List LI))]),(4,ji 0),(7,ji (x1.length:Int)),(8,ji x5)] s→zM F x1 x2 k x5=some r→Run D σ (zla r) (.run Qv [.lp Qv,.bk 0,.sq zeS]) s:=by
 intro k
 induction k with
 | zero=>intro x5 s _ h;exact nm h
 | succ k ih=>
   intro x5 s hs h
   rw [zM] at h
   obtain ⟨h0,h1,h4,h7,h8⟩:=hs
   refine .seq (rg (g2 8 7 (jb (decide (x5 < (x1.length:Int)))) h8 h7 fun h9=>gq (.nsq (.seq (zk h9 h (fun h=>?_) (fun h=>?_))))))
   · refine .skip (.nsq (.seq (.block (.seq (rg (gm h8 fun h10=>gm h10 fun h5=>gq (.nsq (.seq (rg (gm h1 fun h11=>gm h0 fun h12=>gm h5 fun h13=>?_))))))))))
     obtain ⟨v8,Ev8,h⟩:=zb h
     refine gv (.ref .sh 0 [] (.agg [ji v8.1,ji v8.2])) (yn (t:=.sh) (lo:=0) (xs:=x1) h12 h13 Ev8 rfl rfl) fun h14=>g1 14 (.agg [ji v8.1,ji v8.2]) h14 fun h15=>?_
     obtain ⟨r9,Er9,h⟩:=zb h
     refine LD (m:=0) (al:=false) (r:=Enc.enc (r9:Bool)) (fs:=[]) (env:=[.ref .sh 0 [] (Enc.enc (x2.env.1.v:List LI))]) (us:=[]) (ws:=[Arg.arg (x2.env.1:(Rf (List LI)))]) h11 yL (xP (Za (Enc.erase_enc (x2.env.1.v:(List LI)))) yL) rfl [Enc.enc (v8:(Int×Int))] (zg h15 rfl (Enc.erase_enc (v8:(Int×Int))) zF) (H.c54 _ _ _ Er9) H.g54 rfl rfl rfl rfl (gq (.nsq (zk rfl h (fun h=>?_) (fun h=>?_))))
     · refine .seq (rg (gm h5 fun h17=>gm h17 fun h4=>gq (.nsq (.ret ?_))))
       obtain rfl:=oi h
       exact rrA (zl h4) rfl
     refine .skip (.nbk (.nsq (rg (g1 8 (ji (w64 (x5 + 1))) h8 fun h18=>gm h18 fun h8=>gq (.nlp ?_)))))
     exact ih (w64 (x5 + 1)) _ ⟨h0,h1,h4,h7,h8⟩ h
   refine .exit (.esq (.elp (.ebk (.nsq (.seq (rg (g0 (ji (-1)) fun h4=>gq (.nsq (.ret ?_)))))))))
   obtain rfl:=oi h
   exact rrA (zl h4) rfl
def zX (F:Nat) (x1:TP) (x2:(Cl 54 Unit ((Rf (List LI))×Unit))):Option Int:=
 zM F x1 x2 F 0
theorem znX (H:zh6 D σ F) (x1:TP) (x2:(Cl 54 Unit ((Rf (List LI))×Unit))) (s:Nat→V) (hs:zr [(0,eP x1),(1,.fn 54 [] [.ref .sh 0 [] (Enc.enc (x2.env.1.v:List LI))])] s) (h:zX F x1 x2=some r):Run D σ (zla r) (.run zle []) s:=by
 unfold zX at h
 obtain ⟨h0,h1⟩:=hs
 refine .seq (rg (g0 (ji 0) fun h4=>gq (.nsq (.seq (.seq (rg (gm h0 fun h6=>gl x1 h6 fun h7=>g0 (ji 0) fun h8=>gq (.nsq (.block (.loop ?_))))))))))
 exact zc5 H x1 x2 F 0 _ ⟨h0,h1,h4,h7,h8⟩ h
end
def zg2 (F:Nat):Ent:=ent 76 (fun (x:(TP×(Cl 54 Unit ((Rf (List LI))×Unit))×Unit))=>zX F x.1 x.2.1) (fun (r:Int)=>(Enc.enc (r:Int))) 0 false [(1,54)]
abbrev zlt (D:List V→Option V) (F:Nat):Prop:=∀ (x0:TP) (x1:(Cl 54 Unit ((Rf (List LI))×Unit))) r,zX F x0 x1=some r→D [Enc.enc x0,Arg.arg x1]=some (Enc.enc (r:Int))
theorem zoU {F:Nat}:zlt (zg2 F).den F:=fun x0 x1 _ h=>zR (x0,x1,()) h
theorem zpy (hF:zw Try.prog D σ) (H:zh6 D σ F):(zg2 F).Ok Try.prog:=okZ (f:=76) Try.func76 fun ⟨x0,x1,_⟩ y hy=>cR hF Try.func76 c76s1 (znX H x0 x1 _ ⟨rfl,rfl⟩ hy)
def zjr:AC:=(.seq (rr [jm 5 0,jm 6 1,jx 7 (.call (jf 76) [.t 5,.t 6]),jv 8 (.bin .geq (.t 7) (jn 0)),jm 4 8]) .ret)
def zk4:AC:=(.seq (rr [jv 4 (.mov kf)]) zjr)
def zm4:List An:=[]
theorem c53s1:cq Try.prog Try.f53 zm4=some zk4:=by kernel_rfl
structure zku (D:Den) (σ:Sig) (F:Nat):Prop where
 c76s1:zlt (D 76) F
 g76s1:σ 76=some (0,false)
abbrev zph (r:Bool):(Nat→V)→Prop:=RR Try.prog [.tmp 4] 0 false (Enc.enc (r:Bool))
section
variable {r:Bool}
def zS (F:Nat) (x1:TP) (x2:(Cl 54 Unit ((Rf (List LI))×Unit))):Option Bool:=
 (zX F x1 x2).bind fun r3=>
 some (decide (r3≥0))
theorem zo5 (H:zku D σ F) (x1:TP) (x2:(Cl 54 Unit ((Rf (List LI))×Unit))) (s:Nat→V) (hs:zr [(0,eP x1),(1,.fn 54 [] [.ref .sh 0 [] (Enc.enc (x2.env.1.v:List LI))])] s) (h:zS F x1 x2=some r):Run D σ (zph r) (.run zk4 []) s:=by
 unfold zS at h
 obtain ⟨h0,h1⟩:=hs
 refine .seq (rg (g0 (jb false) fun h4=>gq (.nsq (.seq (rg (gm h0 fun h5=>gm h1 fun h6=>?_))))))
 obtain ⟨r3,Er3,h⟩:=zb h
 refine gcF [eP x1,Arg.arg (x2:(Cl 54 Unit ((Rf (List LI))×Unit)))] (zg h5 rfl (Enc.erase_enc (x1:TP)) (zg h6 rfl (Xx yL (xP (Za (Enc.erase_enc (x2.env.1.v:(List LI)))) yL)) zF)) (H.c76s1 _ _ _ Er3) H.g76s1 (g1 7 (jb (decide (r3≥0))) (rf (ji r3)) fun h8=>gm h8 fun h4=>gq (.nsq (.ret ?_)))
 obtain rfl:=oi h
 exact rrA (zl h4) rfl
end
def zgI (F:Nat):Ent:=ent 53 (fun (x:(TP×(Cl 54 Unit ((Rf (List LI))×Unit))×Unit))=>zS F x.1 x.2.1) (fun (r:Bool)=>(Enc.enc (r:Bool))) 0 false [(1,54)]
abbrev zlm (D:List V→Option V) (F:Nat):Prop:=∀ (x0:TP) (x1:(Cl 54 Unit ((Rf (List LI))×Unit))) r,zS F x0 x1=some r→D [Enc.enc x0,Arg.arg x1]=some (Enc.enc (r:Bool))
theorem zpr {F:Nat}:zlm (zgI F).den F:=fun x0 x1 _ h=>zR (x0,x1,()) h
theorem zr2 (hF:zw Try.prog D σ) (H:zku D σ F):(zgI F).Ok Try.prog:=okZ (f:=53) Try.func53 fun ⟨x0,x1,_⟩ y hy=>cR hF Try.func53 c53s1 (zo5 H x0 x1 _ ⟨rfl,rfl⟩ hy)
def zno:AC:=(.cond (.t 35) (rr [jm 36 9,jm 6 36]) .skip)
def zmE:AC:=(rr [jm 38 8,jv 39 (.bin .add (.t 38) (jn 1)),jm 8 39])
def zhe:AC:=(.seq (rr [jm 37 9,jm 7 37]) zmE)
def zma:AC:=(.cond (.t 33) (.seq (.seq (rr [jm 34 8,jv 35 (.bin .eql (.t 34) (jn 0))]) zno) zhe) .skip)
def zlU:AC:=(.seq (rr [jm 31 10,jm 32 5,jx 33 (.call (jf 32) [.t 31,.t 32])]) zma)
def zcr:AC:=(rr [jv 40 (.bin .add (.t 26) (jn 1)),jm 26 40])
def zr9:AC:=(.seq (.block 3 (.seq (rr [jm 28 26,jv 29 (.idx (.t 24) (.t 26) 1),jv 30 (.load .p (.t 29)),jm 9 28,jm 10 30]) zlU)) zcr)
def zq4:AC:=(.seq (.cond (.t 27) .skip (.exit 2)) zr9)
def J4:AC:=(.seq (rr [jv 27 (.bin .lss (.t 26) (.t 25))]) zq4)
def zsa:AC:=(.block 2 (.loop J4))
def zhP:AC:=(.cond (.t 50) (.seq (rr [jv 4 (.mov kf)]) .ret) .skip)
def Ks:AC:=(.seq (rr [jm 41 8,jv 42 (.bin .eql (.t 41) (jn 0)),jm 43 42,jg 44 43 false (.mov (.t 7)),jg 45 43 false (.mov (.t 6)),jg 46 43 false (.bin .sub (.t 44) (.t 45)),jg 47 43 false (.bin .add (.t 46) (jn 1)),jg 48 43 false (.mov (.t 8)),jg 49 43 false (.bin .neq (.t 47) (.t 48)),jv 50 (.pick (.t 43) kt (.t 49))]) zhP)
def zrN:AC:=(.seq (.seq (rr [jv 24 (.load .p (.t 3)),jk 25 24,jv 26 (.mov (jn 0))]) zsa) Ks)
def zqq:AC:=(.seq (rr [jv 6 (.mov (jn (-1))),jv 7 (.mov (jn (-1))),jv 8 (.mov (jn 0))]) zrN)
def JD:AC:=(rr [jv 51 (.bin .add (.t 21) (jn 1)),jm 21 51])
def zqQ:AC:=(.seq (.block 1 (.seq (rr [jm 23 21,jm 5 23]) zqq)) JD)
def zoL:AC:=(.seq (.cond (.t 22) .skip (.exit 0)) zqQ)
def YL:AC:=(.seq (rr [jv 22 (.bin .lss (.t 21) (.t 20))]) zoL)
def YY:AC:=(.seq (rr [jv 52 (.fld (.t 2) 1 1),jv 53 (.load .p (.t 52)),jv 54 (.fn 54 [] [.t 3]),jx 55 (.call (jf 53) [.t 53,.t 54]),jv 56 (.un .not (.t 55)),jm 4 56]) .ret)
def zge:AC:=(.cond (.t 18) (.seq (rr [jv 4 (.mov kf)]) .ret) .skip)
def zl2:AC:=(.block 0 (.loop YL))
def zhg:AC:=(.seq (.seq (rr [jv 19 (.fld (.t 2) 0 0),jl 20 19,jv 21 (.mov (jn 0))]) zl2) YY)
def zmC:AC:=(.seq (.seq (rr [jv 11 (.load .p (.t 3)),jk 12 11,jv 13 (.bin .gtr (.t 12) (jn 16)),jm 14 13,jg 15 14 false (.load .p (.t 3)),jg 16 14 false (.fn 51 [] [.t 2]),.mk (some 17) (some (14,false)) false (.call (jf 50) [.t 15,.t 16]),jv 18 (.pick (.t 14) kt (.t 17))]) zge) zhg)
def A30:AC:=(.seq (.reg [.clr [2,3]] [jx 2 (.box (.t 0)),jx 3 (.box (.t 1)),jv 4 (.mov kf)] []) zmC)
def ztJ:List An:=[⟨0,[.clr [2,3]],[],[],[]⟩]
theorem c30:cq Try.prog Try.f30 ztJ=some A30:=by kernel_rfl
structure H30 (D:Den) (σ:Sig) (F:Nat):Prop where
 c50s1:zkE (D 50) F
 g50s1:σ 50=some (0,false)
 c32:C32 (D 32) F
 g32:σ 32=some (0,false)
 c53s1:zlm (D 53) F
 g53s1:σ 53=some (0,false)
abbrev R30 (r:Bool):(Nat→V)→Prop:=RR Try.prog [.tmp 4] 0 false (Enc.enc (r:Bool))
section
variable {r:Bool}
def xE (F:Nat) (x1:GR) (x2:(List LI)) (x31:Int) (x68:Int) (c1:Int→Option Bool) (c4:Int→Int→Int→Int→Option Bool) (x79:Int) (x80:Int) (x81:Int):Option Bool:=
 c4 x79 x80 x81 (w64 (x68 + 1))
theorem za7 (H:H30 D σ F) (x1:GR) (x2:(List LI)) (x31:Int) (x68:Int) (c1:Int→Option Bool) (Hc1:∀ (x31:Int) (s:Nat→V),zr [(2,bG 2 x1),(3,.ref (.bx 3) 0 [] (Enc.enc (x2:List LI))),(4,jb false),(20,ji x1.1),(21,ji x31)] s→c1 x31=some r→Run D σ (R30 r) (.run YL [.lp YL,.bk 0,.sq YY]) s) (c4:Int→Int→Int→Int→Option Bool) (Hc4:∀ (x65:Int) (x66:Int) (x67:Int) (x68:Int) (s:Nat→V),zr [(2,bG 2 x1),(3,.ref (.bx 3) 0 [] (Enc.enc (x2:List LI))),(4,jb false),(5,ji x31),(6,ji x65),(7,ji x66),(8,ji x67),(20,ji x1.1),(21,ji x31),(24,Enc.enc (x2:List LI)),(25,ji (x2.length:Int)),(26,ji x68)] s→c4 x65 x66 x67 x68=some r→Run D σ (R30 r) (.run J4 [.lp J4,.bk 2,.sq Ks,.bk 1,.sq JD,.lp YL,.bk 0,.sq YY]) s) (x79:Int) (x80:Int) (x81:Int) (s:Nat→V) (hs:zr [(2,bG 2 x1),(3,.ref (.bx 3) 0 [] (Enc.enc (x2:List LI))),(4,jb false),(5,ji x31),(6,ji x79),(7,ji x80),(8,ji x81),(20,ji x1.1),(21,ji x31),(24,Enc.enc (x2:List LI)),(25,ji (x2.length:Int)),(26,ji x68)] s) (h:xE F x1 x2 x31 x68 c1 c4 x79 x80 x81=some r):Run D σ (R30 r) (.nrm [.bk 3,.sq zcr,.lp J4,.bk 2,.sq Ks,.bk 1,.sq JD,.lp YL,.bk 0,.sq YY]) s:=by
 unfold xE at h
 obtain ⟨h2,h3,h4,h5,h6,h7,h8,h20,h21,h24,h25,h26⟩:=hs
 refine .nbk (.nsq (rg (g1 26 (ji (w64 (x68 + 1))) h26 fun h40=>gm h40 fun h26=>gq (.nlp ?_))))
 exact Hc4 x79 x80 x81 (w64 (x68 + 1)) _ ⟨h2,h3,h4,h5,h6,h7,h8,h20,h21,h24,h25,h26⟩ h
def xJ (F:Nat) (x1:GR) (x2:(List LI)) (x31:Int) (x66:Int) (x67:Int) (x68:Int) (c1:Int→Option Bool) (c4:Int→Int→Int→Int→Option Bool) (x82:Int):Option Bool:=
 xE F x1 x2 x31 x68 c1 c4 x82 x68 (w64 (x67 + 1))
theorem zbx (H:H30 D σ F) (x1:GR) (x2:(List LI)) (x31:Int) (x66:Int) (x67:Int) (x68:Int) (c1:Int→Option Bool) (Hc1:∀ (x31:Int) (s:Nat→V),zr [(2,bG 2 x1),(3,.ref (.bx 3) 0 [] (Enc.enc (x2:List LI))),(4,jb false),(20,ji x1.1),(21,ji x31)] s→c1 x31=some r→Run D σ (R30 r) (.run YL [.lp YL,.bk 0,.sq YY]) s) (c4:Int→Int→Int→Int→Option Bool) (Hc4:∀ (x65:Int) (x66:Int) (x67:Int) (x68:Int) (s:Nat→V),zr [(2,bG 2 x1),(3,.ref (.bx 3) 0 [] (Enc.enc (x2:List LI))),(4,jb false),(5,ji x31),(6,ji x65),(7,ji x66),(8,ji x67),(20,ji x1.1),(21,ji x31),(24,Enc.enc (x2:List LI)),(25,ji (x2.length:Int)),(26,ji x68)] s→c4 x65 x66 x67 x68=some r→Run D σ (R30 r) (.run J4 [.lp J4,.bk 2,.sq Ks,.bk 1,.sq JD,.lp YL,.bk 0,.sq YY]) s) (x82:Int) (s:Nat→V) (hs:zr [(2,bG 2 x1),(3,.ref (.bx 3) 0 [] (Enc.enc (x2:List LI))),(4,jb false),(5,ji x31),(6,ji x82),(7,ji x66),(8,ji x67),(9,ji x68),(20,ji x1.1),(21,ji x31),(24,Enc.enc (x2:List LI)),(25,ji (x2.length:Int)),(26,ji x68)] s) (h:xJ F x1 x2 x31 x66 x67 x68 c1 c4 x82=some r):Run D σ (R30 r) (.nrm [.sq zhe,.bk 3,.sq zcr,.lp J4,.bk 2,.sq Ks,.bk 1,.sq JD,.lp YL,.bk 0,.sq YY]) s:=by
 unfold xJ at h
 obtain ⟨h2,h3,h4,h5,h6,h7,h8,h9,h20,h21,h24,h25,h26⟩:=hs
 refine .nsq (.seq (rg (gm h9 fun h37=>gm h37 fun h7=>gq (.nsq (rg (gm h8 fun h38=>g1 38 (ji (w64 (x67 + 1))) h38 fun h39=>gm h39 fun h8=>gz [(2,_),(3,_),(4,_),(5,_),(6,_),(7,_),(8,_),(20,_),(21,_),(24,_),(25,_),(26,_)] ⟨h2,h3,h4,h5,h6,h7,h8,h20,h21,h24,h25,h26⟩ ?_))))))
 rintro s ⟨h2,h3,h4,h5,h6,h7,h8,h20,h21,h24,h25,h26⟩
 exact za7 H x1 x2 x31 x68 c1 Hc1 c4 Hc4 x82 x68 (w64 (x67 + 1)) _ ⟨h2,h3,h4,h5,h6,h7,h8,h20,h21,h24,h25,h26⟩ h
def xL (F:Nat) (x1:GR) (x2:(List LI)) (x31:Int) (c1:Int→Option Bool) (x83:Bool):Option Bool:=
 bif x83 then
  some false
 else
  c1 (w64 (x31 + 1))
theorem zb9 (H:H30 D σ F) (x1:GR) (x2:(List LI)) (x31:Int) (c1:Int→Option Bool) (Hc1:∀ (x31:Int) (s:Nat→V),zr [(2,bG 2 x1),(3,.ref (.bx 3) 0 [] (Enc.enc (x2:List LI))),(4,jb false),(20,ji x1.1),(21,ji x31)] s→c1 x31=some r→Run D σ (R30 r) (.run YL [.lp YL,.bk 0,.sq YY]) s) (x83:Bool) (s:Nat→V) (hs:zr [(2,bG 2 x1),(3,.ref (.bx 3) 0 [] (Enc.enc (x2:List LI))),(4,jb false),(20,ji x1.1),(21,ji x31),(50,jb x83)] s) (h:xL F x1 x2 x31 c1 x83=some r):Run D σ (R30 r) (.nrm [.sq zhP,.bk 1,.sq JD,.lp YL,.bk 0,.sq YY]) s:=by
 unfold xL at h
 obtain ⟨h2,h3,h4,h20,h21,h50⟩:=hs
 refine .nsq (zk h50 h (fun h=>?_) (fun h=>?_))
 · refine .seq (rg (g0 (jb false) fun h4=>gq (.nsq (.ret ?_))))
   obtain rfl:=oi h
   exact rrA (zl h4) rfl
 refine .skip (.nbk (.nsq (rg (g1 21 (ji (w64 (x31 + 1))) h21 fun h51=>gm h51 fun h21=>gq (.nlp ?_)))))
 exact Hc1 (w64 (x31 + 1)) _ ⟨h2,h3,h4,h20,h21⟩ h
def yi (F:Nat) (x1:GR) (x2:(List LI)) (x31:Int) (c1:Int→Option Bool):Nat→Int→Int→Int→Int→Option Bool
 | 0,_,_,_,_=>none
 | k + 1,x65,x66,x67,x68=>
   bif decide (x68 < (x2.length:Int)) then
    (idx x2 x68).bind fun v76=>
    (y3 F v76 x31).bind fun r77=>
    bif r77 then
     bif (x67 == 0) then
      xJ F x1 x2 x31 x66 x67 x68 c1 (yi F x1 x2 x31 c1 k) x68
     else
      xJ F x1 x2 x31 x66 x67 x68 c1 (yi F x1 x2 x31 c1 k) x65
    else
     xE F x1 x2 x31 x68 c1 (yi F x1 x2 x31 c1 k) x65 x66 x67
   else
    bif (x67 == 0) then
     xL F x1 x2 x31 c1 true
    else
     xL F x1 x2 x31 c1 ((w64 ((w64 (x66 - x65)) + 1)) != x67)
theorem zhX (H:H30 D σ F) (x1:GR) (x2:(List LI)) (x31:Int) (c1:Int→Option Bool) (Hc1:∀ (x31:Int) (s:Nat→V),zr [(2,bG 2 x1),(3,.ref (.bx 3) 0 [] (Enc.enc (x2:List LI))),(4,jb false),(20,ji x1.1),(21,ji x31)] s→c1 x31=some r→Run D σ (R30 r) (.run YL [.lp YL,.bk 0,.sq YY]) s):∀ (k:Nat) (x65:Int) (x66:Int) (x67:Int) (x68:Int) (s:Nat→V),zr [(2,bG 2 x1),(3,.ref (.bx 3) 0 [] (Enc.enc (x2:List LI))),(4,jb false),(5,ji x31),(6,ji x65),(7,ji x66),(8,ji x67),(20,ji x1.1),(21,ji x31),(24,Enc.enc (x2:List LI)),(25,ji (x2.length:Int)),(26,ji x68)] s→yi F x1 x2 x31 c1 k x65 x66 x67 x68=some r→Run D σ (R30 r) (.run J4 [.lp J4,.bk 2,.sq Ks,.bk 1,.sq JD,.lp YL,.bk 0,.sq YY]) s:=by
 intro k
 induction k with
 | zero=>intro x65 x66 x67 x68 s _ h;exact nm h
 | succ k ih=>
   intro x65 x66 x67 x68 s hs h
   rw [yi] at h
   obtain ⟨h2,h3,h4,h5,h6,h7,h8,h20,h21,h24,h25,h26⟩:=hs
   refine .seq (rg (g2 26 25 (jb (decide (x68 < (x2.length:Int)))) h26 h25 fun h27=>gq (.nsq (.seq (zk h27 h (fun h=>?_) (fun h=>?_))))))
   · refine .skip (.nsq (.seq (.block (.seq (rg (gm h26 fun h28=>?_))))))
     obtain ⟨v76,Ev76,h⟩:=zb h
     refine gv (.ref .sh 0 [] (eL v76)) (yn (t:=.sh) (lo:=0) (xs:=x2) h24 h26 Ev76 rfl rfl) fun h29=>g1 29 (eL v76) h29 fun h30=>gm h28 fun h9=>gm h30 fun h10=>gq (.nsq (.seq (rg (gm h10 fun h31=>gm h5 fun h32=>?_))))
     obtain ⟨r77,Er77,h⟩:=zb h
     refine gcF [eL v76,Enc.enc (x31:Int)] (zg h31 rfl (Enc.erase_enc (v76:LI)) (zg h32 rfl rfl zF)) (H.c32 _ _ _ Er77) H.g32 (gq (.nsq (zk rfl h (fun h=>?_) (fun h=>?_))))
     · refine .seq (.seq (rg (gm h8 fun h34=>g1 34 (jb (x67 == 0)) h34 fun h35=>gq (.nsq (zk h35 h (fun h=>?_) (fun h=>?_))))))
       · refine rg (gm h9 fun h36=>gm h36 fun h6=>gq ?_)
         exact zbx H x1 x2 x31 x66 x67 x68 c1 Hc1 (yi F x1 x2 x31 c1 k) ih x68 _ ⟨h2,h3,h4,h5,h6,h7,h8,h9,h20,h21,h24,h25,h26⟩ h
       refine .skip ?_
       exact zbx H x1 x2 x31 x66 x67 x68 c1 Hc1 (yi F x1 x2 x31 c1 k) ih x65 _ ⟨h2,h3,h4,h5,h6,h7,h8,h9,h20,h21,h24,h25,h26⟩ h
     refine .skip ?_
     exact za7 H x1 x2 x31 x68 c1 Hc1 (yi F x1 x2 x31 c1 k) ih x65 x66 x67 _ ⟨h2,h3,h4,h5,h6,h7,h8,h20,h21,h24,h25,h26⟩ h
   refine .exit (.esq (.elp (.ebk (.nsq (.seq (rg (gm h8 fun h41=>g1 41 (jb (x67 == 0)) h41 fun h42=>gm h42 fun h43=>z6 h (fun hg3 h=>?_) (fun hg3 h=>?_))))))))
   · iterate 6 refine yJ (ct h43 hg3) ?_
     refine g2 43 49 (jb true) (ct h43 hg3) (rf (.tup [])) fun h50=>gq ?_
     exact zb9 H x1 x2 x31 c1 Hc1 true _ ⟨h2,h3,h4,h20,h21,h50⟩ h
   refine zo (ct h43 hg3) (gm h7 fun h44=>zo (ct h43 hg3) (gm h6 fun h45=>zo (ct h43 hg3) (g2 44 45 (ji (w64 (x66 - x65))) h44 h45 fun h46=>zo (ct h43 hg3) (g1 46 (ji (w64 ((w64 (x66 - x65)) + 1))) h46 fun h47=>zo (ct h43 hg3) (gm h8 fun h48=>zo (ct h43 hg3) (g2 47 48 (jb ((w64 ((w64 (x66 - x65)) + 1)) != x67)) h47 h48 fun h49=>g2 43 49 (jb ((w64 ((w64 (x66 - x65)) + 1)) != x67)) (ct h43 hg3) h49 fun h50=>gq ?_))))))
   exact zb9 H x1 x2 x31 c1 Hc1 ((w64 ((w64 (x66 - x65)) + 1)) != x67) _ ⟨h2,h3,h4,h20,h21,h50⟩ h
def yz (F:Nat) (x1:GR) (x2:(List LI)) :Nat→Int→Option Bool
 | 0,_=>none
 | k + 1,x31=>
   bif decide (x31 < x1.1) then
    yi F x1 x2 x31 (yz F x1 x2 k) F (-1) (-1) 0 0
   else
    (zS F x1.2 (Cl.mk () ((Rf.mk x2:(Rf (List LI))),()):(Cl 54 Unit ((Rf (List LI))×Unit)))).bind fun r84=>
    some (!r84)
theorem zgu (H:H30 D σ F) (x1:GR) (x2:(List LI)) :∀ (k:Nat) (x31:Int) (s:Nat→V),zr [(2,bG 2 x1),(3,.ref (.bx 3) 0 [] (Enc.enc (x2:List LI))),(4,jb false),(20,ji x1.1),(21,ji x31)] s→yz F x1 x2 k x31=some r→Run D σ (R30 r) (.run YL [.lp YL,.bk 0,.sq YY]) s:=by
 intro k
 induction k with
 | zero=>intro x31 s _ h;exact nm h
 | succ k ih=>
   intro x31 s hs h
   rw [yz] at h
   obtain ⟨h2,h3,h4,h20,h21⟩:=hs
   refine .seq (rg (g2 21 20 (jb (decide (x31 < x1.1))) h21 h20 fun h22=>gq (.nsq (.seq (zk h22 h (fun h=>?_) (fun h=>?_))))))
   · refine .skip (.nsq (.seq (.block (.seq (rg (gm h21 fun h23=>gm h23 fun h5=>gq (.nsq (.seq (rg (g0 (ji (-1)) fun h6=>g0 (ji (-1)) fun h7=>g0 (ji 0) fun h8=>gq (.nsq (.seq (.seq (rg (g1 3 (Enc.enc (x2:List LI)) h3 fun h24=>gl x2 h24 fun h25=>g0 (ji 0) fun h26=>gq (.nsq (.block (.loop ?_))))))))))))))))))
     exact zhX H x1 x2 x31 (yz F x1 x2 k) ih F (-1) (-1) 0 0 _ ⟨h2,h3,h4,h5,h6,h7,h8,h20,h21,h24,h25,h26⟩ h
   refine .exit (.esq (.elp (.ebk (.nsq (.seq (rg (g1 2 (.ref (.bx 2) 0 [1] (eP x1.2)) h2 fun h52=>g1 52 (eP x1.2) h52 fun h53=>g1 3 (.fn 54 [] [.ref (.bx 3) 0 [] (Enc.enc (x2:List LI))]) h3 fun h54=>?_)))))))
   obtain ⟨r84,Er84,h⟩:=zb h
   refine gcF [eP x1.2,Arg.arg ((Cl.mk () ((Rf.mk x2:(Rf (List LI))),()):(Cl 54 Unit ((Rf (List LI))×Unit))):(Cl 54 Unit ((Rf (List LI))×Unit)))] (zg h53 rfl (Enc.erase_enc (x1.2:TP)) (zg h54 rfl (Xx yL (xP (Za (Enc.erase_enc (x2:(List LI)))) yL)) zF)) (H.c53s1 _ _ _ Er84) H.g53s1 (g1 55 (jb (!r84)) (rf (jb r84)) fun h56=>gm h56 fun h4=>gq (.nsq (.ret ?_)))
   obtain rfl:=oi h
   exact rrA (zl h4) rfl
def xG (F:Nat) (x1:GR) (x2:(List LI))  (x4:Bool):Option Bool:=
 bif x4 then
  some false
 else
  yz F x1 x2 F 0
theorem zbV (H:H30 D σ F) (x1:GR) (x2:(List LI))  (x4:Bool) (s:Nat→V) (hs:zr [(2,bG 2 x1),(3,.ref (.bx 3) 0 [] (Enc.enc (x2:List LI))),(4,jb false),(18,jb x4)] s) (h:xG F x1 x2  x4=some r):Run D σ (R30 r) (.nrm [.sq zge,.sq zhg]) s:=by
 unfold xG at h
 obtain ⟨h2,h3,h4,h18⟩:=hs
 refine .nsq (zk h18 h (fun h=>?_) (fun h=>?_))
 · refine .seq (rg (g0 (jb false) fun h4=>gq (.nsq (.ret ?_))))
   obtain rfl:=oi h
   exact rrA (zl h4) rfl
 refine .skip (.nsq (.seq (.seq (rg (g1 2 (.ref (.bx 2) 0 [0] (ji x1.1)) h2 fun h19=>g1 19 (ji x1.1) h19 fun h20=>g0 (ji 0) fun h21=>gq (.nsq (.block (.loop ?_))))))))
 exact zgu H x1 x2 F 0 _ ⟨h2,h3,h4,h20,h21⟩ h
def y0 (F:Nat) (x1:GR) (x2:(List LI)):Option Bool:=
 bif decide ((x2.length:Int) > 16) then
  xG F x1 x2 true
 else
  (zY F x2 (Cl.mk () ((Rf.mk x1:(Rf GR)),()):(Cl 51 Unit ((Rf GR)×Unit)))).bind fun r85=>
  xG F x1 x2 r85
theorem t30 (H:H30 D σ F) (x1:GR) (x2:(List LI)) (s:Nat→V) (hs:zr [(0,gV x1),(1,Enc.enc (x2:List LI))] s) (h:y0 F x1 x2=some r):Run D σ (R30 r) (.run A30 []) s:=by
 unfold y0 at h
 obtain ⟨h0,h1⟩:=hs
 refine .seq (zC (ye ?_))
 refine ez [(0,_),(1,_),(2,_),(3,_)] ⟨za h0 rfl mIE,za h1 rfl me,ze rfl,ze rfl⟩ ?_
 rintro s ⟨h0,h1,h2,h3⟩
 refine wa (gV x1) (zI h0 rfl) h2 rfl (wa (Enc.enc (x2:List LI)) (zI h1 rfl) h3 rfl (g0 (jb false) fun h4=>gq (.nsq (.seq (.seq (rg (g1 3 (Enc.enc (x2:List LI)) (rf (.ref (.bx 3) 0 [] (Enc.enc (x2:List LI)))) fun h11=>gl x2 h11 fun h12=>g1 12 (jb (decide ((x2.length:Int) > 16))) h12 fun h13=>gm h13 fun h14=>z6 h (fun hg4 h=>?_) (fun hg4 h=>?_))))))))
 · iterate 3 refine yJ (ct h14 hg4) ?_
   refine g2 14 17 (jb true) (ct h14 hg4) (rf (.tup [])) fun h18=>gq ?_
   exact zbV H x1 x2 true _ ⟨rfl,rfl,h4,h18⟩ h
 refine zo (ct h14 hg4) (g1 3 (Enc.enc (x2:List LI)) (rf (.ref (.bx 3) 0 [] (Enc.enc (x2:List LI)))) fun h15=>zo (ct h14 hg4) (g1 2 (.fn 51 [] [bG 2 x1]) (rf (bG 2 x1)) fun h16=>?_))
 obtain ⟨r85,Er85,h⟩:=zb h
 refine zo (ct h14 hg4) (gcF [Enc.enc (x2:(List LI)),Arg.arg ((Cl.mk () ((Rf.mk x1:(Rf GR)),()):(Cl 51 Unit ((Rf GR)×Unit))):(Cl 51 Unit ((Rf GR)×Unit)))] (zg h15 rfl (Enc.erase_enc (x2:(List LI))) (zg h16 rfl (Xx yL (xP (Za (Enc.erase_enc (x1:GR))) yL)) zF)) (H.c50s1 _ _ _ Er85) H.g50s1 (g2 14 17 (jb r85) (ct h14 hg4) (rf (jb r85)) fun h18=>gq ?_))
 exact zbV H x1 x2 r85 _ ⟨rfl,rfl,h4,h18⟩ h
end
def e30 (F:Nat):Ent:=ent 30 (fun (x:(GR×(List LI)×Unit))=>y0 F x.1 x.2.1) (fun (r:Bool)=>(Enc.enc (r:Bool))) 0 false []
abbrev C30 (D:List V→Option V) (F:Nat):Prop:=∀ (x0:GR) (x1:(List LI)) r,y0 F x0 x1=some r→D [Enc.enc x0,Enc.enc x1]=some (Enc.enc (r:Bool))
theorem p30 {F:Nat}:C30 (e30 F).den F:=fun x0 x1 _ h=>zR (x0,x1,()) h
theorem o30 (hF:zw Try.prog D σ) (H:H30 D σ F):(e30 F).Ok Try.prog:=okZ (f:=30) Try.func30 fun ⟨x0,x1,_⟩ y hy=>cR hF Try.func30 c30 (t30 H x0 x1 _ ⟨rfl,rfl⟩ hy)
def zqj:AC:=(.cond (.t 8) (.seq (rr [jv 4 (.mov kf),jv 5 (.mov kf)]) .ret) .skip)
def zrb:AC:=(.seq (rr [jv 9 (.load (.ag [.s,.p]) (.t 2)),jm 10 1,jx 11 (.call (jf 30) [.t 9,.t 10]),jm 4 11,jv 5 (.mov kt)]) .ret)
def zrX:AC:=(.seq (.seq (rr [jv 6 (.load (.ag [.s,.p]) (.t 2)),jx 7 (.call (jf 20) [.t 6]),jv 8 (.un .not (.t 7))]) zqj) zrb)
def A10:AC:=(.seq (.reg [.clr [2]] [jx 2 (.box (.t 0)),jv 4 (.mov kf),jv 5 (.mov kf)] []) zrX)
def zun:List An:=[⟨0,[.clr [2]],[],[],[]⟩]
theorem c10:cq Try.prog Try.f10 zun=some A10:=by kernel_rfl
structure H10 (D:Den) (σ:Sig) (F:Nat):Prop where
 c20:C20 (D 20) F
 g20:σ 20=some (0,false)
 c30:C30 (D 30) F
 g30:σ 30=some (0,false)
abbrev R10 (r:(Bool×Bool)):(Nat→V)→Prop:=RR Try.prog [.tmp 4,.tmp 5] 0 false (.tup [Enc.enc (r.1:Bool),Enc.enc (r.2:Bool)])
section
variable {r:(Bool×Bool)}
def yE (F:Nat) (x1:GR) (x2:(List LI)):Option (Bool×Bool):=
 (wW F x1).bind fun r3=>
 bif (!r3) then
  some (false,false)
 else
  (y0 F x1 x2).bind fun r4=>
  some (r4,true)
theorem t10 (H:H10 D σ F) (x1:GR) (x2:(List LI)) (s:Nat→V) (hs:zr [(0,gV x1),(1,Enc.enc (x2:List LI))] s) (h:yE F x1 x2=some r):Run D σ (R10 r) (.run A10 []) s:=by
 unfold yE at h
 obtain ⟨h0,h1⟩:=hs
 refine .seq (zC (ye ?_))
 refine ez [(0,_),(1,_),(2,_)] ⟨za h0 rfl mIE,za h1 rfl me,ze rfl⟩ ?_
 rintro s ⟨h0,h1,h2⟩
 refine wa (gV x1) (zI h0 rfl) h2 rfl (g0 (jb false) fun h4=>g0 (jb false) fun h5=>gq (.nsq (.seq (.seq (rg (g1 2 (gV x1) (rf (bG 2 x1)) fun h6=>?_))))))
 obtain ⟨r3,Er3,h⟩:=zb h
 refine gcF [Enc.enc (x1:GR)] (zg h6 rfl (Enc.erase_enc (x1:GR)) zF) (H.c20 _ _ Er3) H.g20 (g1 7 (jb (!r3)) (rf (jb r3)) fun h8=>gq (.nsq (zk h8 h (fun h=>?_) (fun h=>?_))))
 · refine .seq (rg (g0 (jb false) fun h4=>g0 (jb false) fun h5=>gq (.nsq (.ret ?_))))
   obtain rfl:=oi h
   exact rrB (zl h4) (zl h5) rfl
 refine .skip (.nsq (.seq (rg (g1 2 (gV x1) (rf (bG 2 x1)) fun h9=>gm h1 fun h10=>?_))))
 obtain ⟨r4,Er4,h⟩:=zb h
 refine gcF [Enc.enc (x1:GR),Enc.enc (x2:(List LI))] (zg h9 rfl (Enc.erase_enc (x1:GR)) (zg h10 rfl (Enc.erase_enc (x2:(List LI))) zF)) (H.c30 _ _ _ Er4) H.g30 (gm (rf (jb r4)) fun h4=>g0 (jb true) fun h5=>gq (.nsq (.ret ?_)))
 obtain rfl:=oi h
 exact rrB (zl h4) (zl h5) rfl
end
def e10 (F:Nat):Ent:=ent 10 (fun (x:(GR×(List LI)×Unit))=>yE F x.1 x.2.1) (fun (r:(Bool×Bool))=>(.tup [Enc.enc (r.1:Bool),Enc.enc (r.2:Bool)])) 0 false []
abbrev C10 (D:List V→Option V) (F:Nat):Prop:=∀ (x0:GR) (x1:(List LI)) r,yE F x0 x1=some r→D [Enc.enc x0,Enc.enc x1]=some (.tup [Enc.enc (r.1:Bool),Enc.enc (r.2:Bool)])
theorem p10 {F:Nat}:C10 (e10 F).den F:=fun x0 x1 _ h=>zR (x0,x1,()) h
theorem o10 (hF:zw Try.prog D σ) (H:H10 D σ F):(e10 F).Ok Try.prog:=okZ (f:=10) Try.func10 fun ⟨x0,x1,_⟩ y hy=>cR hF Try.func10 c10 (t10 H x0 x1 _ ⟨rfl,rfl⟩ hy)
end Go.Zq
